import Derived.Test.YtjcagpcpbfmldaaGw
import Derived.Test.YtjcagpcpbfmldaaProg
import Derived.Test.YtjcagpcpbfmldaaT
import Derived.Test.YtjcagpcpbfmldaaW1
import Derived.Test.YtjcagpcpbfmldaaW2
import Derived.Test.YtjcagpcpbfmldaaW3
import Derived.Test.YtjcagpcpbfmldaaW4
set_option linter.unusedVariables false
set_option linter.unusedSimpArgs false
set_option maxRecDepth 100000
set_option maxHeartbeats 4000000
namespace Go.Proofs
open Gw Go.RowKit
/- tarn/heap.rise -/
def g_heap_rise_l1 (K45 : (List TNode) → Int → Option ((List TNode) × Int)) (fuel : Nat) : Nat → (List TNode) → Int → Option ((List TNode) × Int)
  | 0, _, _ => none
  | n + 1, l46, x47 => jn (fun (c103 : Bool) => br c103 (jn (fun (l121 : List TNode) => lt (wr .i64 (x47 - 1)) fun x165 => lt (wr .i64 (Int.tdiv x165 2)) fun x166 => g_heap_rise_l1 K45 fuel n l121 x166) fun K140 => lt (wr .i64 (x47 - 1)) fun x142 => lt (wr .i64 (Int.tdiv x142 2)) fun x143 => lt (wr .i64 (x47 - 1)) fun x144 => lt (wr .i64 (Int.tdiv x144 2)) fun x145 => gd ((0 : Int) ≤ x145 ∧ x145 < ((List.length l46 : Nat) : Int)) <| bd (l46[Int.toNat x145]?) fun x147 => gd ((0 : Int) ≤ x47 ∧ x47 < ((List.length l46 : Nat) : Int)) <| bd (l46[Int.toNat x47]?) fun x149 => gd ((0 : Int) ≤ x47 ∧ x47 < ((List.length l46 : Nat) : Int)) <| lt (List.set l46 (Int.toNat x47) x147) fun l151 => gd ((0 : Int) ≤ x143 ∧ x143 < ((List.length l46 : Nat) : Int)) <| lt (List.set l151 (Int.toNat x143) x149) fun l153 => K140 l153) (K45 l46 x47)) fun K104 => lt (decide (x47 > 0)) fun c105 => br c105 (gd ((0 : Int) ≤ x47 ∧ x47 < ((List.length l46 : Nat) : Int)) <| bd (l46[Int.toNat x47]?) fun x109 => lt (wr .i64 (x47 - 1)) fun x110 => lt (wr .i64 (Int.tdiv x110 2)) fun x111 => gd ((0 : Int) ≤ x111 ∧ x111 < ((List.length l46 : Nat) : Int)) <| bd (l46[Int.toNat x111]?) fun x113 => bd (g_heap_order fuel x109 x113) fun t114 => lt (decide (t114 < 0)) fun c115 => K104 c115) (K104 false)
def g_heap_rise (fuel : Nat) (l2 : List TNode) (p4 : Int) : Option ((List TNode) × Int) :=
  jn (fun (l6 : List TNode) (x7 : Int) => some (l6, x7)) fun K45 => g_heap_rise_l1 K45 fuel fuel l2 p4
theorem g_heap_rise_w (fuel : Nat) (s1 : Value) (l2 : List TNode) (p4 : Int) (r : (List TNode) × Int) (h : g_heap_rise fuel l2 p4 = some r) (w0 : World) (hm : (Own fTNode 33 s1 l2).holds w0) :
    Ret Try.prog 34 #[s1, vi p4] w0 (fun v w' => v = vi r.2 ∧ St (Own fTNode 33 s1 l2).fp w0 w' [Own fTNode 33 s1 r.1]) := by
  unfold g_heap_rise at h
  refine ret_of_wp Try.func34 rfl #[s1, vi p4, Z, Z, Z, Z, Z, Z, Z, Z, Z, Z, Z, Z, Z, Z, Z, Z, Z, Z, Z, Z, Z, Z, Z, Z, Z, Z, Z, Z, Z, Z, Z, Z, Z, Z, Z, Z, Z, Z, Z, Z, Z] (by kernel_rfl) ?_
  have H0 := St.start1 hm
  have sf5 := Own.isSl (St.get H0 0 rfl)
  refine WP.seq ?_
  refine WP.region ?_
  refine WPI.run 1 ⟨#[s1, vi p4, Z, Z, vi 0, Z, Z, Z, Z, Z, Z, Z, Z, Z, Z, Z, Z, Z, Z, Z, Z, Z, Z, Z, Z, Z, Z, Z, Z, Z, Z, Z, Z, Z, Z, Z, Z, Z, Z, Z, Z, Z, Z], []⟩ w0 (fun K => by kernel_rfl) ?_
  refine WPI.done rfl ?_
  refine then_n ?_
  refine WP.seq ?_
  obtain ⟨K45, hK45, h⟩ := jn_some h
  refine WP.blockJ (fun a w => ∃ (l6 : List TNode) (x7 : Int) (g8 : Value) (g9 : Value) (g10 : Value) (g11 : Value) (g12 : Value) (g13 : Value) (g14 : Value) (g15 : Value) (g16 : Value) (g17 : Value) (g18 : Value) (g19 : Value) (g20 : Value) (g21 : Value) (g22 : Value) (g23 : Value) (g24 : Value) (g25 : Value) (g26 : Value) (g27 : Value) (g28 : Value) (g29 : Value) (g30 : Value) (g31 : Value) (g32 : Value) (g33 : Value) (g34 : Value) (g35 : Value) (g36 : Value) (g37 : Value) (g38 : Value) (g39 : Value) (g40 : Value) (g41 : Value) (g42 : Value) (g43 : Value) (g44 : Value), a = ⟨#[s1, vi x7, Z, Z, vi 0, g8, g9, g10, g11, g12, g13, g14, g15, g16, g17, g18, g19, g20, g21, g22, g23, g24, g25, g26, g27, g28, g29, g30, g31, g32, g33, g34, g35, g36, g37, g38, g39, g40, g41, g42, g43, g44, Z], []⟩ ∧ St (Own fTNode 33 s1 l2).fp w0 w [Own fTNode 33 s1 l6] ∧ K45 l6 x7 = some r) ?_ ?_
  · skip
    refine WP.loop (fun n a w => ∃ (l46 : List TNode) (x47 : Int) (g48 : Value) (g49 : Value) (g50 : Value) (g51 : Value) (g52 : Value) (g53 : Value) (g54 : Value) (g55 : Value) (g56 : Value) (g57 : Value) (g58 : Value) (g59 : Value) (g60 : Value) (g61 : Value) (g62 : Value) (g63 : Value) (g64 : Value) (g65 : Value) (g66 : Value) (g67 : Value) (g68 : Value) (g69 : Value) (g70 : Value) (g71 : Value) (g72 : Value) (g73 : Value) (g74 : Value) (g75 : Value) (g76 : Value) (g77 : Value) (g78 : Value) (g79 : Value) (g80 : Value) (g81 : Value) (g82 : Value) (g83 : Value) (g84 : Value), a = ⟨#[s1, vi x47, Z, Z, vi 0, g48, g49, g50, g51, g52, g53, g54, g55, g56, g57, g58, g59, g60, g61, g62, g63, g64, g65, g66, g67, g68, g69, g70, g71, g72, g73, g74, g75, g76, g77, g78, g79, g80, g81, g82, g83, g84, Z], []⟩ ∧ St (Own fTNode 33 s1 l2).fp w0 w [Own fTNode 33 s1 l46] ∧ g_heap_rise_l1 K45 fuel n l46 x47 = some r) fuel ⟨l2, p4, _, _, _, _, _, _, _, _, _, _, _, _, _, _, _, _, _, _, _, _, _, _, _, _, _, _, _, _, _, _, _, _, _, _, _, _, _, rfl, St.sel H0 [0] (by decide) rfl, h⟩ ?_
    rintro n a w ⟨l46, x47, g48, g49, g50, g51, g52, g53, g54, g55, g56, g57, g58, g59, g60, g61, g62, g63, g64, g65, g66, g67, g68, g69, g70, g71, g72, g73, g74, g75, g76, g77, g78, g79, g80, g81, g82, g83, g84, rfl, H, h⟩
    cases n with
    | zero => rw [g_heap_rise_l1] at h; cases h
    | succ n =>
      rw [g_heap_rise_l1] at h
      obtain ⟨w85, rfl⟩ : ∃ x, x = w := ⟨_, rfl⟩
      have H86 := H; clear H
      have sf87 := Own.isSl (St.get H86 0 rfl)
      refine WP.seq ?_
      refine WP.seq ?_
      obtain ⟨K104, hK104, h⟩ := jn_some h
      refine WP.onlyN (fun a w => ∃ (c103 : Bool) (g88 : Value) (g89 : Value) (g90 : Value) (g91 : Value) (g92 : Value) (g93 : Value) (g94 : Value) (g95 : Value) (g96 : Value) (g97 : Value) (g98 : Value) (g99 : Value) (g100 : Value) (g101 : Value) (g102 : Value), a = ⟨#[s1, vi x47, Z, Z, vi 0, g88, g89, g90, g91, g92, g93, g94, g95, g96, g97, g98, g99, g100, g101, g102, vb c103, g64, g65, g66, g67, g68, g69, g70, g71, g72, g73, g74, g75, g76, g77, g78, g79, g80, g81, g82, g83, g84, Z], []⟩ ∧ St (Own fTNode 33 s1 l2).fp w0 w [Own fTNode 33 s1 l46] ∧ K104 c103 = some r) ?_ ?_
      · skip
        refine WP.quiet (by kernel_rfl) (by kernel_rfl) (by kernel_rfl) (fun w => St (Own fTNode 33 s1 l2).fp w0 w [Own fTNode 33 s1 l46]) (St.drew H86) ?_
        refine WQ.value (v := vi x47) rfl (by kernel_rfl) (fun w _ => by kernel_rfl) ?_
        obtain ⟨c105, hc105, h⟩ := lt_some h
        refine WQ.value (v := vb c105) rfl (by kernel_rfl) (fun w _ => by subst hc105; kernel_rfl) ?_
        refine WQ.value (v := vb c105) rfl (by kernel_rfl) (fun w _ => by kernel_rfl) ?_
        cases c105 with
        | false =>
          replace h := br_f h
          refine WQ.off rfl (by kernel_rfl) ?_
          refine WQ.off rfl (by kernel_rfl) ?_
          refine WQ.off rfl (by kernel_rfl) ?_
          refine WQ.off rfl (by kernel_rfl) ?_
          refine WQ.off rfl (by kernel_rfl) ?_
          refine WQ.off rfl (by kernel_rfl) ?_
          refine WQ.off rfl (by kernel_rfl) ?_
          refine WQ.off rfl (by kernel_rfl) ?_
          refine WQ.off rfl (by kernel_rfl) ?_
          refine WQ.off rfl (by kernel_rfl) ?_
          refine WQ.off rfl (by kernel_rfl) ?_
          refine WQ.off rfl (by kernel_rfl) ?_
          refine WQ.value (v := vb false) rfl (by kernel_rfl) (fun w _ => by kernel_rfl) ?_
          refine WQ.frame (a' := ⟨#[s1, vi x47, Z, Z, vi 0, vi x47, vb false, vb false, Z, Z, Z, Z, Z, Z, Z, Z, Z, Z, Z, Z, vb false, g64, g65, g66, g67, g68, g69, g70, g71, g72, g73, g74, g75, g76, g77, g78, g79, g80, g81, g82, g83, g84, Z], []⟩) (by kernel_rfl) ?_
          refine WQ.done rfl ?_
          refine (fun w106 H107 => ?_)
          exact ⟨false, _, _, _, _, _, _, _, _, _, _, _, _, _, _, _, rfl, St.sel H107 [0] (by decide) rfl, h⟩
        | true =>
          replace h := br_t h
          refine WQ.value (v := s1) rfl (by kernel_rfl) (fun w _ => by kernel_rfl) ?_
          refine WQ.value (v := vi x47) rfl (by kernel_rfl) (fun w _ => by kernel_rfl) ?_
          obtain ⟨hg108, h⟩ := gd_some h
          refine WQ.value (v := va (slAt s1 6 (Int.toNat x47))) rfl (by kernel_rfl) (fun w H => ev_index sf87 22 (.tmp 8) (.tmp 9) 33 6 48 .i64 x47 rfl (by kernel_rfl) (by kernel_rfl) (by kernel_rfl) hg108) ?_
          obtain ⟨x109, hx109, h⟩ := bd_some h
          refine WQ.value (v := TNode.val x109) rfl (by kernel_rfl) (fun w H => ev_loadEl (F := fTNode) (St.rd H 0 rfl) (hp_no_le _) hx109 33 (.tmp 10) 0 (TNode.val x109) rfl (by kernel_rfl) (by kernel_rfl)) ?_
          refine WQ.value (v := s1) rfl (by kernel_rfl) (fun w _ => by kernel_rfl) ?_
          refine WQ.value (v := vi x47) rfl (by kernel_rfl) (fun w _ => by kernel_rfl) ?_
          obtain ⟨x110, hx110, h⟩ := lt_some h
          refine WQ.value (v := vi x110) rfl (by kernel_rfl) (fun w _ => by subst hx110; kernel_rfl) ?_
          obtain ⟨x111, hx111, h⟩ := lt_some h
          refine WQ.value (v := vi x111) rfl (by kernel_rfl) (fun w _ => by subst hx111; kernel_rfl) ?_
          obtain ⟨hg112, h⟩ := gd_some h
          refine WQ.value (v := va (slAt s1 6 (Int.toNat x111))) rfl (by kernel_rfl) (fun w H => ev_index sf87 22 (.tmp 12) (.tmp 15) 33 6 48 .i64 x111 rfl (by kernel_rfl) (by kernel_rfl) (by kernel_rfl) hg112) ?_
          obtain ⟨x113, hx113, h⟩ := bd_some h
          refine WQ.value (v := TNode.val x113) rfl (by kernel_rfl) (fun w H => ev_loadEl (F := fTNode) (St.rd H 0 rfl) (hp_no_le _) hx113 33 (.tmp 16) 0 (TNode.val x113) rfl (by kernel_rfl) (by kernel_rfl)) ?_
          obtain ⟨t114, ht114, h⟩ := bd_some h
          refine WQ.call (v := vi t114) rfl (by kernel_rfl) (fun w => by kernel_rfl) (fun w H => Ret.mono (g_heap_order_w fuel x109 x113 t114 ht114 _) fun u w1 hu => ⟨hu.1, St.call0' H hu.2⟩) ?_
          obtain ⟨c115, hc115, h⟩ := lt_some h
          refine WQ.value (v := vb c115) rfl (by kernel_rfl) (fun w _ => by subst hc115; kernel_rfl) ?_
          refine WQ.value (v := vb c115) rfl (by kernel_rfl) (fun w _ => by kernel_rfl) ?_
          refine WQ.frame (a' := ⟨#[s1, vi x47, Z, Z, vi 0, vi x47, vb true, vb true, s1, vi x47, va (slAt s1 6 (Int.toNat x47)), TNode.val x109, s1, vi x47, vi x110, vi x111, va (slAt s1 6 (Int.toNat x111)), TNode.val x113, vi t114, vb c115, vb c115, g64, g65, g66, g67, g68, g69, g70, g71, g72, g73, g74, g75, g76, g77, g78, g79, g80, g81, g82, g83, g84, Z], []⟩) (by kernel_rfl) ?_
          refine WQ.done rfl ?_
          refine (fun w116 H117 => ?_)
          exact ⟨c115, _, _, _, _, _, _, _, _, _, _, _, _, _, _, _, rfl, St.sel H117 [0] (by decide) rfl, h⟩
      · rintro a w ⟨c103, g88, g89, g90, g91, g92, g93, g94, g95, g96, g97, g98, g99, g100, g101, g102, rfl, H, h⟩
        subst hK104
        obtain ⟨w118, rfl⟩ : ∃ x, x = w := ⟨_, rfl⟩
        have H119 := H; clear H
        have sf120 := Own.isSl (St.get H119 0 rfl)
        refine then_n ?_
        cases c103 with
        | false =>
          replace h := br_f h
          refine WP.condF (by kernel_rfl) ?_
          refine WP.exit ?_
          exact then_e (then_e (inb_e (then_n ⟨l46, x47, _, _, _, _, _, _, _, _, _, _, _, _, _, _, _, _, _, _, _, _, _, _, _, _, _, _, _, _, _, _, _, _, _, _, _, _, _, rfl, St.sel H119 [0] (by decide) rfl, h⟩)))
        | true =>
          replace h := br_t h
          refine WP.condT (by kernel_rfl) ?_
          refine WP.skip ?_
          refine then_n ?_
          refine WP.block ?_
          refine WP.seq ?_
          obtain ⟨K140, hK140, h⟩ := jn_some h
          refine WP.draw (by kernel_rfl) (by kernel_rfl) (fun a w => ∃ (l121 : List TNode) (g122 : Value) (g123 : Value) (g124 : Value) (g125 : Value) (g126 : Value) (g127 : Value) (g128 : Value) (g129 : Value) (g130 : Value) (g131 : Value) (g132 : Value) (g133 : Value) (g134 : Value) (g135 : Value) (g136 : Value) (g137 : Value) (g138 : Value) (g139 : Value), a = ⟨#[s1, vi x47, Z, Z, vi 0, g88, g89, g90, g91, g92, g93, g94, g95, g96, g97, g98, g99, g100, g101, g102, vb true, g122, g123, g124, g125, g126, g127, g128, g129, g130, g131, g132, g133, g134, g135, g136, g137, g138, g139, g82, g83, g84, Z], []⟩ ∧ St (Own fTNode 33 s1 l2).fp w0 w [Own fTNode 33 s1 l121] ∧ K140 l121 = some r) 20 #[false, false, false, false, false, false, false, false, false, false, false, false, false, false, false, false, false, false, false, false] (by kernel_rfl) (by kernel_rfl) ?_ ?_
          · skip
            have H141 := St.drew H119
            obtain ⟨x142, hx142, h⟩ := lt_some h
            obtain ⟨x143, hx143, h⟩ := lt_some h
            obtain ⟨x144, hx144, h⟩ := lt_some h
            obtain ⟨x145, hx145, h⟩ := lt_some h
            obtain ⟨hg146, h⟩ := gd_some h
            obtain ⟨x147, hx147, h⟩ := bd_some h
            obtain ⟨hg148, h⟩ := gd_some h
            obtain ⟨x149, hx149, h⟩ := bd_some h
            obtain ⟨hg150, h⟩ := gd_some h
            obtain ⟨l151, hl151, h⟩ := lt_some h
            obtain ⟨hg152, h⟩ := gd_some h
            obtain ⟨l153, hl153, h⟩ := lt_some h
            refine WA.take 0 (v := s1) rfl (by kernel_rfl) (by kernel_rfl) (fun w => by kernel_rfl) (fun w => by kernel_rfl) (l' := #[true, false, false, false, false, false, false, false, false, false, false, false, false, false, false, false, false, false, false, false]) (by kernel_rfl) ?_
            refine WA.take 1 (v := vi x47) rfl (by kernel_rfl) (by kernel_rfl) (fun w => by kernel_rfl) (fun w => by kernel_rfl) (l' := #[true, true, false, false, false, false, false, false, false, false, false, false, false, false, false, false, false, false, false, false]) (by kernel_rfl) ?_
            refine WA.take 2 (v := s1) rfl (by kernel_rfl) (by kernel_rfl) (fun w => by kernel_rfl) (fun w => by kernel_rfl) (l' := #[true, true, true, false, false, false, false, false, false, false, false, false, false, false, false, false, false, false, false, false]) (by kernel_rfl) ?_
            refine WA.take 3 (v := vi x47) rfl (by kernel_rfl) (by kernel_rfl) (fun w => by kernel_rfl) (fun w => by kernel_rfl) (l' := #[true, true, true, true, false, false, false, false, false, false, false, false, false, false, false, false, false, false, false, false]) (by kernel_rfl) ?_
            refine WA.take 4 (v := vi x142) rfl (by kernel_rfl) (by kernel_rfl) (fun w => by subst hx142; kernel_rfl) (fun w => by kernel_rfl) (l' := #[true, true, true, true, true, false, false, false, false, false, false, false, false, false, false, false, false, false, false, false]) (by kernel_rfl) ?_
            refine WA.take 5 (v := vi x143) rfl (by kernel_rfl) (by kernel_rfl) (fun w => by subst hx143; kernel_rfl) (fun w => by kernel_rfl) (l' := #[true, true, true, true, true, true, false, false, false, false, false, false, false, false, false, false, false, false, false, false]) (by kernel_rfl) ?_
            refine WA.take 6 (v := s1) rfl (by kernel_rfl) (by kernel_rfl) (fun w => by kernel_rfl) (fun w => by kernel_rfl) (l' := #[true, true, true, true, true, true, true, false, false, false, false, false, false, false, false, false, false, false, false, false]) (by kernel_rfl) ?_
            refine WA.take 7 (v := vi x47) rfl (by kernel_rfl) (by kernel_rfl) (fun w => by kernel_rfl) (fun w => by kernel_rfl) (l' := #[true, true, true, true, true, true, true, true, false, false, false, false, false, false, false, false, false, false, false, false]) (by kernel_rfl) ?_
            refine WA.take 8 (v := vi x144) rfl (by kernel_rfl) (by kernel_rfl) (fun w => by subst hx144; kernel_rfl) (fun w => by kernel_rfl) (l' := #[true, true, true, true, true, true, true, true, true, false, false, false, false, false, false, false, false, false, false, false]) (by kernel_rfl) ?_
            refine WA.take 9 (v := vi x145) rfl (by kernel_rfl) (by kernel_rfl) (fun w => by subst hx145; kernel_rfl) (fun w => by kernel_rfl) (l' := #[true, true, true, true, true, true, true, true, true, true, false, false, false, false, false, false, false, false, false, false]) (by kernel_rfl) ?_
            refine WA.take 10 (v := va (slAt s1 6 (Int.toNat x145))) rfl (by kernel_rfl) (by kernel_rfl) (fun w => ev_index sf120 22 (.tmp 27) (.tmp 30) 33 6 48 .i64 x145 rfl (by kernel_rfl) (by kernel_rfl) (by kernel_rfl) hg146) (fun w => by kernel_rfl) (l' := #[true, true, true, true, true, true, true, true, true, true, true, false, false, false, false, false, false, false, false, false]) (by kernel_rfl) ?_
            refine WA.take 12 (v := s1) rfl (by kernel_rfl) (by kernel_rfl) (fun w => by kernel_rfl) (fun w => by kernel_rfl) (l' := #[true, true, true, true, true, true, true, true, true, true, true, false, true, false, false, false, false, false, false, false]) (by kernel_rfl) ?_
            refine WA.take 13 (v := vi x47) rfl (by kernel_rfl) (by kernel_rfl) (fun w => by kernel_rfl) (fun w => by kernel_rfl) (l' := #[true, true, true, true, true, true, true, true, true, true, true, false, true, true, false, false, false, false, false, false]) (by kernel_rfl) ?_
            refine WA.take 14 (v := va (slAt s1 6 (Int.toNat x47))) rfl (by kernel_rfl) (by kernel_rfl) (fun w => ev_index sf120 22 (.tmp 33) (.tmp 34) 33 6 48 .i64 x47 rfl (by kernel_rfl) (by kernel_rfl) (by kernel_rfl) hg148) (fun w => by kernel_rfl) (l' := #[true, true, true, true, true, true, true, true, true, true, true, false, true, true, true, false, false, false, false, false]) (by kernel_rfl) ?_
            refine WA.any [11, 15] (by kernel_rfl) (by simp) ?_
            simp only [List.mem_cons, List.not_mem_nil, or_false, forall_eq_or_imp, forall_eq]
            refine ⟨?_, ?_⟩
            · skip
              refine WO.op rfl (Op1.val (v := TNode.val x147) (by kernel_rfl) (ev_loadEl (F := fTNode) (St.rd H141 0 rfl) (hp_no_le _) hx147 33 (.tmp 31) 0 (TNode.val x147) rfl (by kernel_rfl) (by kernel_rfl)) ?_)
              refine WA.lst (l := #[true, true, true, true, true, true, true, true, true, true, true, true, true, true, true, false, false, false, false, false]) (by kernel_rfl) ?_
              refine WA.any [15] (by kernel_rfl) (by simp) ?_
              simp only [List.mem_singleton, forall_eq]
              refine WO.op rfl (Op1.val (v := TNode.val x149) (by kernel_rfl) (ev_loadEl (F := fTNode) (St.rd H141 0 rfl) (hp_no_le _) hx149 33 (.tmp 35) 0 (TNode.val x149) rfl (by kernel_rfl) (by kernel_rfl)) ?_)
              refine WA.lst (l := #[true, true, true, true, true, true, true, true, true, true, true, true, true, true, true, true, false, false, false, false]) (by kernel_rfl) ?_
              refine WA.take 16 (v := va (slAt s1 6 (Int.toNat x47))) rfl (by kernel_rfl) (by kernel_rfl) (fun w => ev_index sf120 22 (.tmp 21) (.tmp 22) 33 6 48 .i64 x47 rfl (by kernel_rfl) (by kernel_rfl) (by kernel_rfl) hg150) (fun w => by kernel_rfl) (l' := #[true, true, true, true, true, true, true, true, true, true, true, true, true, true, true, true, true, false, false, false]) (by kernel_rfl) ?_
              refine WA.any [17] (by kernel_rfl) (by simp) ?_
              simp only [List.mem_singleton, forall_eq]
              refine WO.op rfl (Op1.storeOwn H141 0 rfl (by kernel_rfl) 33 (.tmp 37) (.tmp 32) (Int.toNat x47) x147 true rfl (by kernel_rfl) (by kernel_rfl) (by kernel_rfl) (idx_lt hg150) (fun w154 H155 => ?_))
              rw [← hl151] at H155
              clear H141
              refine WA.lst (l := #[true, true, true, true, true, true, true, true, true, true, true, true, true, true, true, true, true, true, false, false]) (by kernel_rfl) ?_
              refine WA.take 18 (v := va (slAt s1 6 (Int.toNat x143))) rfl (by kernel_rfl) (by kernel_rfl) (fun w => ev_index sf120 22 (.tmp 23) (.tmp 26) 33 6 48 .i64 x143 rfl (by kernel_rfl) (by kernel_rfl) (by kernel_rfl) hg152) (fun w => by kernel_rfl) (l' := #[true, true, true, true, true, true, true, true, true, true, true, true, true, true, true, true, true, true, true, false]) (by kernel_rfl) ?_
              refine WA.any [19] (by kernel_rfl) (by simp) ?_
              simp only [List.mem_singleton, forall_eq]
              refine WO.op rfl (Op1.storeOwn H155 0 rfl (by kernel_rfl) 33 (.tmp 38) (.tmp 36) (Int.toNat x143) x149 true rfl (by kernel_rfl) (by kernel_rfl) (by kernel_rfl) (by simp only [hl151, List.length_set]; exact idx_lt hg152) (fun w156 H157 => ?_))
              rw [← hl153] at H157
              clear H155
              refine WA.lst (l := #[true, true, true, true, true, true, true, true, true, true, true, true, true, true, true, true, true, true, true, true]) (by kernel_rfl) ?_
              refine WA.done (by kernel_rfl) ?_
              exact ⟨l153, s1, (vi x47), s1, (vi x47), (vi x142), (vi x143), s1, (vi x47), (vi x144), (vi x145), (va (slAt s1 6 (Int.toNat x145))), (TNode.val x147), s1, (vi x47), (va (slAt s1 6 (Int.toNat x47))), (TNode.val x149), (va (slAt s1 6 (Int.toNat x47))), (va (slAt s1 6 (Int.toNat x143))), (by kernel_rfl), St.sel H157 [0] (by decide) rfl, h⟩
            · skip
              refine WO.op rfl (Op1.val (v := TNode.val x149) (by kernel_rfl) (ev_loadEl (F := fTNode) (St.rd H141 0 rfl) (hp_no_le _) hx149 33 (.tmp 35) 0 (TNode.val x149) rfl (by kernel_rfl) (by kernel_rfl)) ?_)
              refine WA.lst (l := #[true, true, true, true, true, true, true, true, true, true, true, false, true, true, true, true, false, false, false, false]) (by kernel_rfl) ?_
              refine WA.any [11] (by kernel_rfl) (by simp) ?_
              simp only [List.mem_singleton, forall_eq]
              refine WO.op rfl (Op1.val (v := TNode.val x147) (by kernel_rfl) (ev_loadEl (F := fTNode) (St.rd H141 0 rfl) (hp_no_le _) hx147 33 (.tmp 31) 0 (TNode.val x147) rfl (by kernel_rfl) (by kernel_rfl)) ?_)
              refine WA.lst (l := #[true, true, true, true, true, true, true, true, true, true, true, true, true, true, true, true, false, false, false, false]) (by kernel_rfl) ?_
              refine WA.take 16 (v := va (slAt s1 6 (Int.toNat x47))) rfl (by kernel_rfl) (by kernel_rfl) (fun w => ev_index sf120 22 (.tmp 21) (.tmp 22) 33 6 48 .i64 x47 rfl (by kernel_rfl) (by kernel_rfl) (by kernel_rfl) hg150) (fun w => by kernel_rfl) (l' := #[true, true, true, true, true, true, true, true, true, true, true, true, true, true, true, true, true, false, false, false]) (by kernel_rfl) ?_
              refine WA.any [17] (by kernel_rfl) (by simp) ?_
              simp only [List.mem_singleton, forall_eq]
              refine WO.op rfl (Op1.storeOwn H141 0 rfl (by kernel_rfl) 33 (.tmp 37) (.tmp 32) (Int.toNat x47) x147 true rfl (by kernel_rfl) (by kernel_rfl) (by kernel_rfl) (idx_lt hg150) (fun w158 H159 => ?_))
              rw [← hl151] at H159
              clear H141
              refine WA.lst (l := #[true, true, true, true, true, true, true, true, true, true, true, true, true, true, true, true, true, true, false, false]) (by kernel_rfl) ?_
              refine WA.take 18 (v := va (slAt s1 6 (Int.toNat x143))) rfl (by kernel_rfl) (by kernel_rfl) (fun w => ev_index sf120 22 (.tmp 23) (.tmp 26) 33 6 48 .i64 x143 rfl (by kernel_rfl) (by kernel_rfl) (by kernel_rfl) hg152) (fun w => by kernel_rfl) (l' := #[true, true, true, true, true, true, true, true, true, true, true, true, true, true, true, true, true, true, true, false]) (by kernel_rfl) ?_
              refine WA.any [19] (by kernel_rfl) (by simp) ?_
              simp only [List.mem_singleton, forall_eq]
              refine WO.op rfl (Op1.storeOwn H159 0 rfl (by kernel_rfl) 33 (.tmp 38) (.tmp 36) (Int.toNat x143) x149 true rfl (by kernel_rfl) (by kernel_rfl) (by kernel_rfl) (by simp only [hl151, List.length_set]; exact idx_lt hg152) (fun w160 H161 => ?_))
              rw [← hl153] at H161
              clear H159
              refine WA.lst (l := #[true, true, true, true, true, true, true, true, true, true, true, true, true, true, true, true, true, true, true, true]) (by kernel_rfl) ?_
              refine WA.done (by kernel_rfl) ?_
              exact ⟨l153, s1, (vi x47), s1, (vi x47), (vi x142), (vi x143), s1, (vi x47), (vi x144), (vi x145), (va (slAt s1 6 (Int.toNat x145))), (TNode.val x147), s1, (vi x47), (va (slAt s1 6 (Int.toNat x47))), (TNode.val x149), (va (slAt s1 6 (Int.toNat x47))), (va (slAt s1 6 (Int.toNat x143))), (by kernel_rfl), St.sel H161 [0] (by decide) rfl, h⟩
          · rintro a w ⟨l121, g122, g123, g124, g125, g126, g127, g128, g129, g130, g131, g132, g133, g134, g135, g136, g137, g138, g139, rfl, H, h⟩
            subst hK140
            obtain ⟨w162, rfl⟩ : ∃ x, x = w := ⟨_, rfl⟩
            have H163 := H; clear H
            have sf164 := Own.isSl (St.get H163 0 rfl)
            refine then_n ?_
            refine WP.region ?_
            obtain ⟨x165, hx165, h⟩ := lt_some h
            obtain ⟨x166, hx166, h⟩ := lt_some h
            refine WPI.run 4 ⟨#[s1, vi x166, Z, Z, vi 0, g88, g89, g90, g91, g92, g93, g94, g95, g96, g97, g98, g99, g100, g101, g102, vb true, g122, g123, g124, g125, g126, g127, g128, g129, g130, g131, g132, g133, g134, g135, g136, g137, g138, g139, vi x47, vi x165, vi x166, Z], []⟩ w162 (fun K => by subst hx166 hx165; kernel_rfl) ?_
            refine WPI.done rfl ?_
            exact inb_n (then_n ⟨n, Nat.lt_succ_self n, l121, x166, _, _, _, _, _, _, _, _, _, _, _, _, _, _, _, _, _, _, _, _, _, _, _, _, _, _, _, _, _, _, _, _, _, _, _, _, _, rfl, St.sel H163 [0] (by decide) rfl, h⟩)
  · rintro a w ⟨l6, x7, g8, g9, g10, g11, g12, g13, g14, g15, g16, g17, g18, g19, g20, g21, g22, g23, g24, g25, g26, g27, g28, g29, g30, g31, g32, g33, g34, g35, g36, g37, g38, g39, g40, g41, g42, g43, g44, rfl, H, h⟩
    subst hK45
    obtain ⟨w167, rfl⟩ : ∃ x, x = w := ⟨_, rfl⟩
    have H168 := H; clear H
    have sf169 := Own.isSl (St.get H168 0 rfl)
    refine then_n ?_
    refine WP.seq ?_
    refine WP.region ?_
    refine WPI.run 2 ⟨#[s1, vi x7, Z, Z, vi x7, g8, g9, g10, g11, g12, g13, g14, g15, g16, g17, g18, g19, g20, g21, g22, g23, g24, g25, g26, g27, g28, g29, g30, g31, g32, g33, g34, g35, g36, g37, g38, g39, g40, g41, g42, g43, g44, vi x7], []⟩ w167 (fun K => by kernel_rfl) ?_
    refine WPI.done rfl ?_
    refine then_n ?_
    refine WP.ret ?_
    obtain rfl := Option.some.inj h
    exact post_r (vi x7) rfl (by kernel_rfl) ⟨rfl, St.sel H168 [0] (by decide) rfl⟩
/- tarn/heap.sink -/
def g_heap_sink_l1 (fuel : Nat) (K63 : (List TNode) → Option (List TNode)) : Nat → (List TNode) → Int → Option (List TNode)
  | 0, _, _ => none
  | n + 1, l64, x65 => lt (wr .i64 (2 * x65)) fun x124 => lt (wr .i64 (x124 + 1)) fun x125 => lt (decide (x125 < (((List.length l64 : Nat) : Int)))) fun c126 => br c126 (jn (fun (l127 : List TNode) (x128 : Int) => g_heap_sink_l1 fuel K63 n l127 x128) fun K178 => lt (wr .i64 (2 * x65)) fun x179 => lt (wr .i64 (x179 + 1)) fun x180 => jn (fun (x181 : Int) => gd ((0 : Int) ≤ x181 ∧ x181 < ((List.length l64 : Nat) : Int)) <| bd (l64[Int.toNat x181]?) fun x243 => gd ((0 : Int) ≤ x65 ∧ x65 < ((List.length l64 : Nat) : Int)) <| bd (l64[Int.toNat x65]?) fun x245 => bd (g_heap_order fuel x243 x245) fun t246 => lt (decide (t246 ≥ 0)) fun c247 => br c247 (K63 l64) (jn (fun (l250 : List TNode) => K178 l250 x181) fun K265 => gd ((0 : Int) ≤ x181 ∧ x181 < ((List.length l64 : Nat) : Int)) <| bd (l64[Int.toNat x181]?) fun x268 => gd ((0 : Int) ≤ x65 ∧ x65 < ((List.length l64 : Nat) : Int)) <| bd (l64[Int.toNat x65]?) fun x270 => gd ((0 : Int) ≤ x65 ∧ x65 < ((List.length l64 : Nat) : Int)) <| lt (List.set l64 (Int.toNat x65) x268) fun l272 => gd ((0 : Int) ≤ x181 ∧ x181 < ((List.length l64 : Nat) : Int)) <| lt (List.set l272 (Int.toNat x181) x270) fun l274 => K265 l274)) fun K202 => jn (fun (c220 : Bool) => br c220 (lt (wr .i64 (x180 + 1)) fun x238 => K202 x238) (K202 x180)) fun K221 => lt (wr .i64 (x180 + 1)) fun x222 => lt (decide (x222 < (((List.length l64 : Nat) : Int)))) fun c223 => br c223 (lt (wr .i64 (x180 + 1)) fun x226 => gd ((0 : Int) ≤ x226 ∧ x226 < ((List.length l64 : Nat) : Int)) <| bd (l64[Int.toNat x226]?) fun x228 => gd ((0 : Int) ≤ x180 ∧ x180 < ((List.length l64 : Nat) : Int)) <| bd (l64[Int.toNat x180]?) fun x230 => bd (g_heap_order fuel x228 x230) fun t231 => lt (decide (t231 < 0)) fun c232 => K221 c232) (K221 false)) (K63 l64)
def g_heap_sink (fuel : Nat) (l2 : List TNode) (p4 : Int) : Option (List TNode) :=
  jn (fun (l6 : List TNode) => some l6) fun K63 => g_heap_sink_l1 fuel K63 fuel l2 p4
theorem g_heap_sink_w (fuel : Nat) (s1 : Value) (l2 : List TNode) (p4 : Int) (r : List TNode) (h : g_heap_sink fuel l2 p4 = some r) (w0 : World) (hm : (Own fTNode 33 s1 l2).holds w0) :
    Ret Try.prog 46 #[s1, vi p4] w0 (fun v w' => v = .tuple #[] ∧ St (Own fTNode 33 s1 l2).fp w0 w' [Own fTNode 33 s1 r]) := by
  unfold g_heap_sink at h
  refine ret_of_wp Try.func46 rfl #[s1, vi p4, Z, Z, Z, Z, Z, Z, Z, Z, Z, Z, Z, Z, Z, Z, Z, Z, Z, Z, Z, Z, Z, Z, Z, Z, Z, Z, Z, Z, Z, Z, Z, Z, Z, Z, Z, Z, Z, Z, Z, Z, Z, Z, Z, Z, Z, Z, Z, Z, Z, Z, Z, Z, Z, Z, Z, Z, Z] (by kernel_rfl) ?_
  have H0 := St.start1 hm
  have sf5 := Own.isSl (St.get H0 0 rfl)
  refine WP.scope ?_
  refine WP.seq ?_
  refine WP.label ?_
  refine then_n ?_
  obtain ⟨K63, hK63, h⟩ := jn_some h
  refine WP.blockJ (fun a w => ∃ (l6 : List TNode) (g7 : Value) (g8 : Value) (g9 : Value) (g10 : Value) (g11 : Value) (g12 : Value) (g13 : Value) (g14 : Value) (g15 : Value) (g16 : Value) (g17 : Value) (g18 : Value) (g19 : Value) (g20 : Value) (g21 : Value) (g22 : Value) (g23 : Value) (g24 : Value) (g25 : Value) (g26 : Value) (g27 : Value) (g28 : Value) (g29 : Value) (g30 : Value) (g31 : Value) (g32 : Value) (g33 : Value) (g34 : Value) (g35 : Value) (g36 : Value) (g37 : Value) (g38 : Value) (g39 : Value) (g40 : Value) (g41 : Value) (g42 : Value) (g43 : Value) (g44 : Value) (g45 : Value) (g46 : Value) (g47 : Value) (g48 : Value) (g49 : Value) (g50 : Value) (g51 : Value) (g52 : Value) (g53 : Value) (g54 : Value) (g55 : Value) (g56 : Value) (g57 : Value) (g58 : Value) (g59 : Value) (g60 : Value) (g61 : Value) (g62 : Value), a = ⟨#[s1, g7, Z, Z, g8, g9, g10, g11, g12, g13, g14, g15, g16, g17, g18, g19, g20, g21, g22, g23, g24, g25, g26, g27, g28, g29, g30, g31, g32, g33, g34, g35, g36, g37, g38, g39, g40, g41, g42, g43, g44, g45, g46, g47, g48, g49, g50, g51, g52, g53, g54, g55, g56, g57, g58, g59, g60, g61, g62], []⟩ ∧ St (Own fTNode 33 s1 l2).fp w0 w [Own fTNode 33 s1 l6] ∧ K63 l6 = some r) ?_ ?_
  · skip
    refine WP.loop (fun n a w => ∃ (l64 : List TNode) (x65 : Int) (g66 : Value) (g67 : Value) (g68 : Value) (g69 : Value) (g70 : Value) (g71 : Value) (g72 : Value) (g73 : Value) (g74 : Value) (g75 : Value) (g76 : Value) (g77 : Value) (g78 : Value) (g79 : Value) (g80 : Value) (g81 : Value) (g82 : Value) (g83 : Value) (g84 : Value) (g85 : Value) (g86 : Value) (g87 : Value) (g88 : Value) (g89 : Value) (g90 : Value) (g91 : Value) (g92 : Value) (g93 : Value) (g94 : Value) (g95 : Value) (g96 : Value) (g97 : Value) (g98 : Value) (g99 : Value) (g100 : Value) (g101 : Value) (g102 : Value) (g103 : Value) (g104 : Value) (g105 : Value) (g106 : Value) (g107 : Value) (g108 : Value) (g109 : Value) (g110 : Value) (g111 : Value) (g112 : Value) (g113 : Value) (g114 : Value) (g115 : Value) (g116 : Value) (g117 : Value) (g118 : Value) (g119 : Value) (g120 : Value), a = ⟨#[s1, vi x65, Z, Z, g66, g67, g68, g69, g70, g71, g72, g73, g74, g75, g76, g77, g78, g79, g80, g81, g82, g83, g84, g85, g86, g87, g88, g89, g90, g91, g92, g93, g94, g95, g96, g97, g98, g99, g100, g101, g102, g103, g104, g105, g106, g107, g108, g109, g110, g111, g112, g113, g114, g115, g116, g117, g118, g119, g120], []⟩ ∧ St (Own fTNode 33 s1 l2).fp w0 w [Own fTNode 33 s1 l64] ∧ g_heap_sink_l1 fuel K63 n l64 x65 = some r) fuel ⟨l2, p4, _, _, _, _, _, _, _, _, _, _, _, _, _, _, _, _, _, _, _, _, _, _, _, _, _, _, _, _, _, _, _, _, _, _, _, _, _, _, _, _, _, _, _, _, _, _, _, _, _, _, _, _, _, _, _, rfl, St.sel H0 [0] (by decide) rfl, h⟩ ?_
    rintro n a w ⟨l64, x65, g66, g67, g68, g69, g70, g71, g72, g73, g74, g75, g76, g77, g78, g79, g80, g81, g82, g83, g84, g85, g86, g87, g88, g89, g90, g91, g92, g93, g94, g95, g96, g97, g98, g99, g100, g101, g102, g103, g104, g105, g106, g107, g108, g109, g110, g111, g112, g113, g114, g115, g116, g117, g118, g119, g120, rfl, H, h⟩
    cases n with
    | zero => rw [g_heap_sink_l1] at h; cases h
    | succ n =>
      rw [g_heap_sink_l1] at h
      obtain ⟨w121, rfl⟩ : ∃ x, x = w := ⟨_, rfl⟩
      have H122 := H; clear H
      have sf123 := Own.isSl (St.get H122 0 rfl)
      refine WP.seq ?_
      refine WP.seq ?_
      refine WP.region ?_
      obtain ⟨x124, hx124, h⟩ := lt_some h
      obtain ⟨x125, hx125, h⟩ := lt_some h
      refine WPI.run 4 ⟨#[s1, vi x65, Z, Z, g66, vi x65, vi x124, vi x125, s1, g71, g72, g73, g74, g75, g76, g77, g78, g79, g80, g81, g82, g83, g84, g85, g86, g87, g88, g89, g90, g91, g92, g93, g94, g95, g96, g97, g98, g99, g100, g101, g102, g103, g104, g105, g106, g107, g108, g109, g110, g111, g112, g113, g114, g115, g116, g117, g118, g119, g120], []⟩ w121 (fun K => by subst hx125 hx124; kernel_rfl) ?_
      refine WPI.value (v := vi (((List.length l64 : Nat) : Int))) rfl (by kernel_rfl) (ev_len sf123 22 (.tmp 8) 33 6 48 rfl (by kernel_rfl) (by kernel_rfl)) ?_
      obtain ⟨c126, hc126, h⟩ := lt_some h
      refine WPI.run 1 ⟨#[s1, vi x65, Z, Z, g66, vi x65, vi x124, vi x125, s1, vi (((List.length l64 : Nat) : Int)), vb c126, g73, g74, g75, g76, g77, g78, g79, g80, g81, g82, g83, g84, g85, g86, g87, g88, g89, g90, g91, g92, g93, g94, g95, g96, g97, g98, g99, g100, g101, g102, g103, g104, g105, g106, g107, g108, g109, g110, g111, g112, g113, g114, g115, g116, g117, g118, g119, g120], []⟩ w121 (fun K => by subst hc126; kernel_rfl) ?_
      refine WPI.done rfl ?_
      refine then_n ?_
      cases c126 with
      | false =>
        replace h := br_f h
        refine WP.condF (by kernel_rfl) ?_
        refine WP.exit ?_
        exact then_e (then_e (inb_e (then_n ⟨l64, _, _, _, _, _, _, _, _, _, _, _, _, _, _, _, _, _, _, _, _, _, _, _, _, _, _, _, _, _, _, _, _, _, _, _, _, _, _, _, _, _, _, _, _, _, _, _, _, _, _, _, _, _, _, _, _, rfl, St.sel H122 [0] (by decide) rfl, h⟩)))
      | true =>
        replace h := br_t h
        refine WP.condT (by kernel_rfl) ?_
        refine WP.skip ?_
        refine then_n ?_
        obtain ⟨K178, hK178, h⟩ := jn_some h
        refine WP.blockJ (fun a w => ∃ (l127 : List TNode) (x128 : Int) (g129 : Value) (g130 : Value) (g131 : Value) (g132 : Value) (g133 : Value) (g134 : Value) (g135 : Value) (g136 : Value) (g137 : Value) (g138 : Value) (g139 : Value) (g140 : Value) (g141 : Value) (g142 : Value) (g143 : Value) (g144 : Value) (g145 : Value) (g146 : Value) (g147 : Value) (g148 : Value) (g149 : Value) (g150 : Value) (g151 : Value) (g152 : Value) (g153 : Value) (g154 : Value) (g155 : Value) (g156 : Value) (g157 : Value) (g158 : Value) (g159 : Value) (g160 : Value) (g161 : Value) (g162 : Value) (g163 : Value) (g164 : Value) (g165 : Value) (g166 : Value) (g167 : Value) (g168 : Value) (g169 : Value) (g170 : Value) (g171 : Value) (g172 : Value) (g173 : Value) (g174 : Value) (g175 : Value) (g176 : Value) (g177 : Value), a = ⟨#[s1, vi x128, Z, Z, g129, vi x65, vi x124, vi x125, s1, vi (((List.length l64 : Nat) : Int)), vb true, g130, g131, g132, g133, g134, g135, g136, g137, g138, g139, g140, g141, g142, g143, g144, g145, g146, g147, g148, g149, g150, g151, g152, g153, g154, g155, g156, g157, g158, g159, g160, g161, g162, g163, g164, g165, g166, g167, g168, g169, g170, g171, g172, g173, g174, g175, g176, g177], []⟩ ∧ St (Own fTNode 33 s1 l2).fp w0 w [Own fTNode 33 s1 l127] ∧ K178 l127 x128 = some r) ?_ ?_
        · skip
          refine WP.seq ?_
          refine WP.region ?_
          obtain ⟨x179, hx179, h⟩ := lt_some h
          obtain ⟨x180, hx180, h⟩ := lt_some h
          refine WPI.run 4 ⟨#[s1, vi x65, Z, Z, vi x180, vi x65, vi x124, vi x125, s1, vi (((List.length l64 : Nat) : Int)), vb true, vi x65, vi x179, vi x180, g76, g77, g78, g79, g80, g81, g82, g83, g84, g85, g86, g87, g88, g89, g90, g91, g92, g93, g94, g95, g96, g97, g98, g99, g100, g101, g102, g103, g104, g105, g106, g107, g108, g109, g110, g111, g112, g113, g114, g115, g116, g117, g118, g119, g120], []⟩ w121 (fun K => by subst hx180 hx179; kernel_rfl) ?_
          refine WPI.done rfl ?_
          refine then_n ?_
          obtain ⟨K202, hK202, h⟩ := jn_some h
          refine WP.seqJ (fun a w => ∃ (x181 : Int) (g182 : Value) (g183 : Value) (g184 : Value) (g185 : Value) (g186 : Value) (g187 : Value) (g188 : Value) (g189 : Value) (g190 : Value) (g191 : Value) (g192 : Value) (g193 : Value) (g194 : Value) (g195 : Value) (g196 : Value) (g197 : Value) (g198 : Value) (g199 : Value) (g200 : Value) (g201 : Value), a = ⟨#[s1, vi x65, Z, Z, vi x181, vi x65, vi x124, vi x125, s1, vi (((List.length l64 : Nat) : Int)), vb true, vi x65, vi x179, vi x180, g182, g183, g184, g185, g186, g187, g188, g189, g190, g191, g192, g193, g194, g195, g196, g197, g198, g199, g200, g201, g96, g97, g98, g99, g100, g101, g102, g103, g104, g105, g106, g107, g108, g109, g110, g111, g112, g113, g114, g115, g116, g117, g118, g119, g120], []⟩ ∧ St (Own fTNode 33 s1 l2).fp w0 w [Own fTNode 33 s1 l64] ∧ K202 x181 = some r) ?_ ?_
          · skip
            refine WP.seq ?_
            obtain ⟨K221, hK221, h⟩ := jn_some h
            refine WP.onlyN (fun a w => ∃ (c220 : Bool) (g203 : Value) (g204 : Value) (g205 : Value) (g206 : Value) (g207 : Value) (g208 : Value) (g209 : Value) (g210 : Value) (g211 : Value) (g212 : Value) (g213 : Value) (g214 : Value) (g215 : Value) (g216 : Value) (g217 : Value) (g218 : Value) (g219 : Value), a = ⟨#[s1, vi x65, Z, Z, vi x180, vi x65, vi x124, vi x125, s1, vi (((List.length l64 : Nat) : Int)), vb true, vi x65, vi x179, vi x180, g203, g204, g205, g206, g207, g208, g209, g210, g211, g212, g213, g214, g215, g216, g217, g218, g219, vb c220, g94, g95, g96, g97, g98, g99, g100, g101, g102, g103, g104, g105, g106, g107, g108, g109, g110, g111, g112, g113, g114, g115, g116, g117, g118, g119, g120], []⟩ ∧ St (Own fTNode 33 s1 l2).fp w0 w [Own fTNode 33 s1 l64] ∧ K221 c220 = some r) ?_ ?_
            · skip
              refine WP.quiet (by kernel_rfl) (by kernel_rfl) (by kernel_rfl) (fun w => St (Own fTNode 33 s1 l2).fp w0 w [Own fTNode 33 s1 l64]) (St.drew H122) ?_
              refine WQ.value (v := vi x180) rfl (by kernel_rfl) (fun w _ => by kernel_rfl) ?_
              obtain ⟨x222, hx222, h⟩ := lt_some h
              refine WQ.value (v := vi x222) rfl (by kernel_rfl) (fun w _ => by subst hx222; kernel_rfl) ?_
              refine WQ.value (v := s1) rfl (by kernel_rfl) (fun w _ => by kernel_rfl) ?_
              refine WQ.value (v := vi (((List.length l64 : Nat) : Int))) rfl (by kernel_rfl) (fun w H => ev_len sf123 22 (.tmp 16) 33 6 48 rfl (by kernel_rfl) (by kernel_rfl)) ?_
              obtain ⟨c223, hc223, h⟩ := lt_some h
              refine WQ.value (v := vb c223) rfl (by kernel_rfl) (fun w _ => by subst hc223; kernel_rfl) ?_
              refine WQ.value (v := vb c223) rfl (by kernel_rfl) (fun w _ => by kernel_rfl) ?_
              cases c223 with
              | false =>
                replace h := br_f h
                refine WQ.off rfl (by kernel_rfl) ?_
                refine WQ.off rfl (by kernel_rfl) ?_
                refine WQ.off rfl (by kernel_rfl) ?_
                refine WQ.off rfl (by kernel_rfl) ?_
                refine WQ.off rfl (by kernel_rfl) ?_
                refine WQ.off rfl (by kernel_rfl) ?_
                refine WQ.off rfl (by kernel_rfl) ?_
                refine WQ.off rfl (by kernel_rfl) ?_
                refine WQ.off rfl (by kernel_rfl) ?_
                refine WQ.off rfl (by kernel_rfl) ?_
                refine WQ.off rfl (by kernel_rfl) ?_
                refine WQ.value (v := vb false) rfl (by kernel_rfl) (fun w _ => by kernel_rfl) ?_
                refine WQ.frame (a' := ⟨#[s1, vi x65, Z, Z, vi x180, vi x65, vi x124, vi x125, s1, vi (((List.length l64 : Nat) : Int)), vb true, vi x65, vi x179, vi x180, vi x180, vi x222, s1, vi (((List.length l64 : Nat) : Int)), vb false, vb false, Z, Z, Z, Z, Z, Z, Z, Z, Z, Z, Z, vb false, g94, g95, g96, g97, g98, g99, g100, g101, g102, g103, g104, g105, g106, g107, g108, g109, g110, g111, g112, g113, g114, g115, g116, g117, g118, g119, g120], []⟩) (by kernel_rfl) ?_
                refine WQ.done rfl ?_
                refine (fun w224 H225 => ?_)
                exact ⟨false, _, _, _, _, _, _, _, _, _, _, _, _, _, _, _, _, _, rfl, St.sel H225 [0] (by decide) rfl, h⟩
              | true =>
                replace h := br_t h
                refine WQ.value (v := s1) rfl (by kernel_rfl) (fun w _ => by kernel_rfl) ?_
                refine WQ.value (v := vi x180) rfl (by kernel_rfl) (fun w _ => by kernel_rfl) ?_
                obtain ⟨x226, hx226, h⟩ := lt_some h
                refine WQ.value (v := vi x226) rfl (by kernel_rfl) (fun w _ => by subst hx226; kernel_rfl) ?_
                obtain ⟨hg227, h⟩ := gd_some h
                refine WQ.value (v := va (slAt s1 6 (Int.toNat x226))) rfl (by kernel_rfl) (fun w H => ev_index sf123 22 (.tmp 20) (.tmp 22) 33 6 48 .i64 x226 rfl (by kernel_rfl) (by kernel_rfl) (by kernel_rfl) hg227) ?_
                obtain ⟨x228, hx228, h⟩ := bd_some h
                refine WQ.value (v := TNode.val x228) rfl (by kernel_rfl) (fun w H => ev_loadEl (F := fTNode) (St.rd H 0 rfl) (hp_no_le _) hx228 33 (.tmp 23) 0 (TNode.val x228) rfl (by kernel_rfl) (by kernel_rfl)) ?_
                refine WQ.value (v := s1) rfl (by kernel_rfl) (fun w _ => by kernel_rfl) ?_
                refine WQ.value (v := vi x180) rfl (by kernel_rfl) (fun w _ => by kernel_rfl) ?_
                obtain ⟨hg229, h⟩ := gd_some h
                refine WQ.value (v := va (slAt s1 6 (Int.toNat x180))) rfl (by kernel_rfl) (fun w H => ev_index sf123 22 (.tmp 25) (.tmp 26) 33 6 48 .i64 x180 rfl (by kernel_rfl) (by kernel_rfl) (by kernel_rfl) hg229) ?_
                obtain ⟨x230, hx230, h⟩ := bd_some h
                refine WQ.value (v := TNode.val x230) rfl (by kernel_rfl) (fun w H => ev_loadEl (F := fTNode) (St.rd H 0 rfl) (hp_no_le _) hx230 33 (.tmp 27) 0 (TNode.val x230) rfl (by kernel_rfl) (by kernel_rfl)) ?_
                obtain ⟨t231, ht231, h⟩ := bd_some h
                refine WQ.call (v := vi t231) rfl (by kernel_rfl) (fun w => by kernel_rfl) (fun w H => Ret.mono (g_heap_order_w fuel x228 x230 t231 ht231 _) fun u w1 hu => ⟨hu.1, St.call0' H hu.2⟩) ?_
                obtain ⟨c232, hc232, h⟩ := lt_some h
                refine WQ.value (v := vb c232) rfl (by kernel_rfl) (fun w _ => by subst hc232; kernel_rfl) ?_
                refine WQ.value (v := vb c232) rfl (by kernel_rfl) (fun w _ => by kernel_rfl) ?_
                refine WQ.frame (a' := ⟨#[s1, vi x65, Z, Z, vi x180, vi x65, vi x124, vi x125, s1, vi (((List.length l64 : Nat) : Int)), vb true, vi x65, vi x179, vi x180, vi x180, vi x222, s1, vi (((List.length l64 : Nat) : Int)), vb true, vb true, s1, vi x180, vi x226, va (slAt s1 6 (Int.toNat x226)), TNode.val x228, s1, vi x180, va (slAt s1 6 (Int.toNat x180)), TNode.val x230, vi t231, vb c232, vb c232, g94, g95, g96, g97, g98, g99, g100, g101, g102, g103, g104, g105, g106, g107, g108, g109, g110, g111, g112, g113, g114, g115, g116, g117, g118, g119, g120], []⟩) (by kernel_rfl) ?_
                refine WQ.done rfl ?_
                refine (fun w233 H234 => ?_)
                exact ⟨c232, _, _, _, _, _, _, _, _, _, _, _, _, _, _, _, _, _, rfl, St.sel H234 [0] (by decide) rfl, h⟩
            · rintro a w ⟨c220, g203, g204, g205, g206, g207, g208, g209, g210, g211, g212, g213, g214, g215, g216, g217, g218, g219, rfl, H, h⟩
              subst hK221
              obtain ⟨w235, rfl⟩ : ∃ x, x = w := ⟨_, rfl⟩
              have H236 := H; clear H
              have sf237 := Own.isSl (St.get H236 0 rfl)
              refine then_n ?_
              cases c220 with
              | false =>
                replace h := br_f h
                refine WP.condF (by kernel_rfl) ?_
                refine WP.skip ?_
                exact then_n ⟨x180, _, _, _, _, _, _, _, _, _, _, _, _, _, _, _, _, _, _, _, _, rfl, St.sel H236 [0] (by decide) rfl, h⟩
              | true =>
                replace h := br_t h
                refine WP.condT (by kernel_rfl) ?_
                refine WP.region ?_
                obtain ⟨x238, hx238, h⟩ := lt_some h
                refine WPI.run 3 ⟨#[s1, vi x65, Z, Z, vi x238, vi x65, vi x124, vi x125, s1, vi (((List.length l64 : Nat) : Int)), vb true, vi x65, vi x179, vi x180, g203, g204, g205, g206, g207, g208, g209, g210, g211, g212, g213, g214, g215, g216, g217, g218, g219, vb true, vi x180, vi x238, g96, g97, g98, g99, g100, g101, g102, g103, g104, g105, g106, g107, g108, g109, g110, g111, g112, g113, g114, g115, g116, g117, g118, g119, g120], []⟩ w235 (fun K => by subst hx238; kernel_rfl) ?_
                refine WPI.done rfl ?_
                exact then_n ⟨x238, _, _, _, _, _, _, _, _, _, _, _, _, _, _, _, _, _, _, _, _, rfl, St.sel H236 [0] (by decide) rfl, h⟩
          · rintro a w ⟨x181, g182, g183, g184, g185, g186, g187, g188, g189, g190, g191, g192, g193, g194, g195, g196, g197, g198, g199, g200, g201, rfl, H, h⟩
            subst hK202
            obtain ⟨w239, rfl⟩ : ∃ x, x = w := ⟨_, rfl⟩
            have H240 := H; clear H
            have sf241 := Own.isSl (St.get H240 0 rfl)
            refine WP.seq ?_
            refine WP.seq ?_
            refine WP.quiet (by kernel_rfl) (by kernel_rfl) (by kernel_rfl) (fun w => St (Own fTNode 33 s1 l2).fp w0 w [Own fTNode 33 s1 l64]) (St.drew H240) ?_
            refine WQ.value (v := s1) rfl (by kernel_rfl) (fun w _ => by kernel_rfl) ?_
            refine WQ.value (v := vi x181) rfl (by kernel_rfl) (fun w _ => by kernel_rfl) ?_
            obtain ⟨hg242, h⟩ := gd_some h
            refine WQ.value (v := va (slAt s1 6 (Int.toNat x181))) rfl (by kernel_rfl) (fun w H => ev_index sf241 22 (.tmp 34) (.tmp 35) 33 6 48 .i64 x181 rfl (by kernel_rfl) (by kernel_rfl) (by kernel_rfl) hg242) ?_
            obtain ⟨x243, hx243, h⟩ := bd_some h
            refine WQ.value (v := TNode.val x243) rfl (by kernel_rfl) (fun w H => ev_loadEl (F := fTNode) (St.rd H 0 rfl) (hp_no_le _) hx243 33 (.tmp 36) 0 (TNode.val x243) rfl (by kernel_rfl) (by kernel_rfl)) ?_
            refine WQ.value (v := s1) rfl (by kernel_rfl) (fun w _ => by kernel_rfl) ?_
            refine WQ.value (v := vi x65) rfl (by kernel_rfl) (fun w _ => by kernel_rfl) ?_
            obtain ⟨hg244, h⟩ := gd_some h
            refine WQ.value (v := va (slAt s1 6 (Int.toNat x65))) rfl (by kernel_rfl) (fun w H => ev_index sf241 22 (.tmp 38) (.tmp 39) 33 6 48 .i64 x65 rfl (by kernel_rfl) (by kernel_rfl) (by kernel_rfl) hg244) ?_
            obtain ⟨x245, hx245, h⟩ := bd_some h
            refine WQ.value (v := TNode.val x245) rfl (by kernel_rfl) (fun w H => ev_loadEl (F := fTNode) (St.rd H 0 rfl) (hp_no_le _) hx245 33 (.tmp 40) 0 (TNode.val x245) rfl (by kernel_rfl) (by kernel_rfl)) ?_
            obtain ⟨t246, ht246, h⟩ := bd_some h
            refine WQ.call (v := vi t246) rfl (by kernel_rfl) (fun w => by kernel_rfl) (fun w H => Ret.mono (g_heap_order_w fuel x243 x245 t246 ht246 _) fun u w1 hu => ⟨hu.1, St.call0' H hu.2⟩) ?_
            obtain ⟨c247, hc247, h⟩ := lt_some h
            refine WQ.value (v := vb c247) rfl (by kernel_rfl) (fun w _ => by subst hc247; kernel_rfl) ?_
            refine WQ.frame (a' := ⟨#[s1, vi x65, Z, Z, vi x181, vi x65, vi x124, vi x125, s1, vi (((List.length l64 : Nat) : Int)), vb true, vi x65, vi x179, vi x180, g182, g183, g184, g185, g186, g187, g188, g189, g190, g191, g192, g193, g194, g195, g196, g197, g198, g199, g200, g201, s1, vi x181, va (slAt s1 6 (Int.toNat x181)), TNode.val x243, s1, vi x65, va (slAt s1 6 (Int.toNat x65)), TNode.val x245, vi t246, vb c247, g106, g107, g108, g109, g110, g111, g112, g113, g114, g115, g116, g117, g118, g119, g120], []⟩) (by kernel_rfl) ?_
            refine WQ.done rfl ?_
            refine (fun w248 H249 => ?_)
            refine then_n ?_
            cases c247 with
            | false =>
              replace h := br_f h
              refine WP.condF (by kernel_rfl) ?_
              refine WP.skip ?_
              refine then_n ?_
              refine WP.seq ?_
              obtain ⟨K265, hK265, h⟩ := jn_some h
              refine WP.draw (by kernel_rfl) (by kernel_rfl) (fun a w => ∃ (l250 : List TNode) (g251 : Value) (g252 : Value) (g253 : Value) (g254 : Value) (g255 : Value) (g256 : Value) (g257 : Value) (g258 : Value) (g259 : Value) (g260 : Value) (g261 : Value) (g262 : Value) (g263 : Value) (g264 : Value), a = ⟨#[s1, vi x65, Z, Z, vi x181, vi x65, vi x124, vi x125, s1, vi (((List.length l64 : Nat) : Int)), vb true, vi x65, vi x179, vi x180, g182, g183, g184, g185, g186, g187, g188, g189, g190, g191, g192, g193, g194, g195, g196, g197, g198, g199, g200, g201, s1, vi x181, va (slAt s1 6 (Int.toNat x181)), TNode.val x243, s1, vi x65, va (slAt s1 6 (Int.toNat x65)), TNode.val x245, vi t246, vb false, g251, g252, g253, g254, g255, g256, g257, g258, g259, g260, g261, g262, g263, g264, g120], []⟩ ∧ St (Own fTNode 33 s1 l2).fp w0 w [Own fTNode 33 s1 l250] ∧ K265 l250 = some r) 16 #[false, false, false, false, false, false, false, false, false, false, false, false, false, false, false, false] (by kernel_rfl) (by kernel_rfl) ?_ ?_
              · skip
                have H266 := St.drew H249
                obtain ⟨hg267, h⟩ := gd_some h
                obtain ⟨x268, hx268, h⟩ := bd_some h
                obtain ⟨hg269, h⟩ := gd_some h
                obtain ⟨x270, hx270, h⟩ := bd_some h
                obtain ⟨hg271, h⟩ := gd_some h
                obtain ⟨l272, hl272, h⟩ := lt_some h
                obtain ⟨hg273, h⟩ := gd_some h
                obtain ⟨l274, hl274, h⟩ := lt_some h
                refine WA.take 0 (v := s1) rfl (by kernel_rfl) (by kernel_rfl) (fun w => by kernel_rfl) (fun w => by kernel_rfl) (l' := #[true, false, false, false, false, false, false, false, false, false, false, false, false, false, false, false]) (by kernel_rfl) ?_
                refine WA.take 1 (v := vi x65) rfl (by kernel_rfl) (by kernel_rfl) (fun w => by kernel_rfl) (fun w => by kernel_rfl) (l' := #[true, true, false, false, false, false, false, false, false, false, false, false, false, false, false, false]) (by kernel_rfl) ?_
                refine WA.take 2 (v := s1) rfl (by kernel_rfl) (by kernel_rfl) (fun w => by kernel_rfl) (fun w => by kernel_rfl) (l' := #[true, true, true, false, false, false, false, false, false, false, false, false, false, false, false, false]) (by kernel_rfl) ?_
                refine WA.take 3 (v := vi x181) rfl (by kernel_rfl) (by kernel_rfl) (fun w => by kernel_rfl) (fun w => by kernel_rfl) (l' := #[true, true, true, true, false, false, false, false, false, false, false, false, false, false, false, false]) (by kernel_rfl) ?_
                refine WA.take 4 (v := s1) rfl (by kernel_rfl) (by kernel_rfl) (fun w => by kernel_rfl) (fun w => by kernel_rfl) (l' := #[true, true, true, true, true, false, false, false, false, false, false, false, false, false, false, false]) (by kernel_rfl) ?_
                refine WA.take 5 (v := vi x181) rfl (by kernel_rfl) (by kernel_rfl) (fun w => by kernel_rfl) (fun w => by kernel_rfl) (l' := #[true, true, true, true, true, true, false, false, false, false, false, false, false, false, false, false]) (by kernel_rfl) ?_
                refine WA.take 6 (v := va (slAt s1 6 (Int.toNat x181))) rfl (by kernel_rfl) (by kernel_rfl) (fun w => ev_index sf241 22 (.tmp 48) (.tmp 49) 33 6 48 .i64 x181 rfl (by kernel_rfl) (by kernel_rfl) (by kernel_rfl) hg267) (fun w => by kernel_rfl) (l' := #[true, true, true, true, true, true, true, false, false, false, false, false, false, false, false, false]) (by kernel_rfl) ?_
                refine WA.take 8 (v := s1) rfl (by kernel_rfl) (by kernel_rfl) (fun w => by kernel_rfl) (fun w => by kernel_rfl) (l' := #[true, true, true, true, true, true, true, false, true, false, false, false, false, false, false, false]) (by kernel_rfl) ?_
                refine WA.take 9 (v := vi x65) rfl (by kernel_rfl) (by kernel_rfl) (fun w => by kernel_rfl) (fun w => by kernel_rfl) (l' := #[true, true, true, true, true, true, true, false, true, true, false, false, false, false, false, false]) (by kernel_rfl) ?_
                refine WA.take 10 (v := va (slAt s1 6 (Int.toNat x65))) rfl (by kernel_rfl) (by kernel_rfl) (fun w => ev_index sf241 22 (.tmp 52) (.tmp 53) 33 6 48 .i64 x65 rfl (by kernel_rfl) (by kernel_rfl) (by kernel_rfl) hg269) (fun w => by kernel_rfl) (l' := #[true, true, true, true, true, true, true, false, true, true, true, false, false, false, false, false]) (by kernel_rfl) ?_
                refine WA.any [7, 11] (by kernel_rfl) (by simp) ?_
                simp only [List.mem_cons, List.not_mem_nil, or_false, forall_eq_or_imp, forall_eq]
                refine ⟨?_, ?_⟩
                · skip
                  refine WO.op rfl (Op1.val (v := TNode.val x268) (by kernel_rfl) (ev_loadEl (F := fTNode) (St.rd H266 0 rfl) (hp_no_le _) hx268 33 (.tmp 50) 0 (TNode.val x268) rfl (by kernel_rfl) (by kernel_rfl)) ?_)
                  refine WA.lst (l := #[true, true, true, true, true, true, true, true, true, true, true, false, false, false, false, false]) (by kernel_rfl) ?_
                  refine WA.any [11] (by kernel_rfl) (by simp) ?_
                  simp only [List.mem_singleton, forall_eq]
                  refine WO.op rfl (Op1.val (v := TNode.val x270) (by kernel_rfl) (ev_loadEl (F := fTNode) (St.rd H266 0 rfl) (hp_no_le _) hx270 33 (.tmp 54) 0 (TNode.val x270) rfl (by kernel_rfl) (by kernel_rfl)) ?_)
                  refine WA.lst (l := #[true, true, true, true, true, true, true, true, true, true, true, true, false, false, false, false]) (by kernel_rfl) ?_
                  refine WA.take 12 (v := va (slAt s1 6 (Int.toNat x65))) rfl (by kernel_rfl) (by kernel_rfl) (fun w => ev_index sf241 22 (.tmp 44) (.tmp 45) 33 6 48 .i64 x65 rfl (by kernel_rfl) (by kernel_rfl) (by kernel_rfl) hg271) (fun w => by kernel_rfl) (l' := #[true, true, true, true, true, true, true, true, true, true, true, true, true, false, false, false]) (by kernel_rfl) ?_
                  refine WA.any [13] (by kernel_rfl) (by simp) ?_
                  simp only [List.mem_singleton, forall_eq]
                  refine WO.op rfl (Op1.storeOwn H266 0 rfl (by kernel_rfl) 33 (.tmp 56) (.tmp 51) (Int.toNat x65) x268 true rfl (by kernel_rfl) (by kernel_rfl) (by kernel_rfl) (idx_lt hg271) (fun w275 H276 => ?_))
                  rw [← hl272] at H276
                  clear H266
                  refine WA.lst (l := #[true, true, true, true, true, true, true, true, true, true, true, true, true, true, false, false]) (by kernel_rfl) ?_
                  refine WA.take 14 (v := va (slAt s1 6 (Int.toNat x181))) rfl (by kernel_rfl) (by kernel_rfl) (fun w => ev_index sf241 22 (.tmp 46) (.tmp 47) 33 6 48 .i64 x181 rfl (by kernel_rfl) (by kernel_rfl) (by kernel_rfl) hg273) (fun w => by kernel_rfl) (l' := #[true, true, true, true, true, true, true, true, true, true, true, true, true, true, true, false]) (by kernel_rfl) ?_
                  refine WA.any [15] (by kernel_rfl) (by simp) ?_
                  simp only [List.mem_singleton, forall_eq]
                  refine WO.op rfl (Op1.storeOwn H276 0 rfl (by kernel_rfl) 33 (.tmp 57) (.tmp 55) (Int.toNat x181) x270 true rfl (by kernel_rfl) (by kernel_rfl) (by kernel_rfl) (by simp only [hl272, List.length_set]; exact idx_lt hg273) (fun w277 H278 => ?_))
                  rw [← hl274] at H278
                  clear H276
                  refine WA.lst (l := #[true, true, true, true, true, true, true, true, true, true, true, true, true, true, true, true]) (by kernel_rfl) ?_
                  refine WA.done (by kernel_rfl) ?_
                  exact ⟨l274, s1, (vi x65), s1, (vi x181), s1, (vi x181), (va (slAt s1 6 (Int.toNat x181))), (TNode.val x268), s1, (vi x65), (va (slAt s1 6 (Int.toNat x65))), (TNode.val x270), (va (slAt s1 6 (Int.toNat x65))), (va (slAt s1 6 (Int.toNat x181))), (by kernel_rfl), St.sel H278 [0] (by decide) rfl, h⟩
                · skip
                  refine WO.op rfl (Op1.val (v := TNode.val x270) (by kernel_rfl) (ev_loadEl (F := fTNode) (St.rd H266 0 rfl) (hp_no_le _) hx270 33 (.tmp 54) 0 (TNode.val x270) rfl (by kernel_rfl) (by kernel_rfl)) ?_)
                  refine WA.lst (l := #[true, true, true, true, true, true, true, false, true, true, true, true, false, false, false, false]) (by kernel_rfl) ?_
                  refine WA.any [7] (by kernel_rfl) (by simp) ?_
                  simp only [List.mem_singleton, forall_eq]
                  refine WO.op rfl (Op1.val (v := TNode.val x268) (by kernel_rfl) (ev_loadEl (F := fTNode) (St.rd H266 0 rfl) (hp_no_le _) hx268 33 (.tmp 50) 0 (TNode.val x268) rfl (by kernel_rfl) (by kernel_rfl)) ?_)
                  refine WA.lst (l := #[true, true, true, true, true, true, true, true, true, true, true, true, false, false, false, false]) (by kernel_rfl) ?_
                  refine WA.take 12 (v := va (slAt s1 6 (Int.toNat x65))) rfl (by kernel_rfl) (by kernel_rfl) (fun w => ev_index sf241 22 (.tmp 44) (.tmp 45) 33 6 48 .i64 x65 rfl (by kernel_rfl) (by kernel_rfl) (by kernel_rfl) hg271) (fun w => by kernel_rfl) (l' := #[true, true, true, true, true, true, true, true, true, true, true, true, true, false, false, false]) (by kernel_rfl) ?_
                  refine WA.any [13] (by kernel_rfl) (by simp) ?_
                  simp only [List.mem_singleton, forall_eq]
                  refine WO.op rfl (Op1.storeOwn H266 0 rfl (by kernel_rfl) 33 (.tmp 56) (.tmp 51) (Int.toNat x65) x268 true rfl (by kernel_rfl) (by kernel_rfl) (by kernel_rfl) (idx_lt hg271) (fun w279 H280 => ?_))
                  rw [← hl272] at H280
                  clear H266
                  refine WA.lst (l := #[true, true, true, true, true, true, true, true, true, true, true, true, true, true, false, false]) (by kernel_rfl) ?_
                  refine WA.take 14 (v := va (slAt s1 6 (Int.toNat x181))) rfl (by kernel_rfl) (by kernel_rfl) (fun w => ev_index sf241 22 (.tmp 46) (.tmp 47) 33 6 48 .i64 x181 rfl (by kernel_rfl) (by kernel_rfl) (by kernel_rfl) hg273) (fun w => by kernel_rfl) (l' := #[true, true, true, true, true, true, true, true, true, true, true, true, true, true, true, false]) (by kernel_rfl) ?_
                  refine WA.any [15] (by kernel_rfl) (by simp) ?_
                  simp only [List.mem_singleton, forall_eq]
                  refine WO.op rfl (Op1.storeOwn H280 0 rfl (by kernel_rfl) 33 (.tmp 57) (.tmp 55) (Int.toNat x181) x270 true rfl (by kernel_rfl) (by kernel_rfl) (by kernel_rfl) (by simp only [hl272, List.length_set]; exact idx_lt hg273) (fun w281 H282 => ?_))
                  rw [← hl274] at H282
                  clear H280
                  refine WA.lst (l := #[true, true, true, true, true, true, true, true, true, true, true, true, true, true, true, true]) (by kernel_rfl) ?_
                  refine WA.done (by kernel_rfl) ?_
                  exact ⟨l274, s1, (vi x65), s1, (vi x181), s1, (vi x181), (va (slAt s1 6 (Int.toNat x181))), (TNode.val x268), s1, (vi x65), (va (slAt s1 6 (Int.toNat x65))), (TNode.val x270), (va (slAt s1 6 (Int.toNat x65))), (va (slAt s1 6 (Int.toNat x181))), (by kernel_rfl), St.sel H282 [0] (by decide) rfl, h⟩
              · rintro a w ⟨l250, g251, g252, g253, g254, g255, g256, g257, g258, g259, g260, g261, g262, g263, g264, rfl, H, h⟩
                subst hK265
                obtain ⟨w283, rfl⟩ : ∃ x, x = w := ⟨_, rfl⟩
                have H284 := H; clear H
                have sf285 := Own.isSl (St.get H284 0 rfl)
                refine then_n ?_
                refine WP.region ?_
                refine WPI.run 2 ⟨#[s1, vi x181, Z, Z, vi x181, vi x65, vi x124, vi x125, s1, vi (((List.length l64 : Nat) : Int)), vb true, vi x65, vi x179, vi x180, g182, g183, g184, g185, g186, g187, g188, g189, g190, g191, g192, g193, g194, g195, g196, g197, g198, g199, g200, g201, s1, vi x181, va (slAt s1 6 (Int.toNat x181)), TNode.val x243, s1, vi x65, va (slAt s1 6 (Int.toNat x65)), TNode.val x245, vi t246, vb false, g251, g252, g253, g254, g255, g256, g257, g258, g259, g260, g261, g262, g263, g264, vi x181], []⟩ w283 (fun K => by kernel_rfl) ?_
                refine WPI.done rfl ?_
                exact inb_n (then_n ⟨l250, x181, _, _, _, _, _, _, _, _, _, _, _, _, _, _, _, _, _, _, _, _, _, _, _, _, _, _, _, _, _, _, _, _, _, _, _, _, _, _, _, _, _, _, _, _, _, _, _, _, _, rfl, St.sel H284 [0] (by decide) rfl, h⟩)
            | true =>
              replace h := br_t h
              refine WP.condT (by kernel_rfl) ?_
              refine WP.exit ?_
              exact then_e (inb_x (by decide) (then_e (then_e (inb_e (then_n ⟨l64, _, _, _, _, _, _, _, _, _, _, _, _, _, _, _, _, _, _, _, _, _, _, _, _, _, _, _, _, _, _, _, _, _, _, _, _, _, _, _, _, _, _, _, _, _, _, _, _, _, _, _, _, _, _, _, _, rfl, St.sel H249 [0] (by decide) rfl, h⟩)))))
        · rintro a w ⟨l127, x128, g129, g130, g131, g132, g133, g134, g135, g136, g137, g138, g139, g140, g141, g142, g143, g144, g145, g146, g147, g148, g149, g150, g151, g152, g153, g154, g155, g156, g157, g158, g159, g160, g161, g162, g163, g164, g165, g166, g167, g168, g169, g170, g171, g172, g173, g174, g175, g176, g177, rfl, H, h⟩
          subst hK178
          obtain ⟨w286, rfl⟩ : ∃ x, x = w := ⟨_, rfl⟩
          have H287 := H; clear H
          have sf288 := Own.isSl (St.get H287 0 rfl)
          exact then_n ⟨n, Nat.lt_succ_self n, l127, x128, _, _, _, _, _, _, _, _, _, _, _, _, _, _, _, _, _, _, _, _, _, _, _, _, _, _, _, _, _, _, _, _, _, _, _, _, _, _, _, _, _, _, _, _, _, _, _, _, _, _, _, _, _, _, _, rfl, St.sel H287 [0] (by decide) rfl, h⟩
  · rintro a w ⟨l6, g7, g8, g9, g10, g11, g12, g13, g14, g15, g16, g17, g18, g19, g20, g21, g22, g23, g24, g25, g26, g27, g28, g29, g30, g31, g32, g33, g34, g35, g36, g37, g38, g39, g40, g41, g42, g43, g44, g45, g46, g47, g48, g49, g50, g51, g52, g53, g54, g55, g56, g57, g58, g59, g60, g61, g62, rfl, H, h⟩
    subst hK63
    obtain ⟨w289, rfl⟩ : ∃ x, x = w := ⟨_, rfl⟩
    have H290 := H; clear H
    have sf291 := Own.isSl (St.get H290 0 rfl)
    obtain rfl := Option.some.inj h
    exact sc_n (post_n (.tuple #[]) rfl (by kernel_rfl) ⟨rfl, St.sel H290 [0] (by decide) rfl⟩)
/- tarn/heap.settle -/
def g_heap_settle (fuel : Nat) (l2 : List TNode) (p4 : Int) : Option (List TNode) :=
  bd (g_heap_rise fuel l2 p4) fun t6 => lt (t6.2 == p4) fun c11 => br c11 (bd (g_heap_sink fuel t6.1 p4) fun t12 => some t12) (some t6.1)
theorem g_heap_settle_w (fuel : Nat) (s1 : Value) (l2 : List TNode) (p4 : Int) (r : List TNode) (h : g_heap_settle fuel l2 p4 = some r) (w0 : World) (hm : (Own fTNode 33 s1 l2).holds w0) :
    Ret Try.prog 32 #[s1, vi p4] w0 (fun v w' => v = .tuple #[] ∧ St (Own fTNode 33 s1 l2).fp w0 w' [Own fTNode 33 s1 r]) := by
  unfold g_heap_settle at h
  refine ret_of_wp Try.func32 rfl #[s1, vi p4, Z, Z, Z, Z, Z, Z, Z, Z, Z, Z] (by kernel_rfl) ?_
  have H0 := St.start1 hm
  have sf5 := Own.isSl (St.get H0 0 rfl)
  refine WP.seq ?_
  refine WP.region ?_
  obtain ⟨t6, ht6, h⟩ := bd_some h
  refine WPI.run 2 ⟨#[s1, vi p4, Z, Z, s1, vi p4, Z, Z, Z, Z, Z, Z], []⟩ w0 (fun K => by kernel_rfl) ?_
  refine WPI.op rfl (Op1.call (by kernel_rfl) (by kernel_rfl) (g_heap_rise_w fuel s1 l2 p4 t6 ht6 _ (St.get H0 0 rfl)) ?_)
  rintro _ w8 ⟨rfl, Hc9⟩
  have H10 := St.call1 H0 0 rfl Hc9
  clear Hc9
  have sf7 := Own.isSl (St.get H10 0 rfl)
  obtain ⟨c11, hc11, h⟩ := lt_some h
  refine WPI.run 2 ⟨#[s1, vi p4, Z, Z, s1, vi p4, vi t6.2, vi p4, vb c11, Z, Z, Z], []⟩ w8 (fun K => by subst hc11; kernel_rfl) ?_
  refine WPI.done rfl ?_
  refine then_n ?_
  cases c11 with
  | false =>
    replace h := br_f h
    refine WP.condF (by kernel_rfl) ?_
    refine WP.skip ?_
    obtain rfl := Option.some.inj h
    exact post_n (.tuple #[]) rfl (by kernel_rfl) ⟨rfl, St.sel H10 [0] (by decide) rfl⟩
  | true =>
    replace h := br_t h
    refine WP.condT (by kernel_rfl) ?_
    refine WP.region ?_
    obtain ⟨t12, ht12, h⟩ := bd_some h
    refine WPI.run 2 ⟨#[s1, vi p4, Z, Z, s1, vi p4, vi t6.2, vi p4, vb true, s1, vi p4, Z], []⟩ w8 (fun K => by kernel_rfl) ?_
    refine WPI.op rfl (Op1.call (by kernel_rfl) (by kernel_rfl) (g_heap_sink_w fuel s1 t6.1 p4 t12 ht12 _ (St.get H10 0 rfl)) ?_)
    rintro _ w14 ⟨rfl, Hc15⟩
    have H16 := St.call1 H10 0 rfl Hc15
    clear H10 Hc15
    have sf13 := Own.isSl (St.get H16 0 rfl)
    refine WPI.run 0 ⟨#[s1, vi p4, Z, Z, s1, vi p4, vi t6.2, vi p4, vb true, s1, vi p4, .tuple #[]], []⟩ w14 (fun K => by kernel_rfl) ?_
    refine WPI.done rfl ?_
    obtain rfl := Option.some.inj h
    exact post_n (.tuple #[]) rfl (by kernel_rfl) ⟨rfl, St.sel H16 [0] (by decide) rfl⟩
end Go.Proofs
