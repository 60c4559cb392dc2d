import Derived.Test.YtjcagpcpbfmldaaGw
import Derived.Test.YtjcagpcpbfmldaaProg
import Derived.Test.YtjcagpcpbfmldaaT
import Derived.Test.YtjcagpcpbfmldaaF37
set_option linter.unusedVariables false
set_option linter.unusedSimpArgs false
set_option maxRecDepth 100000
set_option maxHeartbeats 4000000
namespace Go.Proofs
open Gw Go.RowKit
/- tarn/heap.rise -/
def g_heap_rise_l1 (K45 : (List TNode) → Int → Option ((List TNode) × Int)) (fuel : Nat) : Nat → (List TNode) → Int → Option ((List TNode) × Int)
  | 0, _, _ => none
  | n + 1, l46, x47 => jn (fun (c103 : Bool) => br c103 (jn (fun (l121 : List TNode) => lt (wr .i64 (x47 - 1)) fun x165 => lt (wr .i64 (Int.tdiv x165 2)) fun x166 => g_heap_rise_l1 K45 fuel n l121 x166) fun K140 => lt (wr .i64 (x47 - 1)) fun x142 => lt (wr .i64 (Int.tdiv x142 2)) fun x143 => lt (wr .i64 (x47 - 1)) fun x144 => lt (wr .i64 (Int.tdiv x144 2)) fun x145 => gd ((0 : Int) ≤ x145 ∧ x145 < ((List.length l46 : Nat) : Int)) <| bd (l46[Int.toNat x145]?) fun x147 => gd ((0 : Int) ≤ x47 ∧ x47 < ((List.length l46 : Nat) : Int)) <| bd (l46[Int.toNat x47]?) fun x149 => gd ((0 : Int) ≤ x47 ∧ x47 < ((List.length l46 : Nat) : Int)) <| lt (List.set l46 (Int.toNat x47) x147) fun l151 => gd ((0 : Int) ≤ x143 ∧ x143 < ((List.length l46 : Nat) : Int)) <| lt (List.set l151 (Int.toNat x143) x149) fun l153 => K140 l153) (K45 l46 x47)) fun K104 => lt (decide (x47 > 0)) fun c105 => br c105 (gd ((0 : Int) ≤ x47 ∧ x47 < ((List.length l46 : Nat) : Int)) <| bd (l46[Int.toNat x47]?) fun x109 => lt (wr .i64 (x47 - 1)) fun x110 => lt (wr .i64 (Int.tdiv x110 2)) fun x111 => gd ((0 : Int) ≤ x111 ∧ x111 < ((List.length l46 : Nat) : Int)) <| bd (l46[Int.toNat x111]?) fun x113 => bd (g_heap_order fuel x109 x113) fun t114 => lt (decide (t114 < 0)) fun c115 => K104 c115) (K104 false)
def g_heap_rise (fuel : Nat) (l2 : List TNode) (p4 : Int) : Option ((List TNode) × Int) :=
  jn (fun (l6 : List TNode) (x7 : Int) => some (l6, x7)) fun K45 => g_heap_rise_l1 K45 fuel fuel l2 p4
theorem g_heap_rise_w (fuel : Nat) (s1 : Value) (l2 : List TNode) (p4 : Int) (r : (List TNode) × Int) (h : g_heap_rise fuel l2 p4 = some r) (w0 : World) (hm : (Own fTNode 33 s1 l2).holds w0) :
    Ret Try.prog 34 #[s1, vi p4] w0 (fun v w' => v = vi r.2 ∧ St (Own fTNode 33 s1 l2).fp w0 w' [Own fTNode 33 s1 r.1]) := by
  unfold g_heap_rise at h
  refine ret_of_wp Try.func34 rfl #[s1, vi p4, Z, Z, Z, Z, Z, Z, Z, Z, Z, Z, Z, Z, Z, Z, Z, Z, Z, Z, Z, Z, Z, Z, Z, Z, Z, Z, Z, Z, Z, Z, Z, Z, Z, Z, Z, Z, Z, Z, Z, Z, Z] (by kernel_rfl) ?_
  have H0 := St.start1 hm
  have sf5 := Own.isSl (St.get H0 0 rfl)
  refine WP.seq ?_
  refine WP.region ?_
  refine WPI.run 1 ⟨#[s1, vi p4, Z, Z, vi 0, Z, Z, Z, Z, Z, Z, Z, Z, Z, Z, Z, Z, Z, Z, Z, Z, Z, Z, Z, Z, Z, Z, Z, Z, Z, Z, Z, Z, Z, Z, Z, Z, Z, Z, Z, Z, Z, Z], []⟩ w0 (fun K => by kernel_rfl) ?_
  refine WPI.done rfl ?_
  refine then_n ?_
  refine WP.seq ?_
  obtain ⟨K45, hK45, h⟩ := jn_some h
  refine WP.blockJ (fun a w => ∃ (l6 : List TNode) (x7 : Int) (g8 g9 g10 g11 g12 g13 g14 g15 g16 g17 g18 g19 g20 g21 g22 g23 g24 g25 g26 g27 g28 g29 g30 g31 g32 g33 g34 g35 g36 g37 g38 g39 g40 g41 g42 g43 g44 : Value), a = ⟨#[s1, vi x7, Z, Z, vi 0, g8, g9, g10, g11, g12, g13, g14, g15, g16, g17, g18, g19, g20, g21, g22, g23, g24, g25, g26, g27, g28, g29, g30, g31, g32, g33, g34, g35, g36, g37, g38, g39, g40, g41, g42, g43, g44, Z], []⟩ ∧ St (Own fTNode 33 s1 l2).fp w0 w [Own fTNode 33 s1 l6] ∧ K45 l6 x7 = some r) ?_ ?_
  · skip
    refine WP.loop (fun n a w => ∃ (l46 : List TNode) (x47 : Int) (g48 g49 g50 g51 g52 g53 g54 g55 g56 g57 g58 g59 g60 g61 g62 g63 g64 g65 g66 g67 g68 g69 g70 g71 g72 g73 g74 g75 g76 g77 g78 g79 g80 g81 g82 g83 g84 : Value), a = ⟨#[s1, vi x47, Z, Z, vi 0, g48, g49, g50, g51, g52, g53, g54, g55, g56, g57, g58, g59, g60, g61, g62, g63, g64, g65, g66, g67, g68, g69, g70, g71, g72, g73, g74, g75, g76, g77, g78, g79, g80, g81, g82, g83, g84, Z], []⟩ ∧ St (Own fTNode 33 s1 l2).fp w0 w [Own fTNode 33 s1 l46] ∧ g_heap_rise_l1 K45 fuel n l46 x47 = some r) fuel ⟨l2, p4, _, _, _, _, _, _, _, _, _, _, _, _, _, _, _, _, _, _, _, _, _, _, _, _, _, _, _, _, _, _, _, _, _, _, _, _, _, rfl, St.sel H0 [0] (by decide) rfl, h⟩ ?_
    rintro n a w ⟨l46, x47, g48, g49, g50, g51, g52, g53, g54, g55, g56, g57, g58, g59, g60, g61, g62, g63, g64, g65, g66, g67, g68, g69, g70, g71, g72, g73, g74, g75, g76, g77, g78, g79, g80, g81, g82, g83, g84, rfl, H, h⟩
    cases n with
    | zero => rw [g_heap_rise_l1] at h; cases h
    | succ n =>
      rw [g_heap_rise_l1] at h
      obtain ⟨w85, rfl⟩ : ∃ x, x = w := ⟨_, rfl⟩
      have H86 := H; clear H
      have sf87 := Own.isSl (St.get H86 0 rfl)
      refine WP.seq ?_
      refine WP.seq ?_
      obtain ⟨K104, hK104, h⟩ := jn_some h
      refine WP.onlyN (fun a w => ∃ (c103 : Bool) (g88 g89 g90 g91 g92 g93 g94 g95 g96 g97 g98 g99 g100 g101 g102 : Value), a = ⟨#[s1, vi x47, Z, Z, vi 0, g88, g89, g90, g91, g92, g93, g94, g95, g96, g97, g98, g99, g100, g101, g102, vb c103, g64, g65, g66, g67, g68, g69, g70, g71, g72, g73, g74, g75, g76, g77, g78, g79, g80, g81, g82, g83, g84, Z], []⟩ ∧ St (Own fTNode 33 s1 l2).fp w0 w [Own fTNode 33 s1 l46] ∧ K104 c103 = some r) ?_ ?_
      · skip
        refine WP.quiet (by kernel_rfl) (by kernel_rfl) (by kernel_rfl) (fun w => St (Own fTNode 33 s1 l2).fp w0 w [Own fTNode 33 s1 l46]) (St.drew H86) ?_
        refine WQ.value (v := vi x47) rfl (by kernel_rfl) (fun w _ => by kernel_rfl) ?_
        obtain ⟨c105, hc105, h⟩ := lt_some h
        refine WQ.value (v := vb c105) rfl (by kernel_rfl) (fun w _ => by subst hc105; kernel_rfl) ?_
        refine WQ.value (v := vb c105) rfl (by kernel_rfl) (fun w _ => by kernel_rfl) ?_
        cases c105 with
        | false =>
          replace h := br_f h
          refine WQ.off rfl (by kernel_rfl) ?_
          refine WQ.off rfl (by kernel_rfl) ?_
          refine WQ.off rfl (by kernel_rfl) ?_
          refine WQ.off rfl (by kernel_rfl) ?_
          refine WQ.off rfl (by kernel_rfl) ?_
          refine WQ.off rfl (by kernel_rfl) ?_
          refine WQ.off rfl (by kernel_rfl) ?_
          refine WQ.off rfl (by kernel_rfl) ?_
          refine WQ.off rfl (by kernel_rfl) ?_
          refine WQ.off rfl (by kernel_rfl) ?_
          refine WQ.off rfl (by kernel_rfl) ?_
          refine WQ.off rfl (by kernel_rfl) ?_
          refine WQ.value (v := vb false) rfl (by kernel_rfl) (fun w _ => by kernel_rfl) ?_
          refine WQ.frame (a' := ⟨#[s1, vi x47, Z, Z, vi 0, vi x47, vb false, vb false, Z, Z, Z, Z, Z, Z, Z, Z, Z, Z, Z, Z, vb false, g64, g65, g66, g67, g68, g69, g70, g71, g72, g73, g74, g75, g76, g77, g78, g79, g80, g81, g82, g83, g84, Z], []⟩) (by kernel_rfl) ?_
          refine WQ.done rfl ?_
          refine (fun w106 H107 => ?_)
          exact ⟨false, _, _, _, _, _, _, _, _, _, _, _, _, _, _, _, rfl, St.sel H107 [0] (by decide) rfl, h⟩
        | true =>
          replace h := br_t h
          refine WQ.value (v := s1) rfl (by kernel_rfl) (fun w _ => by kernel_rfl) ?_
          refine WQ.value (v := vi x47) rfl (by kernel_rfl) (fun w _ => by kernel_rfl) ?_
          obtain ⟨hg108, h⟩ := gd_some h
          refine WQ.value (v := va (slAt s1 6 (Int.toNat x47))) rfl (by kernel_rfl) (fun w H => ev_index sf87 22 (.tmp 8) (.tmp 9) 33 6 48 .i64 x47 rfl (by kernel_rfl) (by kernel_rfl) (by kernel_rfl) hg108) ?_
          obtain ⟨x109, hx109, h⟩ := bd_some h
          refine WQ.value (v := TNode.val x109) rfl (by kernel_rfl) (fun w H => ev_loadEl (F := fTNode) (St.rd H 0 rfl) (hp_no_le _) hx109 33 (.tmp 10) 0 (TNode.val x109) rfl (by kernel_rfl) (by kernel_rfl)) ?_
          refine WQ.value (v := s1) rfl (by kernel_rfl) (fun w _ => by kernel_rfl) ?_
          refine WQ.value (v := vi x47) rfl (by kernel_rfl) (fun w _ => by kernel_rfl) ?_
          obtain ⟨x110, hx110, h⟩ := lt_some h
          refine WQ.value (v := vi x110) rfl (by kernel_rfl) (fun w _ => by subst hx110; kernel_rfl) ?_
          obtain ⟨x111, hx111, h⟩ := lt_some h
          refine WQ.value (v := vi x111) rfl (by kernel_rfl) (fun w _ => by subst hx111; kernel_rfl) ?_
          obtain ⟨hg112, h⟩ := gd_some h
          refine WQ.value (v := va (slAt s1 6 (Int.toNat x111))) rfl (by kernel_rfl) (fun w H => ev_index sf87 22 (.tmp 12) (.tmp 15) 33 6 48 .i64 x111 rfl (by kernel_rfl) (by kernel_rfl) (by kernel_rfl) hg112) ?_
          obtain ⟨x113, hx113, h⟩ := bd_some h
          refine WQ.value (v := TNode.val x113) rfl (by kernel_rfl) (fun w H => ev_loadEl (F := fTNode) (St.rd H 0 rfl) (hp_no_le _) hx113 33 (.tmp 16) 0 (TNode.val x113) rfl (by kernel_rfl) (by kernel_rfl)) ?_
          obtain ⟨t114, ht114, h⟩ := bd_some h
          refine WQ.call (v := vi t114) rfl (by kernel_rfl) (fun w => by kernel_rfl) (fun w H => Ret.mono (g_heap_order_w fuel x109 x113 t114 ht114 _) fun u w1 hu => ⟨hu.1, St.call0' H hu.2⟩) ?_
          obtain ⟨c115, hc115, h⟩ := lt_some h
          refine WQ.value (v := vb c115) rfl (by kernel_rfl) (fun w _ => by subst hc115; kernel_rfl) ?_
          refine WQ.value (v := vb c115) rfl (by kernel_rfl) (fun w _ => by kernel_rfl) ?_
          refine WQ.frame (a' := ⟨#[s1, vi x47, Z, Z, vi 0, vi x47, vb true, vb true, s1, vi x47, va (slAt s1 6 (Int.toNat x47)), TNode.val x109, s1, vi x47, vi x110, vi x111, va (slAt s1 6 (Int.toNat x111)), TNode.val x113, vi t114, vb c115, vb c115, g64, g65, g66, g67, g68, g69, g70, g71, g72, g73, g74, g75, g76, g77, g78, g79, g80, g81, g82, g83, g84, Z], []⟩) (by kernel_rfl) ?_
          refine WQ.done rfl ?_
          refine (fun w116 H117 => ?_)
          exact ⟨c115, _, _, _, _, _, _, _, _, _, _, _, _, _, _, _, rfl, St.sel H117 [0] (by decide) rfl, h⟩
      · rintro a w ⟨c103, g88, g89, g90, g91, g92, g93, g94, g95, g96, g97, g98, g99, g100, g101, g102, rfl, H, h⟩
        subst hK104
        obtain ⟨w118, rfl⟩ : ∃ x, x = w := ⟨_, rfl⟩
        have H119 := H; clear H
        have sf120 := Own.isSl (St.get H119 0 rfl)
        refine then_n ?_
        cases c103 with
        | false =>
          replace h := br_f h
          refine WP.condF (by kernel_rfl) ?_
          refine WP.exit ?_
          exact then_e (then_e (inb_e (then_n ⟨l46, x47, _, _, _, _, _, _, _, _, _, _, _, _, _, _, _, _, _, _, _, _, _, _, _, _, _, _, _, _, _, _, _, _, _, _, _, _, _, rfl, St.sel H119 [0] (by decide) rfl, h⟩)))
        | true =>
          replace h := br_t h
          refine WP.condT (by kernel_rfl) ?_
          refine WP.skip ?_
          refine then_n ?_
          refine WP.block ?_
          refine WP.seq ?_
          obtain ⟨K140, hK140, h⟩ := jn_some h
          refine WP.draw (by kernel_rfl) (by kernel_rfl) (fun a w => ∃ (l121 : List TNode) (g122 g123 g124 g125 g126 g127 g128 g129 g130 g131 g132 g133 g134 g135 g136 g137 g138 g139 : Value), a = ⟨#[s1, vi x47, Z, Z, vi 0, g88, g89, g90, g91, g92, g93, g94, g95, g96, g97, g98, g99, g100, g101, g102, vb true, g122, g123, g124, g125, g126, g127, g128, g129, g130, g131, g132, g133, g134, g135, g136, g137, g138, g139, g82, g83, g84, Z], []⟩ ∧ St (Own fTNode 33 s1 l2).fp w0 w [Own fTNode 33 s1 l121] ∧ K140 l121 = some r) 20 #[false, false, false, false, false, false, false, false, false, false, false, false, false, false, false, false, false, false, false, false] (by kernel_rfl) (by kernel_rfl) ?_ ?_
          · skip
            have H141 := St.drew H119
            obtain ⟨x142, hx142, h⟩ := lt_some h
            obtain ⟨x143, hx143, h⟩ := lt_some h
            obtain ⟨x144, hx144, h⟩ := lt_some h
            obtain ⟨x145, hx145, h⟩ := lt_some h
            obtain ⟨hg146, h⟩ := gd_some h
            obtain ⟨x147, hx147, h⟩ := bd_some h
            obtain ⟨hg148, h⟩ := gd_some h
            obtain ⟨x149, hx149, h⟩ := bd_some h
            obtain ⟨hg150, h⟩ := gd_some h
            obtain ⟨l151, hl151, h⟩ := lt_some h
            obtain ⟨hg152, h⟩ := gd_some h
            obtain ⟨l153, hl153, h⟩ := lt_some h
            refine WA.take 0 (v := s1) rfl (by kernel_rfl) (by kernel_rfl) (fun w => by kernel_rfl) (fun w => by kernel_rfl) (l' := #[true, false, false, false, false, false, false, false, false, false, false, false, false, false, false, false, false, false, false, false]) (by kernel_rfl) ?_
            refine WA.take 1 (v := vi x47) rfl (by kernel_rfl) (by kernel_rfl) (fun w => by kernel_rfl) (fun w => by kernel_rfl) (l' := #[true, true, false, false, false, false, false, false, false, false, false, false, false, false, false, false, false, false, false, false]) (by kernel_rfl) ?_
            refine WA.take 2 (v := s1) rfl (by kernel_rfl) (by kernel_rfl) (fun w => by kernel_rfl) (fun w => by kernel_rfl) (l' := #[true, true, true, false, false, false, false, false, false, false, false, false, false, false, false, false, false, false, false, false]) (by kernel_rfl) ?_
            refine WA.take 3 (v := vi x47) rfl (by kernel_rfl) (by kernel_rfl) (fun w => by kernel_rfl) (fun w => by kernel_rfl) (l' := #[true, true, true, true, false, false, false, false, false, false, false, false, false, false, false, false, false, false, false, false]) (by kernel_rfl) ?_
            refine WA.take 4 (v := vi x142) rfl (by kernel_rfl) (by kernel_rfl) (fun w => by subst hx142; kernel_rfl) (fun w => by kernel_rfl) (l' := #[true, true, true, true, true, false, false, false, false, false, false, false, false, false, false, false, false, false, false, false]) (by kernel_rfl) ?_
            refine WA.take 5 (v := vi x143) rfl (by kernel_rfl) (by kernel_rfl) (fun w => by subst hx143; kernel_rfl) (fun w => by kernel_rfl) (l' := #[true, true, true, true, true, true, false, false, false, false, false, false, false, false, false, false, false, false, false, false]) (by kernel_rfl) ?_
            refine WA.take 6 (v := s1) rfl (by kernel_rfl) (by kernel_rfl) (fun w => by kernel_rfl) (fun w => by kernel_rfl) (l' := #[true, true, true, true, true, true, true, false, false, false, false, false, false, false, false, false, false, false, false, false]) (by kernel_rfl) ?_
            refine WA.take 7 (v := vi x47) rfl (by kernel_rfl) (by kernel_rfl) (fun w => by kernel_rfl) (fun w => by kernel_rfl) (l' := #[true, true, true, true, true, true, true, true, false, false, false, false, false, false, false, false, false, false, false, false]) (by kernel_rfl) ?_
            refine WA.take 8 (v := vi x144) rfl (by kernel_rfl) (by kernel_rfl) (fun w => by subst hx144; kernel_rfl) (fun w => by kernel_rfl) (l' := #[true, true, true, true, true, true, true, true, true, false, false, false, false, false, false, false, false, false, false, false]) (by kernel_rfl) ?_
            refine WA.take 9 (v := vi x145) rfl (by kernel_rfl) (by kernel_rfl) (fun w => by subst hx145; kernel_rfl) (fun w => by kernel_rfl) (l' := #[true, true, true, true, true, true, true, true, true, true, false, false, false, false, false, false, false, false, false, false]) (by kernel_rfl) ?_
            refine WA.take 10 (v := va (slAt s1 6 (Int.toNat x145))) rfl (by kernel_rfl) (by kernel_rfl) (fun w => ev_index sf120 22 (.tmp 27) (.tmp 30) 33 6 48 .i64 x145 rfl (by kernel_rfl) (by kernel_rfl) (by kernel_rfl) hg146) (fun w => by kernel_rfl) (l' := #[true, true, true, true, true, true, true, true, true, true, true, false, false, false, false, false, false, false, false, false]) (by kernel_rfl) ?_
            refine WA.take 12 (v := s1) rfl (by kernel_rfl) (by kernel_rfl) (fun w => by kernel_rfl) (fun w => by kernel_rfl) (l' := #[true, true, true, true, true, true, true, true, true, true, true, false, true, false, false, false, false, false, false, false]) (by kernel_rfl) ?_
            refine WA.take 13 (v := vi x47) rfl (by kernel_rfl) (by kernel_rfl) (fun w => by kernel_rfl) (fun w => by kernel_rfl) (l' := #[true, true, true, true, true, true, true, true, true, true, true, false, true, true, false, false, false, false, false, false]) (by kernel_rfl) ?_
            refine WA.take 14 (v := va (slAt s1 6 (Int.toNat x47))) rfl (by kernel_rfl) (by kernel_rfl) (fun w => ev_index sf120 22 (.tmp 33) (.tmp 34) 33 6 48 .i64 x47 rfl (by kernel_rfl) (by kernel_rfl) (by kernel_rfl) hg148) (fun w => by kernel_rfl) (l' := #[true, true, true, true, true, true, true, true, true, true, true, false, true, true, true, false, false, false, false, false]) (by kernel_rfl) ?_
            refine WA.any [11, 15] (by kernel_rfl) (by simp) ?_
            simp only [List.mem_cons, List.not_mem_nil, or_false, forall_eq_or_imp, forall_eq]
            refine ⟨?_, ?_⟩
            · skip
              refine WO.op rfl (Op1.val (v := TNode.val x147) (by kernel_rfl) (ev_loadEl (F := fTNode) (St.rd H141 0 rfl) (hp_no_le _) hx147 33 (.tmp 31) 0 (TNode.val x147) rfl (by kernel_rfl) (by kernel_rfl)) ?_)
              refine WA.lst (l := #[true, true, true, true, true, true, true, true, true, true, true, true, true, true, true, false, false, false, false, false]) (by kernel_rfl) ?_
              refine WA.any [15] (by kernel_rfl) (by simp) ?_
              simp only [List.mem_singleton, forall_eq]
              refine WO.op rfl (Op1.val (v := TNode.val x149) (by kernel_rfl) (ev_loadEl (F := fTNode) (St.rd H141 0 rfl) (hp_no_le _) hx149 33 (.tmp 35) 0 (TNode.val x149) rfl (by kernel_rfl) (by kernel_rfl)) ?_)
              refine WA.lst (l := #[true, true, true, true, true, true, true, true, true, true, true, true, true, true, true, true, false, false, false, false]) (by kernel_rfl) ?_
              refine WA.take 16 (v := va (slAt s1 6 (Int.toNat x47))) rfl (by kernel_rfl) (by kernel_rfl) (fun w => ev_index sf120 22 (.tmp 21) (.tmp 22) 33 6 48 .i64 x47 rfl (by kernel_rfl) (by kernel_rfl) (by kernel_rfl) hg150) (fun w => by kernel_rfl) (l' := #[true, true, true, true, true, true, true, true, true, true, true, true, true, true, true, true, true, false, false, false]) (by kernel_rfl) ?_
              refine WA.any [17] (by kernel_rfl) (by simp) ?_
              simp only [List.mem_singleton, forall_eq]
              refine WO.op rfl (Op1.storeOwn H141 0 rfl (by kernel_rfl) 33 (.tmp 37) (.tmp 32) (Int.toNat x47) x147 true rfl (by kernel_rfl) (by kernel_rfl) (by kernel_rfl) (idx_lt hg150) (fun w154 H155 => ?_))
              rw [← hl151] at H155
              clear H141
              refine WA.lst (l := #[true, true, true, true, true, true, true, true, true, true, true, true, true, true, true, true, true, true, false, false]) (by kernel_rfl) ?_
              refine WA.take 18 (v := va (slAt s1 6 (Int.toNat x143))) rfl (by kernel_rfl) (by kernel_rfl) (fun w => ev_index sf120 22 (.tmp 23) (.tmp 26) 33 6 48 .i64 x143 rfl (by kernel_rfl) (by kernel_rfl) (by kernel_rfl) hg152) (fun w => by kernel_rfl) (l' := #[true, true, true, true, true, true, true, true, true, true, true, true, true, true, true, true, true, true, true, false]) (by kernel_rfl) ?_
              refine WA.any [19] (by kernel_rfl) (by simp) ?_
              simp only [List.mem_singleton, forall_eq]
              refine WO.op rfl (Op1.storeOwn H155 0 rfl (by kernel_rfl) 33 (.tmp 38) (.tmp 36) (Int.toNat x143) x149 true rfl (by kernel_rfl) (by kernel_rfl) (by kernel_rfl) (by simp only [hl151, List.length_set]; exact idx_lt hg152) (fun w156 H157 => ?_))
              rw [← hl153] at H157
              clear H155
              refine WA.lst (l := #[true, true, true, true, true, true, true, true, true, true, true, true, true, true, true, true, true, true, true, true]) (by kernel_rfl) ?_
              refine WA.done (by kernel_rfl) ?_
              exact ⟨l153, s1, (vi x47), s1, (vi x47), (vi x142), (vi x143), s1, (vi x47), (vi x144), (vi x145), (va (slAt s1 6 (Int.toNat x145))), (TNode.val x147), s1, (vi x47), (va (slAt s1 6 (Int.toNat x47))), (TNode.val x149), (va (slAt s1 6 (Int.toNat x47))), (va (slAt s1 6 (Int.toNat x143))), (by kernel_rfl), St.sel H157 [0] (by decide) rfl, h⟩
            · skip
              refine WO.op rfl (Op1.val (v := TNode.val x149) (by kernel_rfl) (ev_loadEl (F := fTNode) (St.rd H141 0 rfl) (hp_no_le _) hx149 33 (.tmp 35) 0 (TNode.val x149) rfl (by kernel_rfl) (by kernel_rfl)) ?_)
              refine WA.lst (l := #[true, true, true, true, true, true, true, true, true, true, true, false, true, true, true, true, false, false, false, false]) (by kernel_rfl) ?_
              refine WA.any [11] (by kernel_rfl) (by simp) ?_
              simp only [List.mem_singleton, forall_eq]
              refine WO.op rfl (Op1.val (v := TNode.val x147) (by kernel_rfl) (ev_loadEl (F := fTNode) (St.rd H141 0 rfl) (hp_no_le _) hx147 33 (.tmp 31) 0 (TNode.val x147) rfl (by kernel_rfl) (by kernel_rfl)) ?_)
              refine WA.lst (l := #[true, true, true, true, true, true, true, true, true, true, true, true, true, true, true, true, false, false, false, false]) (by kernel_rfl) ?_
              refine WA.take 16 (v := va (slAt s1 6 (Int.toNat x47))) rfl (by kernel_rfl) (by kernel_rfl) (fun w => ev_index sf120 22 (.tmp 21) (.tmp 22) 33 6 48 .i64 x47 rfl (by kernel_rfl) (by kernel_rfl) (by kernel_rfl) hg150) (fun w => by kernel_rfl) (l' := #[true, true, true, true, true, true, true, true, true, true, true, true, true, true, true, true, true, false, false, false]) (by kernel_rfl) ?_
              refine WA.any [17] (by kernel_rfl) (by simp) ?_
              simp only [List.mem_singleton, forall_eq]
              refine WO.op rfl (Op1.storeOwn H141 0 rfl (by kernel_rfl) 33 (.tmp 37) (.tmp 32) (Int.toNat x47) x147 true rfl (by kernel_rfl) (by kernel_rfl) (by kernel_rfl) (idx_lt hg150) (fun w158 H159 => ?_))
              rw [← hl151] at H159
              clear H141
              refine WA.lst (l := #[true, true, true, true, true, true, true, true, true, true, true, true, true, true, true, true, true, true, false, false]) (by kernel_rfl) ?_
              refine WA.take 18 (v := va (slAt s1 6 (Int.toNat x143))) rfl (by kernel_rfl) (by kernel_rfl) (fun w => ev_index sf120 22 (.tmp 23) (.tmp 26) 33 6 48 .i64 x143 rfl (by kernel_rfl) (by kernel_rfl) (by kernel_rfl) hg152) (fun w => by kernel_rfl) (l' := #[true, true, true, true, true, true, true, true, true, true, true, true, true, true, true, true, true, true, true, false]) (by kernel_rfl) ?_
              refine WA.any [19] (by kernel_rfl) (by simp) ?_
              simp only [List.mem_singleton, forall_eq]
              refine WO.op rfl (Op1.storeOwn H159 0 rfl (by kernel_rfl) 33 (.tmp 38) (.tmp 36) (Int.toNat x143) x149 true rfl (by kernel_rfl) (by kernel_rfl) (by kernel_rfl) (by simp only [hl151, List.length_set]; exact idx_lt hg152) (fun w160 H161 => ?_))
              rw [← hl153] at H161
              clear H159
              refine WA.lst (l := #[true, true, true, true, true, true, true, true, true, true, true, true, true, true, true, true, true, true, true, true]) (by kernel_rfl) ?_
              refine WA.done (by kernel_rfl) ?_
              exact ⟨l153, s1, (vi x47), s1, (vi x47), (vi x142), (vi x143), s1, (vi x47), (vi x144), (vi x145), (va (slAt s1 6 (Int.toNat x145))), (TNode.val x147), s1, (vi x47), (va (slAt s1 6 (Int.toNat x47))), (TNode.val x149), (va (slAt s1 6 (Int.toNat x47))), (va (slAt s1 6 (Int.toNat x143))), (by kernel_rfl), St.sel H161 [0] (by decide) rfl, h⟩
          · rintro a w ⟨l121, g122, g123, g124, g125, g126, g127, g128, g129, g130, g131, g132, g133, g134, g135, g136, g137, g138, g139, rfl, H, h⟩
            subst hK140
            obtain ⟨w162, rfl⟩ : ∃ x, x = w := ⟨_, rfl⟩
            have H163 := H; clear H
            have sf164 := Own.isSl (St.get H163 0 rfl)
            refine then_n ?_
            refine WP.region ?_
            obtain ⟨x165, hx165, h⟩ := lt_some h
            obtain ⟨x166, hx166, h⟩ := lt_some h
            refine WPI.run 4 ⟨#[s1, vi x166, Z, Z, vi 0, g88, g89, g90, g91, g92, g93, g94, g95, g96, g97, g98, g99, g100, g101, g102, vb true, g122, g123, g124, g125, g126, g127, g128, g129, g130, g131, g132, g133, g134, g135, g136, g137, g138, g139, vi x47, vi x165, vi x166, Z], []⟩ w162 (fun K => by subst hx166 hx165; kernel_rfl) ?_
            refine WPI.done rfl ?_
            exact inb_n (then_n ⟨n, Nat.lt_succ_self n, l121, x166, _, _, _, _, _, _, _, _, _, _, _, _, _, _, _, _, _, _, _, _, _, _, _, _, _, _, _, _, _, _, _, _, _, _, _, _, _, rfl, St.sel H163 [0] (by decide) rfl, h⟩)
  · rintro a w ⟨l6, x7, g8, g9, g10, g11, g12, g13, g14, g15, g16, g17, g18, g19, g20, g21, g22, g23, g24, g25, g26, g27, g28, g29, g30, g31, g32, g33, g34, g35, g36, g37, g38, g39, g40, g41, g42, g43, g44, rfl, H, h⟩
    subst hK45
    obtain ⟨w167, rfl⟩ : ∃ x, x = w := ⟨_, rfl⟩
    have H168 := H; clear H
    have sf169 := Own.isSl (St.get H168 0 rfl)
    refine then_n ?_
    refine WP.seq ?_
    refine WP.region ?_
    refine WPI.run 2 ⟨#[s1, vi x7, Z, Z, vi x7, g8, g9, g10, g11, g12, g13, g14, g15, g16, g17, g18, g19, g20, g21, g22, g23, g24, g25, g26, g27, g28, g29, g30, g31, g32, g33, g34, g35, g36, g37, g38, g39, g40, g41, g42, g43, g44, vi x7], []⟩ w167 (fun K => by kernel_rfl) ?_
    refine WPI.done rfl ?_
    refine then_n ?_
    refine WP.ret ?_
    obtain rfl := Option.some.inj h
    exact post_r (vi x7) rfl (by kernel_rfl) ⟨rfl, St.sel H168 [0] (by decide) rfl⟩
end Go.Proofs
