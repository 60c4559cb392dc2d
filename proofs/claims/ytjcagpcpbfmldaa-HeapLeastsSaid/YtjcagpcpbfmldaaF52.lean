import Derived.Test.YtjcagpcpbfmldaaGw
import Derived.Test.YtjcagpcpbfmldaaProg
import Derived.Test.YtjcagpcpbfmldaaT
import Derived.Test.YtjcagpcpbfmldaaF22
set_option linter.unusedVariables false
set_option linter.unusedSimpArgs false
set_option maxRecDepth 100000
set_option maxHeartbeats 4000000
namespace Go.Proofs
open Gw Go.RowKit
/- tarn/tarnref12.rises -/
def g_tarnref12_rises_l1 (K44 : (List TNode) → Int → Option ((List TNode) × Int)) (fuel : Nat) : Nat → (List TNode) → Int → Option ((List TNode) × Int)
  | 0, _, _ => none
  | n + 1, l45, x46 => jn (fun (c100 : Bool) => br c100 (jn (fun (l117 : List TNode) => lt (wr .i64 (x46 - 1)) fun x161 => lt (wr .i64 (Int.tdiv x161 2)) fun x162 => g_tarnref12_rises_l1 K44 fuel n l117 x162) fun K136 => lt (wr .i64 (x46 - 1)) fun x138 => lt (wr .i64 (Int.tdiv x138 2)) fun x139 => lt (wr .i64 (x46 - 1)) fun x140 => lt (wr .i64 (Int.tdiv x140 2)) fun x141 => gd ((0 : Int) ≤ x141 ∧ x141 < ((List.length l45 : Nat) : Int)) <| bd (l45[Int.toNat x141]?) fun x143 => gd ((0 : Int) ≤ x46 ∧ x46 < ((List.length l45 : Nat) : Int)) <| bd (l45[Int.toNat x46]?) fun x145 => gd ((0 : Int) ≤ x46 ∧ x46 < ((List.length l45 : Nat) : Int)) <| lt (List.set l45 (Int.toNat x46) x143) fun l147 => gd ((0 : Int) ≤ x139 ∧ x139 < ((List.length l45 : Nat) : Int)) <| lt (List.set l147 (Int.toNat x139) x145) fun l149 => K136 l149) (K44 l45 x46)) fun K101 => lt (decide (x46 > 0)) fun c102 => br c102 (gd ((0 : Int) ≤ x46 ∧ x46 < ((List.length l45 : Nat) : Int)) <| bd (l45[Int.toNat x46]?) fun x106 => lt (wr .i64 (x46 - 1)) fun x107 => lt (wr .i64 (Int.tdiv x107 2)) fun x108 => gd ((0 : Int) ≤ x108 ∧ x108 < ((List.length l45 : Nat) : Int)) <| bd (l45[Int.toNat x108]?) fun x110 => bd (g_tarnref12_Below fuel x106 x110) fun t111 => K101 t111) (K101 false)
def g_tarnref12_rises (fuel : Nat) (l2 : List TNode) (p4 : Int) : Option ((List TNode) × Int) :=
  jn (fun (l6 : List TNode) (x7 : Int) => some (l6, x7)) fun K44 => g_tarnref12_rises_l1 K44 fuel fuel l2 p4
theorem g_tarnref12_rises_w (fuel : Nat) (s1 : Value) (l2 : List TNode) (p4 : Int) (r : (List TNode) × Int) (h : g_tarnref12_rises fuel l2 p4 = some r) (w0 : World) (hm : (Own fTNode 33 s1 l2).holds w0) :
    Ret Try.prog 52 #[s1, vi p4] w0 (fun v w' => v = vi r.2 ∧ St (Own fTNode 33 s1 l2).fp w0 w' [Own fTNode 33 s1 r.1]) := by
  unfold g_tarnref12_rises at h
  refine ret_of_wp Try.func52 rfl #[s1, vi p4, Z, Z, Z, Z, Z, Z, Z, Z, Z, Z, Z, Z, Z, Z, Z, Z, Z, Z, Z, Z, Z, Z, Z, Z, Z, Z, Z, Z, Z, Z, Z, Z, Z, Z, Z, Z, Z, Z, Z, Z] (by kernel_rfl) ?_
  have H0 := St.start1 hm
  have sf5 := Own.isSl (St.get H0 0 rfl)
  refine WP.seq ?_
  refine WP.region ?_
  refine WPI.run 1 ⟨#[s1, vi p4, Z, Z, vi 0, Z, Z, Z, Z, Z, Z, Z, Z, Z, Z, Z, Z, Z, Z, Z, Z, Z, Z, Z, Z, Z, Z, Z, Z, Z, Z, Z, Z, Z, Z, Z, Z, Z, Z, Z, Z, Z], []⟩ w0 (fun K => by kernel_rfl) ?_
  refine WPI.done rfl ?_
  refine then_n ?_
  refine WP.seq ?_
  obtain ⟨K44, hK44, h⟩ := jn_some h
  refine WP.blockJ (fun a w => ∃ (l6 : List TNode) (x7 : Int) (g8 g9 g10 g11 g12 g13 g14 g15 g16 g17 g18 g19 g20 g21 g22 g23 g24 g25 g26 g27 g28 g29 g30 g31 g32 g33 g34 g35 g36 g37 g38 g39 g40 g41 g42 g43 : Value), a = ⟨#[s1, vi x7, Z, Z, vi 0, g8, g9, g10, g11, g12, g13, g14, g15, g16, g17, g18, g19, g20, g21, g22, g23, g24, g25, g26, g27, g28, g29, g30, g31, g32, g33, g34, g35, g36, g37, g38, g39, g40, g41, g42, g43, Z], []⟩ ∧ St (Own fTNode 33 s1 l2).fp w0 w [Own fTNode 33 s1 l6] ∧ K44 l6 x7 = some r) ?_ ?_
  · skip
    refine WP.loop (fun n a w => ∃ (l45 : List TNode) (x46 : Int) (g47 g48 g49 g50 g51 g52 g53 g54 g55 g56 g57 g58 g59 g60 g61 g62 g63 g64 g65 g66 g67 g68 g69 g70 g71 g72 g73 g74 g75 g76 g77 g78 g79 g80 g81 g82 : Value), a = ⟨#[s1, vi x46, Z, Z, vi 0, g47, g48, g49, g50, g51, g52, g53, g54, g55, g56, g57, g58, g59, g60, g61, g62, g63, g64, g65, g66, g67, g68, g69, g70, g71, g72, g73, g74, g75, g76, g77, g78, g79, g80, g81, g82, Z], []⟩ ∧ St (Own fTNode 33 s1 l2).fp w0 w [Own fTNode 33 s1 l45] ∧ g_tarnref12_rises_l1 K44 fuel n l45 x46 = some r) fuel ⟨l2, p4, _, _, _, _, _, _, _, _, _, _, _, _, _, _, _, _, _, _, _, _, _, _, _, _, _, _, _, _, _, _, _, _, _, _, _, _, rfl, St.sel H0 [0] (by decide) rfl, h⟩ ?_
    rintro n a w ⟨l45, x46, g47, g48, g49, g50, g51, g52, g53, g54, g55, g56, g57, g58, g59, g60, g61, g62, g63, g64, g65, g66, g67, g68, g69, g70, g71, g72, g73, g74, g75, g76, g77, g78, g79, g80, g81, g82, rfl, H, h⟩
    cases n with
    | zero => rw [g_tarnref12_rises_l1] at h; cases h
    | succ n =>
      rw [g_tarnref12_rises_l1] at h
      obtain ⟨w83, rfl⟩ : ∃ x, x = w := ⟨_, rfl⟩
      have H84 := H; clear H
      have sf85 := Own.isSl (St.get H84 0 rfl)
      refine WP.seq ?_
      refine WP.seq ?_
      obtain ⟨K101, hK101, h⟩ := jn_some h
      refine WP.onlyN (fun a w => ∃ (c100 : Bool) (g86 g87 g88 g89 g90 g91 g92 g93 g94 g95 g96 g97 g98 g99 : Value), a = ⟨#[s1, vi x46, Z, Z, vi 0, g86, g87, g88, g89, g90, g91, g92, g93, g94, g95, g96, g97, g98, g99, vb c100, g62, g63, g64, g65, g66, g67, g68, g69, g70, g71, g72, g73, g74, g75, g76, g77, g78, g79, g80, g81, g82, Z], []⟩ ∧ St (Own fTNode 33 s1 l2).fp w0 w [Own fTNode 33 s1 l45] ∧ K101 c100 = some r) ?_ ?_
      · skip
        refine WP.quiet (by kernel_rfl) (by kernel_rfl) (by kernel_rfl) (fun w => St (Own fTNode 33 s1 l2).fp w0 w [Own fTNode 33 s1 l45]) (St.drew H84) ?_
        refine WQ.value (v := vi x46) rfl (by kernel_rfl) (fun w _ => by kernel_rfl) ?_
        obtain ⟨c102, hc102, h⟩ := lt_some h
        refine WQ.value (v := vb c102) rfl (by kernel_rfl) (fun w _ => by subst hc102; kernel_rfl) ?_
        refine WQ.value (v := vb c102) rfl (by kernel_rfl) (fun w _ => by kernel_rfl) ?_
        cases c102 with
        | false =>
          replace h := br_f h
          refine WQ.off rfl (by kernel_rfl) ?_
          refine WQ.off rfl (by kernel_rfl) ?_
          refine WQ.off rfl (by kernel_rfl) ?_
          refine WQ.off rfl (by kernel_rfl) ?_
          refine WQ.off rfl (by kernel_rfl) ?_
          refine WQ.off rfl (by kernel_rfl) ?_
          refine WQ.off rfl (by kernel_rfl) ?_
          refine WQ.off rfl (by kernel_rfl) ?_
          refine WQ.off rfl (by kernel_rfl) ?_
          refine WQ.off rfl (by kernel_rfl) ?_
          refine WQ.off rfl (by kernel_rfl) ?_
          refine WQ.value (v := vb false) rfl (by kernel_rfl) (fun w _ => by kernel_rfl) ?_
          refine WQ.frame (a' := ⟨#[s1, vi x46, Z, Z, vi 0, vi x46, vb false, vb false, Z, Z, Z, Z, Z, Z, Z, Z, Z, Z, Z, vb false, g62, g63, g64, g65, g66, g67, g68, g69, g70, g71, g72, g73, g74, g75, g76, g77, g78, g79, g80, g81, g82, Z], []⟩) (by kernel_rfl) ?_
          refine WQ.done rfl ?_
          refine (fun w103 H104 => ?_)
          exact ⟨false, _, _, _, _, _, _, _, _, _, _, _, _, _, _, rfl, St.sel H104 [0] (by decide) rfl, h⟩
        | true =>
          replace h := br_t h
          refine WQ.value (v := s1) rfl (by kernel_rfl) (fun w _ => by kernel_rfl) ?_
          refine WQ.value (v := vi x46) rfl (by kernel_rfl) (fun w _ => by kernel_rfl) ?_
          obtain ⟨hg105, h⟩ := gd_some h
          refine WQ.value (v := va (slAt s1 6 (Int.toNat x46))) rfl (by kernel_rfl) (fun w H => ev_index sf85 22 (.tmp 8) (.tmp 9) 33 6 48 .i64 x46 rfl (by kernel_rfl) (by kernel_rfl) (by kernel_rfl) hg105) ?_
          obtain ⟨x106, hx106, h⟩ := bd_some h
          refine WQ.value (v := TNode.val x106) rfl (by kernel_rfl) (fun w H => ev_loadEl (F := fTNode) (St.rd H 0 rfl) (hp_no_le _) hx106 33 (.tmp 10) 0 (TNode.val x106) rfl (by kernel_rfl) (by kernel_rfl)) ?_
          refine WQ.value (v := s1) rfl (by kernel_rfl) (fun w _ => by kernel_rfl) ?_
          refine WQ.value (v := vi x46) rfl (by kernel_rfl) (fun w _ => by kernel_rfl) ?_
          obtain ⟨x107, hx107, h⟩ := lt_some h
          refine WQ.value (v := vi x107) rfl (by kernel_rfl) (fun w _ => by subst hx107; kernel_rfl) ?_
          obtain ⟨x108, hx108, h⟩ := lt_some h
          refine WQ.value (v := vi x108) rfl (by kernel_rfl) (fun w _ => by subst hx108; kernel_rfl) ?_
          obtain ⟨hg109, h⟩ := gd_some h
          refine WQ.value (v := va (slAt s1 6 (Int.toNat x108))) rfl (by kernel_rfl) (fun w H => ev_index sf85 22 (.tmp 12) (.tmp 15) 33 6 48 .i64 x108 rfl (by kernel_rfl) (by kernel_rfl) (by kernel_rfl) hg109) ?_
          obtain ⟨x110, hx110, h⟩ := bd_some h
          refine WQ.value (v := TNode.val x110) rfl (by kernel_rfl) (fun w H => ev_loadEl (F := fTNode) (St.rd H 0 rfl) (hp_no_le _) hx110 33 (.tmp 16) 0 (TNode.val x110) rfl (by kernel_rfl) (by kernel_rfl)) ?_
          obtain ⟨t111, ht111, h⟩ := bd_some h
          refine WQ.call (v := vb t111) rfl (by kernel_rfl) (fun w => by kernel_rfl) (fun w H => Ret.mono (g_tarnref12_Below_w fuel x106 x110 t111 ht111 _) fun u w1 hu => ⟨hu.1, St.call0' H hu.2⟩) ?_
          refine WQ.value (v := vb t111) rfl (by kernel_rfl) (fun w _ => by kernel_rfl) ?_
          refine WQ.frame (a' := ⟨#[s1, vi x46, Z, Z, vi 0, vi x46, vb true, vb true, s1, vi x46, va (slAt s1 6 (Int.toNat x46)), TNode.val x106, s1, vi x46, vi x107, vi x108, va (slAt s1 6 (Int.toNat x108)), TNode.val x110, vb t111, vb t111, g62, g63, g64, g65, g66, g67, g68, g69, g70, g71, g72, g73, g74, g75, g76, g77, g78, g79, g80, g81, g82, Z], []⟩) (by kernel_rfl) ?_
          refine WQ.done rfl ?_
          refine (fun w112 H113 => ?_)
          exact ⟨t111, _, _, _, _, _, _, _, _, _, _, _, _, _, _, rfl, St.sel H113 [0] (by decide) rfl, h⟩
      · rintro a w ⟨c100, g86, g87, g88, g89, g90, g91, g92, g93, g94, g95, g96, g97, g98, g99, rfl, H, h⟩
        subst hK101
        obtain ⟨w114, rfl⟩ : ∃ x, x = w := ⟨_, rfl⟩
        have H115 := H; clear H
        have sf116 := Own.isSl (St.get H115 0 rfl)
        refine then_n ?_
        cases c100 with
        | false =>
          replace h := br_f h
          refine WP.condF (by kernel_rfl) ?_
          refine WP.exit ?_
          exact then_e (then_e (inb_e (then_n ⟨l45, x46, _, _, _, _, _, _, _, _, _, _, _, _, _, _, _, _, _, _, _, _, _, _, _, _, _, _, _, _, _, _, _, _, _, _, _, _, rfl, St.sel H115 [0] (by decide) rfl, h⟩)))
        | true =>
          replace h := br_t h
          refine WP.condT (by kernel_rfl) ?_
          refine WP.skip ?_
          refine then_n ?_
          refine WP.block ?_
          refine WP.seq ?_
          obtain ⟨K136, hK136, h⟩ := jn_some h
          refine WP.draw (by kernel_rfl) (by kernel_rfl) (fun a w => ∃ (l117 : List TNode) (g118 g119 g120 g121 g122 g123 g124 g125 g126 g127 g128 g129 g130 g131 g132 g133 g134 g135 : Value), a = ⟨#[s1, vi x46, Z, Z, vi 0, g86, g87, g88, g89, g90, g91, g92, g93, g94, g95, g96, g97, g98, g99, vb true, g118, g119, g120, g121, g122, g123, g124, g125, g126, g127, g128, g129, g130, g131, g132, g133, g134, g135, g80, g81, g82, Z], []⟩ ∧ St (Own fTNode 33 s1 l2).fp w0 w [Own fTNode 33 s1 l117] ∧ K136 l117 = some r) 20 #[false, false, false, false, false, false, false, false, false, false, false, false, false, false, false, false, false, false, false, false] (by kernel_rfl) (by kernel_rfl) ?_ ?_
          · skip
            have H137 := St.drew H115
            obtain ⟨x138, hx138, h⟩ := lt_some h
            obtain ⟨x139, hx139, h⟩ := lt_some h
            obtain ⟨x140, hx140, h⟩ := lt_some h
            obtain ⟨x141, hx141, h⟩ := lt_some h
            obtain ⟨hg142, h⟩ := gd_some h
            obtain ⟨x143, hx143, h⟩ := bd_some h
            obtain ⟨hg144, h⟩ := gd_some h
            obtain ⟨x145, hx145, h⟩ := bd_some h
            obtain ⟨hg146, h⟩ := gd_some h
            obtain ⟨l147, hl147, h⟩ := lt_some h
            obtain ⟨hg148, h⟩ := gd_some h
            obtain ⟨l149, hl149, h⟩ := lt_some h
            refine WA.take 0 (v := s1) rfl (by kernel_rfl) (by kernel_rfl) (fun w => by kernel_rfl) (fun w => by kernel_rfl) (l' := #[true, false, false, false, false, false, false, false, false, false, false, false, false, false, false, false, false, false, false, false]) (by kernel_rfl) ?_
            refine WA.take 1 (v := vi x46) rfl (by kernel_rfl) (by kernel_rfl) (fun w => by kernel_rfl) (fun w => by kernel_rfl) (l' := #[true, true, false, false, false, false, false, false, false, false, false, false, false, false, false, false, false, false, false, false]) (by kernel_rfl) ?_
            refine WA.take 2 (v := s1) rfl (by kernel_rfl) (by kernel_rfl) (fun w => by kernel_rfl) (fun w => by kernel_rfl) (l' := #[true, true, true, false, false, false, false, false, false, false, false, false, false, false, false, false, false, false, false, false]) (by kernel_rfl) ?_
            refine WA.take 3 (v := vi x46) rfl (by kernel_rfl) (by kernel_rfl) (fun w => by kernel_rfl) (fun w => by kernel_rfl) (l' := #[true, true, true, true, false, false, false, false, false, false, false, false, false, false, false, false, false, false, false, false]) (by kernel_rfl) ?_
            refine WA.take 4 (v := vi x138) rfl (by kernel_rfl) (by kernel_rfl) (fun w => by subst hx138; kernel_rfl) (fun w => by kernel_rfl) (l' := #[true, true, true, true, true, false, false, false, false, false, false, false, false, false, false, false, false, false, false, false]) (by kernel_rfl) ?_
            refine WA.take 5 (v := vi x139) rfl (by kernel_rfl) (by kernel_rfl) (fun w => by subst hx139; kernel_rfl) (fun w => by kernel_rfl) (l' := #[true, true, true, true, true, true, false, false, false, false, false, false, false, false, false, false, false, false, false, false]) (by kernel_rfl) ?_
            refine WA.take 6 (v := s1) rfl (by kernel_rfl) (by kernel_rfl) (fun w => by kernel_rfl) (fun w => by kernel_rfl) (l' := #[true, true, true, true, true, true, true, false, false, false, false, false, false, false, false, false, false, false, false, false]) (by kernel_rfl) ?_
            refine WA.take 7 (v := vi x46) rfl (by kernel_rfl) (by kernel_rfl) (fun w => by kernel_rfl) (fun w => by kernel_rfl) (l' := #[true, true, true, true, true, true, true, true, false, false, false, false, false, false, false, false, false, false, false, false]) (by kernel_rfl) ?_
            refine WA.take 8 (v := vi x140) rfl (by kernel_rfl) (by kernel_rfl) (fun w => by subst hx140; kernel_rfl) (fun w => by kernel_rfl) (l' := #[true, true, true, true, true, true, true, true, true, false, false, false, false, false, false, false, false, false, false, false]) (by kernel_rfl) ?_
            refine WA.take 9 (v := vi x141) rfl (by kernel_rfl) (by kernel_rfl) (fun w => by subst hx141; kernel_rfl) (fun w => by kernel_rfl) (l' := #[true, true, true, true, true, true, true, true, true, true, false, false, false, false, false, false, false, false, false, false]) (by kernel_rfl) ?_
            refine WA.take 10 (v := va (slAt s1 6 (Int.toNat x141))) rfl (by kernel_rfl) (by kernel_rfl) (fun w => ev_index sf116 22 (.tmp 26) (.tmp 29) 33 6 48 .i64 x141 rfl (by kernel_rfl) (by kernel_rfl) (by kernel_rfl) hg142) (fun w => by kernel_rfl) (l' := #[true, true, true, true, true, true, true, true, true, true, true, false, false, false, false, false, false, false, false, false]) (by kernel_rfl) ?_
            refine WA.take 12 (v := s1) rfl (by kernel_rfl) (by kernel_rfl) (fun w => by kernel_rfl) (fun w => by kernel_rfl) (l' := #[true, true, true, true, true, true, true, true, true, true, true, false, true, false, false, false, false, false, false, false]) (by kernel_rfl) ?_
            refine WA.take 13 (v := vi x46) rfl (by kernel_rfl) (by kernel_rfl) (fun w => by kernel_rfl) (fun w => by kernel_rfl) (l' := #[true, true, true, true, true, true, true, true, true, true, true, false, true, true, false, false, false, false, false, false]) (by kernel_rfl) ?_
            refine WA.take 14 (v := va (slAt s1 6 (Int.toNat x46))) rfl (by kernel_rfl) (by kernel_rfl) (fun w => ev_index sf116 22 (.tmp 32) (.tmp 33) 33 6 48 .i64 x46 rfl (by kernel_rfl) (by kernel_rfl) (by kernel_rfl) hg144) (fun w => by kernel_rfl) (l' := #[true, true, true, true, true, true, true, true, true, true, true, false, true, true, true, false, false, false, false, false]) (by kernel_rfl) ?_
            refine WA.any [11, 15] (by kernel_rfl) (by simp) ?_
            simp only [List.mem_cons, List.not_mem_nil, or_false, forall_eq_or_imp, forall_eq]
            refine ⟨?_, ?_⟩
            · skip
              refine WO.op rfl (Op1.val (v := TNode.val x143) (by kernel_rfl) (ev_loadEl (F := fTNode) (St.rd H137 0 rfl) (hp_no_le _) hx143 33 (.tmp 30) 0 (TNode.val x143) rfl (by kernel_rfl) (by kernel_rfl)) ?_)
              refine WA.lst (l := #[true, true, true, true, true, true, true, true, true, true, true, true, true, true, true, false, false, false, false, false]) (by kernel_rfl) ?_
              refine WA.any [15] (by kernel_rfl) (by simp) ?_
              simp only [List.mem_singleton, forall_eq]
              refine WO.op rfl (Op1.val (v := TNode.val x145) (by kernel_rfl) (ev_loadEl (F := fTNode) (St.rd H137 0 rfl) (hp_no_le _) hx145 33 (.tmp 34) 0 (TNode.val x145) rfl (by kernel_rfl) (by kernel_rfl)) ?_)
              refine WA.lst (l := #[true, true, true, true, true, true, true, true, true, true, true, true, true, true, true, true, false, false, false, false]) (by kernel_rfl) ?_
              refine WA.take 16 (v := va (slAt s1 6 (Int.toNat x46))) rfl (by kernel_rfl) (by kernel_rfl) (fun w => ev_index sf116 22 (.tmp 20) (.tmp 21) 33 6 48 .i64 x46 rfl (by kernel_rfl) (by kernel_rfl) (by kernel_rfl) hg146) (fun w => by kernel_rfl) (l' := #[true, true, true, true, true, true, true, true, true, true, true, true, true, true, true, true, true, false, false, false]) (by kernel_rfl) ?_
              refine WA.any [17] (by kernel_rfl) (by simp) ?_
              simp only [List.mem_singleton, forall_eq]
              refine WO.op rfl (Op1.storeOwn H137 0 rfl (by kernel_rfl) 33 (.tmp 36) (.tmp 31) (Int.toNat x46) x143 true rfl (by kernel_rfl) (by kernel_rfl) (by kernel_rfl) (idx_lt hg146) (fun w150 H151 => ?_))
              rw [← hl147] at H151
              clear H137
              refine WA.lst (l := #[true, true, true, true, true, true, true, true, true, true, true, true, true, true, true, true, true, true, false, false]) (by kernel_rfl) ?_
              refine WA.take 18 (v := va (slAt s1 6 (Int.toNat x139))) rfl (by kernel_rfl) (by kernel_rfl) (fun w => ev_index sf116 22 (.tmp 22) (.tmp 25) 33 6 48 .i64 x139 rfl (by kernel_rfl) (by kernel_rfl) (by kernel_rfl) hg148) (fun w => by kernel_rfl) (l' := #[true, true, true, true, true, true, true, true, true, true, true, true, true, true, true, true, true, true, true, false]) (by kernel_rfl) ?_
              refine WA.any [19] (by kernel_rfl) (by simp) ?_
              simp only [List.mem_singleton, forall_eq]
              refine WO.op rfl (Op1.storeOwn H151 0 rfl (by kernel_rfl) 33 (.tmp 37) (.tmp 35) (Int.toNat x139) x145 true rfl (by kernel_rfl) (by kernel_rfl) (by kernel_rfl) (by simp only [hl147, List.length_set]; exact idx_lt hg148) (fun w152 H153 => ?_))
              rw [← hl149] at H153
              clear H151
              refine WA.lst (l := #[true, true, true, true, true, true, true, true, true, true, true, true, true, true, true, true, true, true, true, true]) (by kernel_rfl) ?_
              refine WA.done (by kernel_rfl) ?_
              exact ⟨l149, s1, (vi x46), s1, (vi x46), (vi x138), (vi x139), s1, (vi x46), (vi x140), (vi x141), (va (slAt s1 6 (Int.toNat x141))), (TNode.val x143), s1, (vi x46), (va (slAt s1 6 (Int.toNat x46))), (TNode.val x145), (va (slAt s1 6 (Int.toNat x46))), (va (slAt s1 6 (Int.toNat x139))), (by kernel_rfl), St.sel H153 [0] (by decide) rfl, h⟩
            · skip
              refine WO.op rfl (Op1.val (v := TNode.val x145) (by kernel_rfl) (ev_loadEl (F := fTNode) (St.rd H137 0 rfl) (hp_no_le _) hx145 33 (.tmp 34) 0 (TNode.val x145) rfl (by kernel_rfl) (by kernel_rfl)) ?_)
              refine WA.lst (l := #[true, true, true, true, true, true, true, true, true, true, true, false, true, true, true, true, false, false, false, false]) (by kernel_rfl) ?_
              refine WA.any [11] (by kernel_rfl) (by simp) ?_
              simp only [List.mem_singleton, forall_eq]
              refine WO.op rfl (Op1.val (v := TNode.val x143) (by kernel_rfl) (ev_loadEl (F := fTNode) (St.rd H137 0 rfl) (hp_no_le _) hx143 33 (.tmp 30) 0 (TNode.val x143) rfl (by kernel_rfl) (by kernel_rfl)) ?_)
              refine WA.lst (l := #[true, true, true, true, true, true, true, true, true, true, true, true, true, true, true, true, false, false, false, false]) (by kernel_rfl) ?_
              refine WA.take 16 (v := va (slAt s1 6 (Int.toNat x46))) rfl (by kernel_rfl) (by kernel_rfl) (fun w => ev_index sf116 22 (.tmp 20) (.tmp 21) 33 6 48 .i64 x46 rfl (by kernel_rfl) (by kernel_rfl) (by kernel_rfl) hg146) (fun w => by kernel_rfl) (l' := #[true, true, true, true, true, true, true, true, true, true, true, true, true, true, true, true, true, false, false, false]) (by kernel_rfl) ?_
              refine WA.any [17] (by kernel_rfl) (by simp) ?_
              simp only [List.mem_singleton, forall_eq]
              refine WO.op rfl (Op1.storeOwn H137 0 rfl (by kernel_rfl) 33 (.tmp 36) (.tmp 31) (Int.toNat x46) x143 true rfl (by kernel_rfl) (by kernel_rfl) (by kernel_rfl) (idx_lt hg146) (fun w154 H155 => ?_))
              rw [← hl147] at H155
              clear H137
              refine WA.lst (l := #[true, true, true, true, true, true, true, true, true, true, true, true, true, true, true, true, true, true, false, false]) (by kernel_rfl) ?_
              refine WA.take 18 (v := va (slAt s1 6 (Int.toNat x139))) rfl (by kernel_rfl) (by kernel_rfl) (fun w => ev_index sf116 22 (.tmp 22) (.tmp 25) 33 6 48 .i64 x139 rfl (by kernel_rfl) (by kernel_rfl) (by kernel_rfl) hg148) (fun w => by kernel_rfl) (l' := #[true, true, true, true, true, true, true, true, true, true, true, true, true, true, true, true, true, true, true, false]) (by kernel_rfl) ?_
              refine WA.any [19] (by kernel_rfl) (by simp) ?_
              simp only [List.mem_singleton, forall_eq]
              refine WO.op rfl (Op1.storeOwn H155 0 rfl (by kernel_rfl) 33 (.tmp 37) (.tmp 35) (Int.toNat x139) x145 true rfl (by kernel_rfl) (by kernel_rfl) (by kernel_rfl) (by simp only [hl147, List.length_set]; exact idx_lt hg148) (fun w156 H157 => ?_))
              rw [← hl149] at H157
              clear H155
              refine WA.lst (l := #[true, true, true, true, true, true, true, true, true, true, true, true, true, true, true, true, true, true, true, true]) (by kernel_rfl) ?_
              refine WA.done (by kernel_rfl) ?_
              exact ⟨l149, s1, (vi x46), s1, (vi x46), (vi x138), (vi x139), s1, (vi x46), (vi x140), (vi x141), (va (slAt s1 6 (Int.toNat x141))), (TNode.val x143), s1, (vi x46), (va (slAt s1 6 (Int.toNat x46))), (TNode.val x145), (va (slAt s1 6 (Int.toNat x46))), (va (slAt s1 6 (Int.toNat x139))), (by kernel_rfl), St.sel H157 [0] (by decide) rfl, h⟩
          · rintro a w ⟨l117, g118, g119, g120, g121, g122, g123, g124, g125, g126, g127, g128, g129, g130, g131, g132, g133, g134, g135, rfl, H, h⟩
            subst hK136
            obtain ⟨w158, rfl⟩ : ∃ x, x = w := ⟨_, rfl⟩
            have H159 := H; clear H
            have sf160 := Own.isSl (St.get H159 0 rfl)
            refine then_n ?_
            refine WP.region ?_
            obtain ⟨x161, hx161, h⟩ := lt_some h
            obtain ⟨x162, hx162, h⟩ := lt_some h
            refine WPI.run 4 ⟨#[s1, vi x162, Z, Z, vi 0, g86, g87, g88, g89, g90, g91, g92, g93, g94, g95, g96, g97, g98, g99, vb true, g118, g119, g120, g121, g122, g123, g124, g125, g126, g127, g128, g129, g130, g131, g132, g133, g134, g135, vi x46, vi x161, vi x162, Z], []⟩ w158 (fun K => by subst hx162 hx161; kernel_rfl) ?_
            refine WPI.done rfl ?_
            exact inb_n (then_n ⟨n, Nat.lt_succ_self n, l117, x162, _, _, _, _, _, _, _, _, _, _, _, _, _, _, _, _, _, _, _, _, _, _, _, _, _, _, _, _, _, _, _, _, _, _, _, _, rfl, St.sel H159 [0] (by decide) rfl, h⟩)
  · rintro a w ⟨l6, x7, g8, g9, g10, g11, g12, g13, g14, g15, g16, g17, g18, g19, g20, g21, g22, g23, g24, g25, g26, g27, g28, g29, g30, g31, g32, g33, g34, g35, g36, g37, g38, g39, g40, g41, g42, g43, rfl, H, h⟩
    subst hK44
    obtain ⟨w163, rfl⟩ : ∃ x, x = w := ⟨_, rfl⟩
    have H164 := H; clear H
    have sf165 := Own.isSl (St.get H164 0 rfl)
    refine then_n ?_
    refine WP.seq ?_
    refine WP.region ?_
    refine WPI.run 2 ⟨#[s1, vi x7, Z, Z, vi x7, g8, g9, g10, g11, g12, g13, g14, g15, g16, g17, g18, g19, g20, g21, g22, g23, g24, g25, g26, g27, g28, g29, g30, g31, g32, g33, g34, g35, g36, g37, g38, g39, g40, g41, g42, g43, vi x7], []⟩ w163 (fun K => by kernel_rfl) ?_
    refine WPI.done rfl ?_
    refine then_n ?_
    refine WP.ret ?_
    obtain rfl := Option.some.inj h
    exact post_r (vi x7) rfl (by kernel_rfl) ⟨rfl, St.sel H164 [0] (by decide) rfl⟩
end Go.Proofs
