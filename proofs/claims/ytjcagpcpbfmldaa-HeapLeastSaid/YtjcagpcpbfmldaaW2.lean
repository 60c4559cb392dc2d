import Derived.Test.YtjcagpcpbfmldaaGw
import Derived.Test.YtjcagpcpbfmldaaProg
import Derived.Test.YtjcagpcpbfmldaaT
import Derived.Test.YtjcagpcpbfmldaaW1
set_option linter.unusedVariables false
set_option linter.unusedSimpArgs false
set_option maxRecDepth 100000
set_option maxHeartbeats 4000000
namespace Go.Proofs
open Gw Go.RowKit
/- tarn/tarnref12.Heap -/
def g_tarnref12_Heap_l1 (l2 : List TNode) (fuel : Nat) (K46 : Option Bool) : Nat → Int → Option Bool
  | 0, _ => none
  | n + 1, x48 => lt (decide (x48 < (((List.length l2 : Nat) : Int)))) fun c91 => br c91 (jn (fun (c125 : Bool) => br c125 (some false) (lt (wr .i64 (x48 + 1)) fun x153 => g_tarnref12_Heap_l1 l2 fuel K46 n x153)) fun K126 => gd ((0 : Int) ≤ x48 ∧ x48 < ((List.length l2 : Nat) : Int)) <| bd (l2[Int.toNat x48]?) fun x128 => bd (g_tarnref12_Node fuel x128) fun t129 => lt (!t129) fun c130 => br c130 (K126 true) (gd ((0 : Int) ≤ x48 ∧ x48 < ((List.length l2 : Nat) : Int)) <| bd (l2[Int.toNat x48]?) fun x132 => bd (g_tarnref12_Find fuel l2 x132.Acct) fun t133 => lt (t133 != x48) fun c134 => br c134 (K126 true) (lt (decide (x48 > 0)) fun c135 => br c135 (gd ((0 : Int) ≤ x48 ∧ x48 < ((List.length l2 : Nat) : Int)) <| bd (l2[Int.toNat x48]?) fun x139 => lt (wr .i64 (x48 - 1)) fun x140 => lt (wr .i64 (Int.tdiv x140 2)) fun x141 => gd ((0 : Int) ≤ x141 ∧ x141 < ((List.length l2 : Nat) : Int)) <| bd (l2[Int.toNat x141]?) fun x143 => bd (g_tarnref12_Below fuel x139 x143) fun t144 => K126 t144) (K126 false)))) (K46)
def g_tarnref12_Heap (fuel : Nat) (l2 : List TNode) : Option Bool :=
  lt (decide ((((List.length l2 : Nat) : Int)) > 8)) fun c3 => br c3 (some false) (jn (some true) fun K46 => g_tarnref12_Heap_l1 l2 fuel K46 fuel 0)
theorem g_tarnref12_Heap_w (fuel : Nat) (s1 : Value) (l2 : List TNode) (r : Bool) (h : g_tarnref12_Heap fuel l2 = some r) (w0 : World) (hs1 : Rd fTNode (hp no w0) s1 l2) :
    Ret Try.prog 13 #[s1] w0 (fun v w' => v = vb r ∧ St no w0 w' []) := by
  unfold g_tarnref12_Heap at h
  refine ret_of_wp Try.func13 rfl #[s1, Z, Z, Z, Z, Z, Z, Z, Z, Z, Z, Z, Z, Z, Z, Z, Z, Z, Z, Z, Z, Z, Z, Z, Z, Z, Z, Z, Z, Z, Z, Z, Z, Z, Z, Z, Z, Z, Z, Z, Z, Z, Z, Z, Z, Z, Z] (by kernel_rfl) ?_
  have H0 := St.start w0
  refine WP.seq ?_
  refine WP.region ?_
  refine WPI.run 1 ⟨#[s1, Z, vb false, Z, Z, Z, Z, Z, Z, Z, Z, Z, Z, Z, Z, Z, Z, Z, Z, Z, Z, Z, Z, Z, Z, Z, Z, Z, Z, Z, Z, Z, Z, Z, Z, Z, Z, Z, Z, Z, Z, Z, Z, Z, Z, Z, Z], []⟩ w0 (fun K => by kernel_rfl) ?_
  refine WPI.done rfl ?_
  refine then_n ?_
  refine WP.seq ?_
  refine WP.seq ?_
  refine WP.region ?_
  refine WPI.run 1 ⟨#[s1, Z, vb false, Z, s1, Z, Z, Z, Z, Z, Z, Z, Z, Z, Z, Z, Z, Z, Z, Z, Z, Z, Z, Z, Z, Z, Z, Z, Z, Z, Z, Z, Z, Z, Z, Z, Z, Z, Z, Z, Z, Z, Z, Z, Z, Z, Z], []⟩ w0 (fun K => by kernel_rfl) ?_
  refine WPI.value (v := vi (((List.length l2 : Nat) : Int))) rfl (by kernel_rfl) (ev_len (Rd.sl hs1) 22 (.tmp 4) 33 6 48 rfl (by kernel_rfl) (by kernel_rfl)) ?_
  obtain ⟨c3, hc3, h⟩ := lt_some h
  refine WPI.run 1 ⟨#[s1, Z, vb false, Z, s1, vi (((List.length l2 : Nat) : Int)), vb c3, Z, Z, Z, Z, Z, Z, Z, Z, Z, Z, Z, Z, Z, Z, Z, Z, Z, Z, Z, Z, Z, Z, Z, Z, Z, Z, Z, Z, Z, Z, Z, Z, Z, Z, Z, Z, Z, Z, Z, Z], []⟩ w0 (fun K => by subst hc3; kernel_rfl) ?_
  refine WPI.done rfl ?_
  refine then_n ?_
  cases c3 with
  | false =>
    replace h := br_f h
    refine WP.condF (by kernel_rfl) ?_
    refine WP.skip ?_
    refine then_n ?_
    refine WP.seq ?_
    refine WP.seq ?_
    refine WP.region ?_
    refine WPI.run 1 ⟨#[s1, Z, vb false, vi 0, s1, vi (((List.length l2 : Nat) : Int)), vb false, Z, Z, Z, Z, Z, Z, Z, Z, Z, Z, Z, Z, Z, Z, Z, Z, Z, Z, Z, Z, Z, Z, Z, Z, Z, Z, Z, Z, Z, Z, Z, Z, Z, Z, Z, Z, Z, Z, Z, Z], []⟩ w0 (fun K => by kernel_rfl) ?_
    refine WPI.done rfl ?_
    refine then_n ?_
    obtain ⟨K46, hK46, h⟩ := jn_some h
    refine WP.blockJ (fun a w => ∃ (g4 : Value) (g5 : Value) (g6 : Value) (g7 : Value) (g8 : Value) (g9 : Value) (g10 : Value) (g11 : Value) (g12 : Value) (g13 : Value) (g14 : Value) (g15 : Value) (g16 : Value) (g17 : Value) (g18 : Value) (g19 : Value) (g20 : Value) (g21 : Value) (g22 : Value) (g23 : Value) (g24 : Value) (g25 : Value) (g26 : Value) (g27 : Value) (g28 : Value) (g29 : Value) (g30 : Value) (g31 : Value) (g32 : Value) (g33 : Value) (g34 : Value) (g35 : Value) (g36 : Value) (g37 : Value) (g38 : Value) (g39 : Value) (g40 : Value) (g41 : Value) (g42 : Value) (g43 : Value) (g44 : Value) (g45 : Value), a = ⟨#[s1, Z, g4, g5, s1, vi (((List.length l2 : Nat) : Int)), vb false, g6, g7, g8, g9, g10, g11, g12, g13, g14, g15, g16, g17, g18, g19, g20, g21, g22, g23, g24, g25, g26, g27, g28, g29, g30, g31, g32, g33, g34, g35, g36, g37, g38, g39, g40, g41, g42, g43, g44, g45], []⟩ ∧ St no w0 w [] ∧ K46 = some r) ?_ ?_
    · skip
      refine WP.loop (fun n a w => ∃ (x48 : Int) (g47 : Value) (g49 : Value) (g50 : Value) (g51 : Value) (g52 : Value) (g53 : Value) (g54 : Value) (g55 : Value) (g56 : Value) (g57 : Value) (g58 : Value) (g59 : Value) (g60 : Value) (g61 : Value) (g62 : Value) (g63 : Value) (g64 : Value) (g65 : Value) (g66 : Value) (g67 : Value) (g68 : Value) (g69 : Value) (g70 : Value) (g71 : Value) (g72 : Value) (g73 : Value) (g74 : Value) (g75 : Value) (g76 : Value) (g77 : Value) (g78 : Value) (g79 : Value) (g80 : Value) (g81 : Value) (g82 : Value) (g83 : Value) (g84 : Value) (g85 : Value) (g86 : Value) (g87 : Value) (g88 : Value), a = ⟨#[s1, Z, g47, vi x48, s1, vi (((List.length l2 : Nat) : Int)), vb false, g49, g50, g51, g52, g53, g54, g55, g56, g57, g58, g59, g60, g61, g62, g63, g64, g65, g66, g67, g68, g69, g70, g71, g72, g73, g74, g75, g76, g77, g78, g79, g80, g81, g82, g83, g84, g85, g86, g87, g88], []⟩ ∧ St no w0 w [] ∧ g_tarnref12_Heap_l1 l2 fuel K46 n x48 = some r) fuel ⟨0, _, _, _, _, _, _, _, _, _, _, _, _, _, _, _, _, _, _, _, _, _, _, _, _, _, _, _, _, _, _, _, _, _, _, _, _, _, _, _, _, _, rfl, St.sel H0 [] (by decide) rfl, h⟩ ?_
      rintro n a w ⟨x48, g47, g49, g50, g51, g52, g53, g54, g55, g56, g57, g58, g59, g60, g61, g62, g63, g64, g65, g66, g67, g68, g69, g70, g71, g72, g73, g74, g75, g76, g77, g78, g79, g80, g81, g82, g83, g84, g85, g86, g87, g88, rfl, H, h⟩
      cases n with
      | zero => rw [g_tarnref12_Heap_l1] at h; cases h
      | succ n =>
        rw [g_tarnref12_Heap_l1] at h
        obtain ⟨w89, rfl⟩ : ∃ x, x = w := ⟨_, rfl⟩
        have H90 := H; clear H
        refine WP.seq ?_
        refine WP.seq ?_
        refine WP.region ?_
        refine WPI.run 2 ⟨#[s1, Z, g47, vi x48, s1, vi (((List.length l2 : Nat) : Int)), vb false, vi x48, s1, g51, g52, g53, g54, g55, g56, g57, g58, g59, g60, g61, g62, g63, g64, g65, g66, g67, g68, g69, g70, g71, g72, g73, g74, g75, g76, g77, g78, g79, g80, g81, g82, g83, g84, g85, g86, g87, g88], []⟩ w89 (fun K => by kernel_rfl) ?_
        refine WPI.value (v := vi (((List.length l2 : Nat) : Int))) rfl (by kernel_rfl) (ev_len (Rd.sl hs1) 22 (.tmp 8) 33 6 48 rfl (by kernel_rfl) (by kernel_rfl)) ?_
        obtain ⟨c91, hc91, h⟩ := lt_some h
        refine WPI.run 1 ⟨#[s1, Z, g47, vi x48, s1, vi (((List.length l2 : Nat) : Int)), vb false, vi x48, s1, vi (((List.length l2 : Nat) : Int)), vb c91, g53, g54, g55, g56, g57, g58, g59, g60, g61, g62, g63, g64, g65, g66, g67, g68, g69, g70, g71, g72, g73, g74, g75, g76, g77, g78, g79, g80, g81, g82, g83, g84, g85, g86, g87, g88], []⟩ w89 (fun K => by subst hc91; kernel_rfl) ?_
        refine WPI.done rfl ?_
        refine then_n ?_
        cases c91 with
        | false =>
          replace h := br_f h
          refine WP.condF (by kernel_rfl) ?_
          refine WP.exit ?_
          exact then_e (then_e (inb_e (then_n ⟨_, _, _, _, _, _, _, _, _, _, _, _, _, _, _, _, _, _, _, _, _, _, _, _, _, _, _, _, _, _, _, _, _, _, _, _, _, _, _, _, _, _, rfl, St.sel H90 [] (by decide) rfl, h⟩)))
        | true =>
          replace h := br_t h
          refine WP.condT (by kernel_rfl) ?_
          refine WP.skip ?_
          refine then_n ?_
          refine WP.seq ?_
          refine WP.block ?_
          refine WP.seq ?_
          obtain ⟨K126, hK126, h⟩ := jn_some h
          refine WP.onlyN (fun a w => ∃ (c125 : Bool) (g92 : Value) (g93 : Value) (g94 : Value) (g95 : Value) (g96 : Value) (g97 : Value) (g98 : Value) (g99 : Value) (g100 : Value) (g101 : Value) (g102 : Value) (g103 : Value) (g104 : Value) (g105 : Value) (g106 : Value) (g107 : Value) (g108 : Value) (g109 : Value) (g110 : Value) (g111 : Value) (g112 : Value) (g113 : Value) (g114 : Value) (g115 : Value) (g116 : Value) (g117 : Value) (g118 : Value) (g119 : Value) (g120 : Value) (g121 : Value) (g122 : Value) (g123 : Value) (g124 : Value), a = ⟨#[s1, Z, g47, vi x48, s1, vi (((List.length l2 : Nat) : Int)), vb false, vi x48, s1, vi (((List.length l2 : Nat) : Int)), vb true, g53, g54, g92, g93, g94, g95, g96, g97, g98, g99, g100, g101, g102, g103, g104, g105, g106, g107, g108, g109, g110, g111, g112, g113, g114, g115, g116, g117, g118, g119, g120, g121, g122, g123, g124, vb c125], []⟩ ∧ St no w0 w [] ∧ K126 c125 = some r) ?_ ?_
          · skip
            refine WP.quiet (by kernel_rfl) (by kernel_rfl) (by kernel_rfl) (fun w => St no w0 w []) (St.drew H90) ?_
            refine WQ.value (v := s1) rfl (by kernel_rfl) (fun w _ => by kernel_rfl) ?_
            refine WQ.value (v := vi x48) rfl (by kernel_rfl) (fun w _ => by kernel_rfl) ?_
            obtain ⟨hg127, h⟩ := gd_some h
            refine WQ.value (v := va (slAt s1 6 (Int.toNat x48))) rfl (by kernel_rfl) (fun w H => ev_index (Rd.sl hs1) 22 (.tmp 13) (.tmp 14) 33 6 48 .i64 x48 rfl (by kernel_rfl) (by kernel_rfl) (by kernel_rfl) hg127) ?_
            obtain ⟨x128, hx128, h⟩ := bd_some h
            refine WQ.value (v := TNode.val x128) rfl (by kernel_rfl) (fun w H => ev_loadEl (F := fTNode) hs1 (St.hp_le H) hx128 33 (.tmp 15) 0 (TNode.val x128) rfl (by kernel_rfl) (by kernel_rfl)) ?_
            obtain ⟨t129, ht129, h⟩ := bd_some h
            refine WQ.call (v := vb t129) rfl (by kernel_rfl) (fun w => by kernel_rfl) (fun w H => Ret.mono (g_tarnref12_Node_w fuel x128 t129 ht129 _) fun u w1 hu => ⟨hu.1, St.call0' H hu.2⟩) ?_
            obtain ⟨c130, hc130, h⟩ := lt_some h
            refine WQ.value (v := vb c130) rfl (by kernel_rfl) (fun w _ => by subst hc130; kernel_rfl) ?_
            refine WQ.value (v := vb c130) rfl (by kernel_rfl) (fun w _ => by kernel_rfl) ?_
            cases c130 with
            | false =>
              replace h := br_f h
              refine WQ.value (v := s1) rfl (by kernel_rfl) (fun w _ => by kernel_rfl) ?_
              refine WQ.value (v := s1) rfl (by kernel_rfl) (fun w _ => by kernel_rfl) ?_
              refine WQ.value (v := vi x48) rfl (by kernel_rfl) (fun w _ => by kernel_rfl) ?_
              obtain ⟨hg131, h⟩ := gd_some h
              refine WQ.value (v := va (slAt s1 6 (Int.toNat x48))) rfl (by kernel_rfl) (fun w H => ev_index (Rd.sl hs1) 22 (.tmp 21) (.tmp 22) 33 6 48 .i64 x48 rfl (by kernel_rfl) (by kernel_rfl) (by kernel_rfl) hg131) ?_
              refine WQ.value (v := va (slAt s1 6 (Int.toNat x48))) rfl (by kernel_rfl) (fun w _ => by kernel_rfl) ?_
              obtain ⟨x132, hx132, h⟩ := bd_some h
              refine WQ.value (v := vi x132.Acct) rfl (by kernel_rfl) (fun w H => ev_loadEl (F := fTNode) hs1 (St.hp_le H) hx132 3 (.tmp 24) 0 (vi x132.Acct) rfl (by kernel_rfl) (by kernel_rfl)) ?_
              obtain ⟨t133, ht133, h⟩ := bd_some h
              refine WQ.call (v := vi t133) rfl (by kernel_rfl) (fun w => by kernel_rfl) (fun w H => Ret.mono (g_tarnref12_Find_w fuel s1 l2 x132.Acct t133 ht133 _ (Rd.arg0 hs1 H)) fun u w1 hu => ⟨hu.1, St.call0' H hu.2⟩) ?_
              refine WQ.value (v := vi x48) rfl (by kernel_rfl) (fun w _ => by kernel_rfl) ?_
              obtain ⟨c134, hc134, h⟩ := lt_some h
              refine WQ.value (v := vb c134) rfl (by kernel_rfl) (fun w _ => by subst hc134; kernel_rfl) ?_
              refine WQ.value (v := vb c134) rfl (by kernel_rfl) (fun w _ => by kernel_rfl) ?_
              refine WQ.value (v := vb c134) rfl (by kernel_rfl) (fun w _ => by kernel_rfl) ?_
              cases c134 with
              | false =>
                replace h := br_f h
                refine WQ.value (v := vi x48) rfl (by kernel_rfl) (fun w _ => by kernel_rfl) ?_
                obtain ⟨c135, hc135, h⟩ := lt_some h
                refine WQ.value (v := vb c135) rfl (by kernel_rfl) (fun w _ => by subst hc135; kernel_rfl) ?_
                refine WQ.value (v := vb c135) rfl (by kernel_rfl) (fun w _ => by kernel_rfl) ?_
                cases c135 with
                | false =>
                  replace h := br_f h
                  refine WQ.off rfl (by kernel_rfl) ?_
                  refine WQ.off rfl (by kernel_rfl) ?_
                  refine WQ.off rfl (by kernel_rfl) ?_
                  refine WQ.off rfl (by kernel_rfl) ?_
                  refine WQ.off rfl (by kernel_rfl) ?_
                  refine WQ.off rfl (by kernel_rfl) ?_
                  refine WQ.off rfl (by kernel_rfl) ?_
                  refine WQ.off rfl (by kernel_rfl) ?_
                  refine WQ.off rfl (by kernel_rfl) ?_
                  refine WQ.off rfl (by kernel_rfl) ?_
                  refine WQ.off rfl (by kernel_rfl) ?_
                  refine WQ.value (v := vb false) rfl (by kernel_rfl) (fun w _ => by kernel_rfl) ?_
                  refine WQ.value (v := vb false) rfl (by kernel_rfl) (fun w _ => by kernel_rfl) ?_
                  refine WQ.frame (a' := ⟨#[s1, Z, g47, vi x48, s1, vi (((List.length l2 : Nat) : Int)), vb false, vi x48, s1, vi (((List.length l2 : Nat) : Int)), vb true, g53, g54, s1, vi x48, va (slAt s1 6 (Int.toNat x48)), TNode.val x128, vb t129, vb false, vb false, s1, s1, vi x48, va (slAt s1 6 (Int.toNat x48)), va (slAt s1 6 (Int.toNat x48)), vi x132.Acct, vi t133, vi x48, vb false, vb false, vb false, vi x48, vb false, vb false, Z, Z, Z, Z, Z, Z, Z, Z, Z, Z, Z, vb false, vb false], []⟩) (by kernel_rfl) ?_
                  refine WQ.done rfl ?_
                  refine (fun w136 H137 => ?_)
                  exact ⟨false, _, _, _, _, _, _, _, _, _, _, _, _, _, _, _, _, _, _, _, _, _, _, _, _, _, _, _, _, _, _, _, _, _, rfl, St.sel H137 [] (by decide) rfl, h⟩
                | true =>
                  replace h := br_t h
                  refine WQ.value (v := s1) rfl (by kernel_rfl) (fun w _ => by kernel_rfl) ?_
                  refine WQ.value (v := vi x48) rfl (by kernel_rfl) (fun w _ => by kernel_rfl) ?_
                  obtain ⟨hg138, h⟩ := gd_some h
                  refine WQ.value (v := va (slAt s1 6 (Int.toNat x48))) rfl (by kernel_rfl) (fun w H => ev_index (Rd.sl hs1) 22 (.tmp 34) (.tmp 35) 33 6 48 .i64 x48 rfl (by kernel_rfl) (by kernel_rfl) (by kernel_rfl) hg138) ?_
                  obtain ⟨x139, hx139, h⟩ := bd_some h
                  refine WQ.value (v := TNode.val x139) rfl (by kernel_rfl) (fun w H => ev_loadEl (F := fTNode) hs1 (St.hp_le H) hx139 33 (.tmp 36) 0 (TNode.val x139) rfl (by kernel_rfl) (by kernel_rfl)) ?_
                  refine WQ.value (v := s1) rfl (by kernel_rfl) (fun w _ => by kernel_rfl) ?_
                  refine WQ.value (v := vi x48) rfl (by kernel_rfl) (fun w _ => by kernel_rfl) ?_
                  obtain ⟨x140, hx140, h⟩ := lt_some h
                  refine WQ.value (v := vi x140) rfl (by kernel_rfl) (fun w _ => by subst hx140; kernel_rfl) ?_
                  obtain ⟨x141, hx141, h⟩ := lt_some h
                  refine WQ.value (v := vi x141) rfl (by kernel_rfl) (fun w _ => by subst hx141; kernel_rfl) ?_
                  obtain ⟨hg142, h⟩ := gd_some h
                  refine WQ.value (v := va (slAt s1 6 (Int.toNat x141))) rfl (by kernel_rfl) (fun w H => ev_index (Rd.sl hs1) 22 (.tmp 38) (.tmp 41) 33 6 48 .i64 x141 rfl (by kernel_rfl) (by kernel_rfl) (by kernel_rfl) hg142) ?_
                  obtain ⟨x143, hx143, h⟩ := bd_some h
                  refine WQ.value (v := TNode.val x143) rfl (by kernel_rfl) (fun w H => ev_loadEl (F := fTNode) hs1 (St.hp_le H) hx143 33 (.tmp 42) 0 (TNode.val x143) rfl (by kernel_rfl) (by kernel_rfl)) ?_
                  obtain ⟨t144, ht144, h⟩ := bd_some h
                  refine WQ.call (v := vb t144) rfl (by kernel_rfl) (fun w => by kernel_rfl) (fun w H => Ret.mono (g_tarnref12_Below_w fuel x139 x143 t144 ht144 _) fun u w1 hu => ⟨hu.1, St.call0' H hu.2⟩) ?_
                  refine WQ.value (v := vb t144) rfl (by kernel_rfl) (fun w _ => by kernel_rfl) ?_
                  refine WQ.value (v := vb t144) rfl (by kernel_rfl) (fun w _ => by kernel_rfl) ?_
                  refine WQ.frame (a' := ⟨#[s1, Z, g47, vi x48, s1, vi (((List.length l2 : Nat) : Int)), vb false, vi x48, s1, vi (((List.length l2 : Nat) : Int)), vb true, g53, g54, s1, vi x48, va (slAt s1 6 (Int.toNat x48)), TNode.val x128, vb t129, vb false, vb false, s1, s1, vi x48, va (slAt s1 6 (Int.toNat x48)), va (slAt s1 6 (Int.toNat x48)), vi x132.Acct, vi t133, vi x48, vb false, vb false, vb false, vi x48, vb true, vb true, s1, vi x48, va (slAt s1 6 (Int.toNat x48)), TNode.val x139, s1, vi x48, vi x140, vi x141, va (slAt s1 6 (Int.toNat x141)), TNode.val x143, vb t144, vb t144, vb t144], []⟩) (by kernel_rfl) ?_
                  refine WQ.done rfl ?_
                  refine (fun w145 H146 => ?_)
                  exact ⟨t144, _, _, _, _, _, _, _, _, _, _, _, _, _, _, _, _, _, _, _, _, _, _, _, _, _, _, _, _, _, _, _, _, _, rfl, St.sel H146 [] (by decide) rfl, h⟩
              | true =>
                replace h := br_t h
                refine WQ.off rfl (by kernel_rfl) ?_
                refine WQ.off rfl (by kernel_rfl) ?_
                refine WQ.off rfl (by kernel_rfl) ?_
                refine WQ.off rfl (by kernel_rfl) ?_
                refine WQ.off rfl (by kernel_rfl) ?_
                refine WQ.off rfl (by kernel_rfl) ?_
                refine WQ.off rfl (by kernel_rfl) ?_
                refine WQ.off rfl (by kernel_rfl) ?_
                refine WQ.off rfl (by kernel_rfl) ?_
                refine WQ.off rfl (by kernel_rfl) ?_
                refine WQ.off rfl (by kernel_rfl) ?_
                refine WQ.off rfl (by kernel_rfl) ?_
                refine WQ.off rfl (by kernel_rfl) ?_
                refine WQ.off rfl (by kernel_rfl) ?_
                refine WQ.off rfl (by kernel_rfl) ?_
                refine WQ.value (v := vb true) rfl (by kernel_rfl) (fun w _ => by kernel_rfl) ?_
                refine WQ.frame (a' := ⟨#[s1, Z, g47, vi x48, s1, vi (((List.length l2 : Nat) : Int)), vb false, vi x48, s1, vi (((List.length l2 : Nat) : Int)), vb true, g53, g54, s1, vi x48, va (slAt s1 6 (Int.toNat x48)), TNode.val x128, vb t129, vb false, vb false, s1, s1, vi x48, va (slAt s1 6 (Int.toNat x48)), va (slAt s1 6 (Int.toNat x48)), vi x132.Acct, vi t133, vi x48, vb true, vb true, vb true, Z, Z, Z, Z, Z, Z, Z, Z, Z, Z, Z, Z, Z, Z, Z, vb true], []⟩) (by kernel_rfl) ?_
                refine WQ.done rfl ?_
                refine (fun w147 H148 => ?_)
                exact ⟨true, _, _, _, _, _, _, _, _, _, _, _, _, _, _, _, _, _, _, _, _, _, _, _, _, _, _, _, _, _, _, _, _, _, rfl, St.sel H148 [] (by decide) rfl, h⟩
            | true =>
              replace h := br_t h
              refine WQ.off rfl (by kernel_rfl) ?_
              refine WQ.off rfl (by kernel_rfl) ?_
              refine WQ.off rfl (by kernel_rfl) ?_
              refine WQ.off rfl (by kernel_rfl) ?_
              refine WQ.off rfl (by kernel_rfl) ?_
              refine WQ.off rfl (by kernel_rfl) ?_
              refine WQ.off rfl (by kernel_rfl) ?_
              refine WQ.off rfl (by kernel_rfl) ?_
              refine WQ.off rfl (by kernel_rfl) ?_
              refine WQ.value (v := vb true) rfl (by kernel_rfl) (fun w _ => by kernel_rfl) ?_
              refine WQ.value (v := vb true) rfl (by kernel_rfl) (fun w _ => by kernel_rfl) ?_
              refine WQ.off rfl (by kernel_rfl) ?_
              refine WQ.off rfl (by kernel_rfl) ?_
              refine WQ.off rfl (by kernel_rfl) ?_
              refine WQ.off rfl (by kernel_rfl) ?_
              refine WQ.off rfl (by kernel_rfl) ?_
              refine WQ.off rfl (by kernel_rfl) ?_
              refine WQ.off rfl (by kernel_rfl) ?_
              refine WQ.off rfl (by kernel_rfl) ?_
              refine WQ.off rfl (by kernel_rfl) ?_
              refine WQ.off rfl (by kernel_rfl) ?_
              refine WQ.off rfl (by kernel_rfl) ?_
              refine WQ.off rfl (by kernel_rfl) ?_
              refine WQ.off rfl (by kernel_rfl) ?_
              refine WQ.off rfl (by kernel_rfl) ?_
              refine WQ.off rfl (by kernel_rfl) ?_
              refine WQ.value (v := vb true) rfl (by kernel_rfl) (fun w _ => by kernel_rfl) ?_
              refine WQ.frame (a' := ⟨#[s1, Z, g47, vi x48, s1, vi (((List.length l2 : Nat) : Int)), vb false, vi x48, s1, vi (((List.length l2 : Nat) : Int)), vb true, g53, g54, s1, vi x48, va (slAt s1 6 (Int.toNat x48)), TNode.val x128, vb t129, vb true, vb true, Z, Z, Z, Z, Z, Z, Z, Z, Z, vb true, vb true, Z, Z, Z, Z, Z, Z, Z, Z, Z, Z, Z, Z, Z, Z, Z, vb true], []⟩) (by kernel_rfl) ?_
              refine WQ.done rfl ?_
              refine (fun w149 H150 => ?_)
              exact ⟨true, _, _, _, _, _, _, _, _, _, _, _, _, _, _, _, _, _, _, _, _, _, _, _, _, _, _, _, _, _, _, _, _, _, rfl, St.sel H150 [] (by decide) rfl, h⟩
          · rintro a w ⟨c125, g92, g93, g94, g95, g96, g97, g98, g99, g100, g101, g102, g103, g104, g105, g106, g107, g108, g109, g110, g111, g112, g113, g114, g115, g116, g117, g118, g119, g120, g121, g122, g123, g124, rfl, H, h⟩
            subst hK126
            obtain ⟨w151, rfl⟩ : ∃ x, x = w := ⟨_, rfl⟩
            have H152 := H; clear H
            refine then_n ?_
            cases c125 with
            | false =>
              replace h := br_f h
              refine WP.condF (by kernel_rfl) ?_
              refine WP.skip ?_
              refine inb_n (then_n ?_)
              refine WP.region ?_
              obtain ⟨x153, hx153, h⟩ := lt_some h
              refine WPI.run 3 ⟨#[s1, Z, g47, vi x153, s1, vi (((List.length l2 : Nat) : Int)), vb false, vi x48, s1, vi (((List.length l2 : Nat) : Int)), vb true, vi x48, vi x153, g92, g93, g94, g95, g96, g97, g98, g99, g100, g101, g102, g103, g104, g105, g106, g107, g108, g109, g110, g111, g112, g113, g114, g115, g116, g117, g118, g119, g120, g121, g122, g123, g124, vb false], []⟩ w151 (fun K => by subst hx153; kernel_rfl) ?_
              refine WPI.done rfl ?_
              exact then_n ⟨n, Nat.lt_succ_self n, x153, _, _, _, _, _, _, _, _, _, _, _, _, _, _, _, _, _, _, _, _, _, _, _, _, _, _, _, _, _, _, _, _, _, _, _, _, _, _, _, _, _, rfl, St.sel H152 [] (by decide) rfl, h⟩
            | true =>
              replace h := br_t h
              refine WP.condT (by kernel_rfl) ?_
              refine WP.seq ?_
              refine WP.region ?_
              refine WPI.run 1 ⟨#[s1, Z, vb false, vi x48, s1, vi (((List.length l2 : Nat) : Int)), vb false, vi x48, s1, vi (((List.length l2 : Nat) : Int)), vb true, g53, g54, g92, g93, g94, g95, g96, g97, g98, g99, g100, g101, g102, g103, g104, g105, g106, g107, g108, g109, g110, g111, g112, g113, g114, g115, g116, g117, g118, g119, g120, g121, g122, g123, g124, vb true], []⟩ w151 (fun K => by kernel_rfl) ?_
              refine WPI.done rfl ?_
              refine then_n ?_
              refine WP.ret ?_
              obtain rfl := Option.some.inj h
              exact inb_r (then_r (then_r (inb_r (then_r (then_r (post_r (vb false) rfl (by kernel_rfl) ⟨rfl, St.sel H152 [] (by decide) rfl⟩))))))
    · rintro a w ⟨g4, g5, g6, g7, g8, g9, g10, g11, g12, g13, g14, g15, g16, g17, g18, g19, g20, g21, g22, g23, g24, g25, g26, g27, g28, g29, g30, g31, g32, g33, g34, g35, g36, g37, g38, g39, g40, g41, g42, g43, g44, g45, rfl, H, h⟩
      subst hK46
      obtain ⟨w154, rfl⟩ : ∃ x, x = w := ⟨_, rfl⟩
      have H155 := H; clear H
      refine then_n ?_
      refine WP.seq ?_
      refine WP.region ?_
      refine WPI.run 1 ⟨#[s1, Z, vb true, g5, s1, vi (((List.length l2 : Nat) : Int)), vb false, g6, g7, g8, g9, g10, g11, g12, g13, g14, g15, g16, g17, g18, g19, g20, g21, g22, g23, g24, g25, g26, g27, g28, g29, g30, g31, g32, g33, g34, g35, g36, g37, g38, g39, g40, g41, g42, g43, g44, g45], []⟩ w154 (fun K => by kernel_rfl) ?_
      refine WPI.done rfl ?_
      refine then_n ?_
      refine WP.ret ?_
      obtain rfl := Option.some.inj h
      exact post_r (vb true) rfl (by kernel_rfl) ⟨rfl, St.sel H155 [] (by decide) rfl⟩
  | true =>
    replace h := br_t h
    refine WP.condT (by kernel_rfl) ?_
    refine WP.seq ?_
    refine WP.region ?_
    refine WPI.run 1 ⟨#[s1, Z, vb false, Z, s1, vi (((List.length l2 : Nat) : Int)), vb true, Z, Z, Z, Z, Z, Z, Z, Z, Z, Z, Z, Z, Z, Z, Z, Z, Z, Z, Z, Z, Z, Z, Z, Z, Z, Z, Z, Z, Z, Z, Z, Z, Z, Z, Z, Z, Z, Z, Z, Z], []⟩ w0 (fun K => by kernel_rfl) ?_
    refine WPI.done rfl ?_
    refine then_n ?_
    refine WP.ret ?_
    obtain rfl := Option.some.inj h
    exact then_r (post_r (vb false) rfl (by kernel_rfl) ⟨rfl, St.sel H0 [] (by decide) rfl⟩)
/- tarn/tarnref0.CopyNodes -/
def g_tarnref0_CopyNodes_l1 (l2 : List TNode) (K20 : (List TNode) → Option (List TNode)) (fuel : Nat) : Nat → (List TNode) → Int → Option (List TNode)
  | 0, _, _ => none
  | n + 1, l22, x24 => lt (decide (x24 < (((List.length l2 : Nat) : Int)))) fun c41 => br c41 (gd ((0 : Int) ≤ x24 ∧ x24 < ((List.length l2 : Nat) : Int)) <| bd (l2[Int.toNat x24]?) fun x43 => gd ((List.length l22 + List.length (([x43] : List TNode))) * 48 ≤ 140737488355328) <| lt (l22 ++ (([x43] : List TNode))) fun l50 => lt (wr .i64 (x24 + 1)) fun x55 => g_tarnref0_CopyNodes_l1 l2 K20 fuel n l50 x55) (K20 l22)
def g_tarnref0_CopyNodes (fuel : Nat) (l2 : List TNode) : Option (List TNode) :=
  jn (fun (l4 : List TNode) => some l4) fun K20 => g_tarnref0_CopyNodes_l1 l2 K20 fuel fuel ([]) 0
theorem g_tarnref0_CopyNodes_w (fuel : Nat) (s1 : Value) (l2 : List TNode) (r : List TNode) (h : g_tarnref0_CopyNodes fuel l2 = some r) (w0 : World) (hs1 : Rd fTNode (hp no w0) s1 l2) :
    Ret Try.prog 25 #[s1] w0 (fun v w' => ∃ (q0 : Value), v = q0 ∧ St no w0 w' [Own fTNode 33 q0 r]) := by
  unfold g_tarnref0_CopyNodes at h
  refine ret_of_wp Try.func25 rfl #[s1, Z, Z, Z, Z, Z, Z, Z, Z, Z, Z, Z, Z, Z, Z, Z, Z, Z, Z] (by kernel_rfl) ?_
  have H0 := St.start w0
  refine WP.seq ?_
  refine WP.region ?_
  refine WPI.run 1 ⟨#[s1, Z, vn, Z, Z, Z, Z, Z, Z, Z, Z, Z, Z, Z, Z, Z, Z, Z, Z], []⟩ w0 (fun K => by kernel_rfl) ?_
  refine WPI.done rfl ?_
  refine then_n ?_
  refine WP.seq ?_
  refine WP.region ?_
  refine WPI.run 1 ⟨#[s1, Z, vn, vn, Z, Z, Z, Z, Z, Z, Z, Z, Z, Z, Z, Z, Z, Z, Z], []⟩ w0 (fun K => by kernel_rfl) ?_
  refine WPI.done rfl ?_
  refine then_n ?_
  refine WP.seq ?_
  refine WP.seq ?_
  refine WP.region ?_
  refine WPI.run 1 ⟨#[s1, Z, vn, vn, vi 0, Z, Z, Z, Z, Z, Z, Z, Z, Z, Z, Z, Z, Z, Z], []⟩ w0 (fun K => by kernel_rfl) ?_
  refine WPI.done rfl ?_
  refine then_n ?_
  obtain ⟨K20, hK20, h⟩ := jn_some h
  refine WP.blockJ (fun a w => ∃ (l4 : List TNode) (s5 : Value) (g6 : Value) (g7 : Value) (g8 : Value) (g9 : Value) (g10 : Value) (g11 : Value) (g12 : Value) (g13 : Value) (g14 : Value) (g15 : Value) (g16 : Value) (g17 : Value) (g18 : Value) (g19 : Value), a = ⟨#[s1, Z, vn, s5, g6, g7, g8, g9, g10, g11, g12, g13, g14, g15, g16, g17, g18, g19, Z], []⟩ ∧ St no w0 w [Own fTNode 33 s5 l4] ∧ K20 l4 = some r) ?_ ?_
  · skip
    refine WP.loop (fun n a w => ∃ (l22 : List TNode) (x24 : Int) (s23 : Value) (g25 : Value) (g26 : Value) (g27 : Value) (g28 : Value) (g29 : Value) (g30 : Value) (g31 : Value) (g32 : Value) (g33 : Value) (g34 : Value) (g35 : Value) (g36 : Value) (g37 : Value), a = ⟨#[s1, Z, vn, s23, vi x24, g25, g26, g27, g28, g29, g30, g31, g32, g33, g34, g35, g36, g37, Z], []⟩ ∧ St no w0 w [Own fTNode 33 s23 l22] ∧ g_tarnref0_CopyNodes_l1 l2 K20 fuel n l22 x24 = some r) fuel ⟨([]), 0, vn, _, _, _, _, _, _, _, _, _, _, _, _, _, rfl, St.sel (St.nil H0 fTNode 33) [0] (by decide) rfl, h⟩ ?_
    rintro n a w ⟨l22, x24, s23, g25, g26, g27, g28, g29, g30, g31, g32, g33, g34, g35, g36, g37, rfl, H, h⟩
    cases n with
    | zero => rw [g_tarnref0_CopyNodes_l1] at h; cases h
    | succ n =>
      rw [g_tarnref0_CopyNodes_l1] at h
      obtain ⟨w38, rfl⟩ : ∃ x, x = w := ⟨_, rfl⟩
      have H39 := H; clear H
      have sf40 := Own.isSl (St.get H39 0 rfl)
      refine WP.seq ?_
      refine WP.seq ?_
      refine WP.region ?_
      refine WPI.run 2 ⟨#[s1, Z, vn, s23, vi x24, vi x24, s1, g27, g28, g29, g30, g31, g32, g33, g34, g35, g36, g37, Z], []⟩ w38 (fun K => by kernel_rfl) ?_
      refine WPI.value (v := vi (((List.length l2 : Nat) : Int))) rfl (by kernel_rfl) (ev_len (Rd.sl hs1) 22 (.tmp 6) 33 6 48 rfl (by kernel_rfl) (by kernel_rfl)) ?_
      obtain ⟨c41, hc41, h⟩ := lt_some h
      refine WPI.run 1 ⟨#[s1, Z, vn, s23, vi x24, vi x24, s1, vi (((List.length l2 : Nat) : Int)), vb c41, g29, g30, g31, g32, g33, g34, g35, g36, g37, Z], []⟩ w38 (fun K => by subst hc41; kernel_rfl) ?_
      refine WPI.done rfl ?_
      refine then_n ?_
      cases c41 with
      | false =>
        replace h := br_f h
        refine WP.condF (by kernel_rfl) ?_
        refine WP.exit ?_
        exact then_e (then_e (inb_e (then_n ⟨l22, s23, _, _, _, _, _, _, _, _, _, _, _, _, _, _, rfl, St.sel H39 [0] (by decide) rfl, h⟩)))
      | true =>
        replace h := br_t h
        refine WP.condT (by kernel_rfl) ?_
        refine WP.skip ?_
        refine then_n ?_
        refine WP.seq ?_
        refine WP.block ?_
        refine WP.region ?_
        obtain ⟨hg42, h⟩ := gd_some h
        refine WPI.run 3 ⟨#[s1, Z, vn, s23, vi x24, vi x24, s1, vi (((List.length l2 : Nat) : Int)), vb true, g29, g30, s23, s1, vi x24, g34, g35, g36, g37, Z], []⟩ w38 (fun K => by kernel_rfl) ?_
        refine WPI.value (v := va (slAt s1 6 (Int.toNat x24))) rfl (by kernel_rfl) (ev_index (Rd.sl hs1) 22 (.tmp 12) (.tmp 13) 33 6 48 .i64 x24 rfl (by kernel_rfl) (by kernel_rfl) (by kernel_rfl) hg42) ?_
        obtain ⟨x43, hx43, h⟩ := bd_some h
        refine WPI.run 0 ⟨#[s1, Z, vn, s23, vi x24, vi x24, s1, vi (((List.length l2 : Nat) : Int)), vb true, g29, g30, s23, s1, vi x24, va (slAt s1 6 (Int.toNat x24)), g35, g36, g37, Z], []⟩ w38 (fun K => by kernel_rfl) ?_
        refine WPI.value (v := TNode.val x43) rfl (by kernel_rfl) (ev_loadEl (F := fTNode) hs1 (St.hp_le H39) hx43 33 (.tmp 14) 0 (TNode.val x43) rfl (by kernel_rfl) (by kernel_rfl)) ?_
        refine WPI.run 0 ⟨#[s1, Z, vn, s23, vi x24, vi x24, s1, vi (((List.length l2 : Nat) : Int)), vb true, g29, g30, s23, s1, vi x24, va (slAt s1 6 (Int.toNat x24)), TNode.val x43, g36, g37, Z], []⟩ w38 (fun K => by kernel_rfl) ?_
        refine WPI.op rfl (Op1.lit (F := fTNode) (E := 33) H39 (by kernel_rfl) ([x43] : List TNode) (fun w => by kernel_rfl) (by simp [maxLen]) (fun s45 w47 H48 => ?_))
        clear H39
        have sf46 := Own.isSl (St.get H48 0 rfl)
        obtain ⟨hg49, h⟩ := gd_some h
        obtain ⟨l50, hl50, h⟩ := lt_some h
        refine WPI.run 0 ⟨#[s1, Z, vn, s23, vi x24, vi x24, s1, vi (((List.length l2 : Nat) : Int)), vb true, g29, g30, s23, s1, vi x24, va (slAt s1 6 (Int.toNat x24)), TNode.val x43, s45, g37, Z], []⟩ w47 (fun K => by kernel_rfl) ?_
        refine WPI.op rfl (Op1.append (F := fTNode) H48 1 rfl (by kernel_rfl) 22 (.tmp 11) (.tmp 16) 48 rfl (by kernel_rfl) (by kernel_rfl) s45 (([x43] : List TNode)) (St.rd H48 0 rfl) (hp_no_le _) (by kernel_rfl) (app_len hg49 (by decide)) (fun s51 w53 H54 => ?_))
        rw [← hl50] at H54
        clear H48
        have sf52 := Own.isSl (St.get H54 0 rfl)
        refine WPI.run 1 ⟨#[s1, Z, vn, s51, vi x24, vi x24, s1, vi (((List.length l2 : Nat) : Int)), vb true, g29, g30, s23, s1, vi x24, va (slAt s1 6 (Int.toNat x24)), TNode.val x43, s45, s51, Z], []⟩ w53 (fun K => by kernel_rfl) ?_
        refine WPI.done rfl ?_
        refine inb_n (then_n ?_)
        refine WP.region ?_
        obtain ⟨x55, hx55, h⟩ := lt_some h
        refine WPI.run 3 ⟨#[s1, Z, vn, s51, vi x55, vi x24, s1, vi (((List.length l2 : Nat) : Int)), vb true, vi x24, vi x55, s23, s1, vi x24, va (slAt s1 6 (Int.toNat x24)), TNode.val x43, s45, s51, Z], []⟩ w53 (fun K => by subst hx55; kernel_rfl) ?_
        refine WPI.done rfl ?_
        exact then_n ⟨n, Nat.lt_succ_self n, l50, x55, s51, _, _, _, _, _, _, _, _, _, _, _, _, _, rfl, St.sel H54 [0] (by decide) rfl, h⟩
  · rintro a w ⟨l4, s5, g6, g7, g8, g9, g10, g11, g12, g13, g14, g15, g16, g17, g18, g19, rfl, H, h⟩
    subst hK20
    obtain ⟨w56, rfl⟩ : ∃ x, x = w := ⟨_, rfl⟩
    have H57 := H; clear H
    have sf58 := Own.isSl (St.get H57 0 rfl)
    refine then_n ?_
    refine WP.seq ?_
    refine WP.region ?_
    refine WPI.run 2 ⟨#[s1, Z, s5, s5, g6, g7, g8, g9, g10, g11, g12, g13, g14, g15, g16, g17, g18, g19, s5], []⟩ w56 (fun K => by kernel_rfl) ?_
    refine WPI.done rfl ?_
    refine then_n ?_
    refine WP.ret ?_
    obtain rfl := Option.some.inj h
    exact post_r (s5) rfl (by kernel_rfl) ⟨s5, rfl, St.sel H57 [0] (by decide) rfl⟩
/- tarn/tarnlaw0.Within -/
def g_tarnlaw0_Within (fuel : Nat) (p1 : Int) (p2 : Int) : Option Int :=
  lt (wr .u64 p1) fun x3 => lt (wr .u64 p2) fun x4 => gd (x4 ≠ 0) <| lt (Int.tmod x3 x4) fun x6 => lt (wr .i64 x6) fun x7 => some x7
theorem g_tarnlaw0_Within_w (fuel : Nat) (p1 : Int) (p2 : Int) (r : Int) (h : g_tarnlaw0_Within fuel p1 p2 = some r) (w0 : World) :
    Ret Try.prog 18 #[vi p1, vi p2] w0 (fun v w' => v = vi r ∧ St no w0 w' []) := by
  unfold g_tarnlaw0_Within at h
  refine ret_of_wp Try.func18 rfl #[vi p1, vi p2, Z, Z, Z, Z, Z, Z, Z, Z, Z] (by kernel_rfl) ?_
  have H0 := St.start w0
  refine WP.seq ?_
  refine WP.region ?_
  refine WPI.run 1 ⟨#[vi p1, vi p2, Z, Z, vi 0, Z, Z, Z, Z, Z, Z], []⟩ w0 (fun K => by kernel_rfl) ?_
  refine WPI.done rfl ?_
  refine then_n ?_
  refine WP.seq ?_
  refine WP.region ?_
  obtain ⟨x3, hx3, h⟩ := lt_some h
  obtain ⟨x4, hx4, h⟩ := lt_some h
  obtain ⟨hg5, h⟩ := gd_some h
  obtain ⟨x6, hx6, h⟩ := lt_some h
  refine WPI.run 4 ⟨#[vi p1, vi p2, Z, Z, vi 0, vi p1, vu x3, vi p2, vu x4, Z, Z], []⟩ w0 (fun K => by subst hx4 hx3; kernel_rfl) ?_
  refine WPI.value (v := vu x6) rfl (by kernel_rfl) (by subst hx6; exact ev_rem .u64 x3 x4 59 59 (.tmp 6) (.tmp 8) rfl (by kernel_rfl) (by kernel_rfl) hg5) ?_
  obtain ⟨x7, hx7, h⟩ := lt_some h
  refine WPI.run 2 ⟨#[vi p1, vi p2, Z, Z, vi x7, vi p1, vu x3, vi p2, vu x4, vu x6, vi x7], []⟩ w0 (fun K => by subst hx7; kernel_rfl) ?_
  refine WPI.done rfl ?_
  refine then_n ?_
  refine WP.ret ?_
  obtain rfl := Option.some.inj h
  exact post_r (vi x7) rfl (by kernel_rfl) ⟨rfl, St.sel H0 [] (by decide) rfl⟩
/- tarn/tarnref12.rises -/
def g_tarnref12_rises_l1 (K44 : (List TNode) → Int → Option ((List TNode) × Int)) (fuel : Nat) : Nat → (List TNode) → Int → Option ((List TNode) × Int)
  | 0, _, _ => none
  | n + 1, l45, x46 => jn (fun (c100 : Bool) => br c100 (jn (fun (l117 : List TNode) => lt (wr .i64 (x46 - 1)) fun x161 => lt (wr .i64 (Int.tdiv x161 2)) fun x162 => g_tarnref12_rises_l1 K44 fuel n l117 x162) fun K136 => lt (wr .i64 (x46 - 1)) fun x138 => lt (wr .i64 (Int.tdiv x138 2)) fun x139 => lt (wr .i64 (x46 - 1)) fun x140 => lt (wr .i64 (Int.tdiv x140 2)) fun x141 => gd ((0 : Int) ≤ x141 ∧ x141 < ((List.length l45 : Nat) : Int)) <| bd (l45[Int.toNat x141]?) fun x143 => gd ((0 : Int) ≤ x46 ∧ x46 < ((List.length l45 : Nat) : Int)) <| bd (l45[Int.toNat x46]?) fun x145 => gd ((0 : Int) ≤ x46 ∧ x46 < ((List.length l45 : Nat) : Int)) <| lt (List.set l45 (Int.toNat x46) x143) fun l147 => gd ((0 : Int) ≤ x139 ∧ x139 < ((List.length l45 : Nat) : Int)) <| lt (List.set l147 (Int.toNat x139) x145) fun l149 => K136 l149) (K44 l45 x46)) fun K101 => lt (decide (x46 > 0)) fun c102 => br c102 (gd ((0 : Int) ≤ x46 ∧ x46 < ((List.length l45 : Nat) : Int)) <| bd (l45[Int.toNat x46]?) fun x106 => lt (wr .i64 (x46 - 1)) fun x107 => lt (wr .i64 (Int.tdiv x107 2)) fun x108 => gd ((0 : Int) ≤ x108 ∧ x108 < ((List.length l45 : Nat) : Int)) <| bd (l45[Int.toNat x108]?) fun x110 => bd (g_tarnref12_Below fuel x106 x110) fun t111 => K101 t111) (K101 false)
def g_tarnref12_rises (fuel : Nat) (l2 : List TNode) (p4 : Int) : Option ((List TNode) × Int) :=
  jn (fun (l6 : List TNode) (x7 : Int) => some (l6, x7)) fun K44 => g_tarnref12_rises_l1 K44 fuel fuel l2 p4
theorem g_tarnref12_rises_w (fuel : Nat) (s1 : Value) (l2 : List TNode) (p4 : Int) (r : (List TNode) × Int) (h : g_tarnref12_rises fuel l2 p4 = some r) (w0 : World) (hm : (Own fTNode 33 s1 l2).holds w0) :
    Ret Try.prog 52 #[s1, vi p4] w0 (fun v w' => v = vi r.2 ∧ St (Own fTNode 33 s1 l2).fp w0 w' [Own fTNode 33 s1 r.1]) := by
  unfold g_tarnref12_rises at h
  refine ret_of_wp Try.func52 rfl #[s1, vi p4, Z, Z, Z, Z, Z, Z, Z, Z, Z, Z, Z, Z, Z, Z, Z, Z, Z, Z, Z, Z, Z, Z, Z, Z, Z, Z, Z, Z, Z, Z, Z, Z, Z, Z, Z, Z, Z, Z, Z, Z] (by kernel_rfl) ?_
  have H0 := St.start1 hm
  have sf5 := Own.isSl (St.get H0 0 rfl)
  refine WP.seq ?_
  refine WP.region ?_
  refine WPI.run 1 ⟨#[s1, vi p4, Z, Z, vi 0, Z, Z, Z, Z, Z, Z, Z, Z, Z, Z, Z, Z, Z, Z, Z, Z, Z, Z, Z, Z, Z, Z, Z, Z, Z, Z, Z, Z, Z, Z, Z, Z, Z, Z, Z, Z, Z], []⟩ w0 (fun K => by kernel_rfl) ?_
  refine WPI.done rfl ?_
  refine then_n ?_
  refine WP.seq ?_
  obtain ⟨K44, hK44, h⟩ := jn_some h
  refine WP.blockJ (fun a w => ∃ (l6 : List TNode) (x7 : Int) (g8 : Value) (g9 : Value) (g10 : Value) (g11 : Value) (g12 : Value) (g13 : Value) (g14 : Value) (g15 : Value) (g16 : Value) (g17 : Value) (g18 : Value) (g19 : Value) (g20 : Value) (g21 : Value) (g22 : Value) (g23 : Value) (g24 : Value) (g25 : Value) (g26 : Value) (g27 : Value) (g28 : Value) (g29 : Value) (g30 : Value) (g31 : Value) (g32 : Value) (g33 : Value) (g34 : Value) (g35 : Value) (g36 : Value) (g37 : Value) (g38 : Value) (g39 : Value) (g40 : Value) (g41 : Value) (g42 : Value) (g43 : Value), a = ⟨#[s1, vi x7, Z, Z, vi 0, g8, g9, g10, g11, g12, g13, g14, g15, g16, g17, g18, g19, g20, g21, g22, g23, g24, g25, g26, g27, g28, g29, g30, g31, g32, g33, g34, g35, g36, g37, g38, g39, g40, g41, g42, g43, Z], []⟩ ∧ St (Own fTNode 33 s1 l2).fp w0 w [Own fTNode 33 s1 l6] ∧ K44 l6 x7 = some r) ?_ ?_
  · skip
    refine WP.loop (fun n a w => ∃ (l45 : List TNode) (x46 : Int) (g47 : Value) (g48 : Value) (g49 : Value) (g50 : Value) (g51 : Value) (g52 : Value) (g53 : Value) (g54 : Value) (g55 : Value) (g56 : Value) (g57 : Value) (g58 : Value) (g59 : Value) (g60 : Value) (g61 : Value) (g62 : Value) (g63 : Value) (g64 : Value) (g65 : Value) (g66 : Value) (g67 : Value) (g68 : Value) (g69 : Value) (g70 : Value) (g71 : Value) (g72 : Value) (g73 : Value) (g74 : Value) (g75 : Value) (g76 : Value) (g77 : Value) (g78 : Value) (g79 : Value) (g80 : Value) (g81 : Value) (g82 : Value), a = ⟨#[s1, vi x46, Z, Z, vi 0, g47, g48, g49, g50, g51, g52, g53, g54, g55, g56, g57, g58, g59, g60, g61, g62, g63, g64, g65, g66, g67, g68, g69, g70, g71, g72, g73, g74, g75, g76, g77, g78, g79, g80, g81, g82, Z], []⟩ ∧ St (Own fTNode 33 s1 l2).fp w0 w [Own fTNode 33 s1 l45] ∧ g_tarnref12_rises_l1 K44 fuel n l45 x46 = some r) fuel ⟨l2, p4, _, _, _, _, _, _, _, _, _, _, _, _, _, _, _, _, _, _, _, _, _, _, _, _, _, _, _, _, _, _, _, _, _, _, _, _, rfl, St.sel H0 [0] (by decide) rfl, h⟩ ?_
    rintro n a w ⟨l45, x46, g47, g48, g49, g50, g51, g52, g53, g54, g55, g56, g57, g58, g59, g60, g61, g62, g63, g64, g65, g66, g67, g68, g69, g70, g71, g72, g73, g74, g75, g76, g77, g78, g79, g80, g81, g82, rfl, H, h⟩
    cases n with
    | zero => rw [g_tarnref12_rises_l1] at h; cases h
    | succ n =>
      rw [g_tarnref12_rises_l1] at h
      obtain ⟨w83, rfl⟩ : ∃ x, x = w := ⟨_, rfl⟩
      have H84 := H; clear H
      have sf85 := Own.isSl (St.get H84 0 rfl)
      refine WP.seq ?_
      refine WP.seq ?_
      obtain ⟨K101, hK101, h⟩ := jn_some h
      refine WP.onlyN (fun a w => ∃ (c100 : Bool) (g86 : Value) (g87 : Value) (g88 : Value) (g89 : Value) (g90 : Value) (g91 : Value) (g92 : Value) (g93 : Value) (g94 : Value) (g95 : Value) (g96 : Value) (g97 : Value) (g98 : Value) (g99 : Value), a = ⟨#[s1, vi x46, Z, Z, vi 0, g86, g87, g88, g89, g90, g91, g92, g93, g94, g95, g96, g97, g98, g99, vb c100, g62, g63, g64, g65, g66, g67, g68, g69, g70, g71, g72, g73, g74, g75, g76, g77, g78, g79, g80, g81, g82, Z], []⟩ ∧ St (Own fTNode 33 s1 l2).fp w0 w [Own fTNode 33 s1 l45] ∧ K101 c100 = some r) ?_ ?_
      · skip
        refine WP.quiet (by kernel_rfl) (by kernel_rfl) (by kernel_rfl) (fun w => St (Own fTNode 33 s1 l2).fp w0 w [Own fTNode 33 s1 l45]) (St.drew H84) ?_
        refine WQ.value (v := vi x46) rfl (by kernel_rfl) (fun w _ => by kernel_rfl) ?_
        obtain ⟨c102, hc102, h⟩ := lt_some h
        refine WQ.value (v := vb c102) rfl (by kernel_rfl) (fun w _ => by subst hc102; kernel_rfl) ?_
        refine WQ.value (v := vb c102) rfl (by kernel_rfl) (fun w _ => by kernel_rfl) ?_
        cases c102 with
        | false =>
          replace h := br_f h
          refine WQ.off rfl (by kernel_rfl) ?_
          refine WQ.off rfl (by kernel_rfl) ?_
          refine WQ.off rfl (by kernel_rfl) ?_
          refine WQ.off rfl (by kernel_rfl) ?_
          refine WQ.off rfl (by kernel_rfl) ?_
          refine WQ.off rfl (by kernel_rfl) ?_
          refine WQ.off rfl (by kernel_rfl) ?_
          refine WQ.off rfl (by kernel_rfl) ?_
          refine WQ.off rfl (by kernel_rfl) ?_
          refine WQ.off rfl (by kernel_rfl) ?_
          refine WQ.off rfl (by kernel_rfl) ?_
          refine WQ.value (v := vb false) rfl (by kernel_rfl) (fun w _ => by kernel_rfl) ?_
          refine WQ.frame (a' := ⟨#[s1, vi x46, Z, Z, vi 0, vi x46, vb false, vb false, Z, Z, Z, Z, Z, Z, Z, Z, Z, Z, Z, vb false, g62, g63, g64, g65, g66, g67, g68, g69, g70, g71, g72, g73, g74, g75, g76, g77, g78, g79, g80, g81, g82, Z], []⟩) (by kernel_rfl) ?_
          refine WQ.done rfl ?_
          refine (fun w103 H104 => ?_)
          exact ⟨false, _, _, _, _, _, _, _, _, _, _, _, _, _, _, rfl, St.sel H104 [0] (by decide) rfl, h⟩
        | true =>
          replace h := br_t h
          refine WQ.value (v := s1) rfl (by kernel_rfl) (fun w _ => by kernel_rfl) ?_
          refine WQ.value (v := vi x46) rfl (by kernel_rfl) (fun w _ => by kernel_rfl) ?_
          obtain ⟨hg105, h⟩ := gd_some h
          refine WQ.value (v := va (slAt s1 6 (Int.toNat x46))) rfl (by kernel_rfl) (fun w H => ev_index sf85 22 (.tmp 8) (.tmp 9) 33 6 48 .i64 x46 rfl (by kernel_rfl) (by kernel_rfl) (by kernel_rfl) hg105) ?_
          obtain ⟨x106, hx106, h⟩ := bd_some h
          refine WQ.value (v := TNode.val x106) rfl (by kernel_rfl) (fun w H => ev_loadEl (F := fTNode) (St.rd H 0 rfl) (hp_no_le _) hx106 33 (.tmp 10) 0 (TNode.val x106) rfl (by kernel_rfl) (by kernel_rfl)) ?_
          refine WQ.value (v := s1) rfl (by kernel_rfl) (fun w _ => by kernel_rfl) ?_
          refine WQ.value (v := vi x46) rfl (by kernel_rfl) (fun w _ => by kernel_rfl) ?_
          obtain ⟨x107, hx107, h⟩ := lt_some h
          refine WQ.value (v := vi x107) rfl (by kernel_rfl) (fun w _ => by subst hx107; kernel_rfl) ?_
          obtain ⟨x108, hx108, h⟩ := lt_some h
          refine WQ.value (v := vi x108) rfl (by kernel_rfl) (fun w _ => by subst hx108; kernel_rfl) ?_
          obtain ⟨hg109, h⟩ := gd_some h
          refine WQ.value (v := va (slAt s1 6 (Int.toNat x108))) rfl (by kernel_rfl) (fun w H => ev_index sf85 22 (.tmp 12) (.tmp 15) 33 6 48 .i64 x108 rfl (by kernel_rfl) (by kernel_rfl) (by kernel_rfl) hg109) ?_
          obtain ⟨x110, hx110, h⟩ := bd_some h
          refine WQ.value (v := TNode.val x110) rfl (by kernel_rfl) (fun w H => ev_loadEl (F := fTNode) (St.rd H 0 rfl) (hp_no_le _) hx110 33 (.tmp 16) 0 (TNode.val x110) rfl (by kernel_rfl) (by kernel_rfl)) ?_
          obtain ⟨t111, ht111, h⟩ := bd_some h
          refine WQ.call (v := vb t111) rfl (by kernel_rfl) (fun w => by kernel_rfl) (fun w H => Ret.mono (g_tarnref12_Below_w fuel x106 x110 t111 ht111 _) fun u w1 hu => ⟨hu.1, St.call0' H hu.2⟩) ?_
          refine WQ.value (v := vb t111) rfl (by kernel_rfl) (fun w _ => by kernel_rfl) ?_
          refine WQ.frame (a' := ⟨#[s1, vi x46, Z, Z, vi 0, vi x46, vb true, vb true, s1, vi x46, va (slAt s1 6 (Int.toNat x46)), TNode.val x106, s1, vi x46, vi x107, vi x108, va (slAt s1 6 (Int.toNat x108)), TNode.val x110, vb t111, vb t111, g62, g63, g64, g65, g66, g67, g68, g69, g70, g71, g72, g73, g74, g75, g76, g77, g78, g79, g80, g81, g82, Z], []⟩) (by kernel_rfl) ?_
          refine WQ.done rfl ?_
          refine (fun w112 H113 => ?_)
          exact ⟨t111, _, _, _, _, _, _, _, _, _, _, _, _, _, _, rfl, St.sel H113 [0] (by decide) rfl, h⟩
      · rintro a w ⟨c100, g86, g87, g88, g89, g90, g91, g92, g93, g94, g95, g96, g97, g98, g99, rfl, H, h⟩
        subst hK101
        obtain ⟨w114, rfl⟩ : ∃ x, x = w := ⟨_, rfl⟩
        have H115 := H; clear H
        have sf116 := Own.isSl (St.get H115 0 rfl)
        refine then_n ?_
        cases c100 with
        | false =>
          replace h := br_f h
          refine WP.condF (by kernel_rfl) ?_
          refine WP.exit ?_
          exact then_e (then_e (inb_e (then_n ⟨l45, x46, _, _, _, _, _, _, _, _, _, _, _, _, _, _, _, _, _, _, _, _, _, _, _, _, _, _, _, _, _, _, _, _, _, _, _, _, rfl, St.sel H115 [0] (by decide) rfl, h⟩)))
        | true =>
          replace h := br_t h
          refine WP.condT (by kernel_rfl) ?_
          refine WP.skip ?_
          refine then_n ?_
          refine WP.block ?_
          refine WP.seq ?_
          obtain ⟨K136, hK136, h⟩ := jn_some h
          refine WP.draw (by kernel_rfl) (by kernel_rfl) (fun a w => ∃ (l117 : List TNode) (g118 : Value) (g119 : Value) (g120 : Value) (g121 : Value) (g122 : Value) (g123 : Value) (g124 : Value) (g125 : Value) (g126 : Value) (g127 : Value) (g128 : Value) (g129 : Value) (g130 : Value) (g131 : Value) (g132 : Value) (g133 : Value) (g134 : Value) (g135 : Value), a = ⟨#[s1, vi x46, Z, Z, vi 0, g86, g87, g88, g89, g90, g91, g92, g93, g94, g95, g96, g97, g98, g99, vb true, g118, g119, g120, g121, g122, g123, g124, g125, g126, g127, g128, g129, g130, g131, g132, g133, g134, g135, g80, g81, g82, Z], []⟩ ∧ St (Own fTNode 33 s1 l2).fp w0 w [Own fTNode 33 s1 l117] ∧ K136 l117 = some r) 20 #[false, false, false, false, false, false, false, false, false, false, false, false, false, false, false, false, false, false, false, false] (by kernel_rfl) (by kernel_rfl) ?_ ?_
          · skip
            have H137 := St.drew H115
            obtain ⟨x138, hx138, h⟩ := lt_some h
            obtain ⟨x139, hx139, h⟩ := lt_some h
            obtain ⟨x140, hx140, h⟩ := lt_some h
            obtain ⟨x141, hx141, h⟩ := lt_some h
            obtain ⟨hg142, h⟩ := gd_some h
            obtain ⟨x143, hx143, h⟩ := bd_some h
            obtain ⟨hg144, h⟩ := gd_some h
            obtain ⟨x145, hx145, h⟩ := bd_some h
            obtain ⟨hg146, h⟩ := gd_some h
            obtain ⟨l147, hl147, h⟩ := lt_some h
            obtain ⟨hg148, h⟩ := gd_some h
            obtain ⟨l149, hl149, h⟩ := lt_some h
            refine WA.take 0 (v := s1) rfl (by kernel_rfl) (by kernel_rfl) (fun w => by kernel_rfl) (fun w => by kernel_rfl) (l' := #[true, false, false, false, false, false, false, false, false, false, false, false, false, false, false, false, false, false, false, false]) (by kernel_rfl) ?_
            refine WA.take 1 (v := vi x46) rfl (by kernel_rfl) (by kernel_rfl) (fun w => by kernel_rfl) (fun w => by kernel_rfl) (l' := #[true, true, false, false, false, false, false, false, false, false, false, false, false, false, false, false, false, false, false, false]) (by kernel_rfl) ?_
            refine WA.take 2 (v := s1) rfl (by kernel_rfl) (by kernel_rfl) (fun w => by kernel_rfl) (fun w => by kernel_rfl) (l' := #[true, true, true, false, false, false, false, false, false, false, false, false, false, false, false, false, false, false, false, false]) (by kernel_rfl) ?_
            refine WA.take 3 (v := vi x46) rfl (by kernel_rfl) (by kernel_rfl) (fun w => by kernel_rfl) (fun w => by kernel_rfl) (l' := #[true, true, true, true, false, false, false, false, false, false, false, false, false, false, false, false, false, false, false, false]) (by kernel_rfl) ?_
            refine WA.take 4 (v := vi x138) rfl (by kernel_rfl) (by kernel_rfl) (fun w => by subst hx138; kernel_rfl) (fun w => by kernel_rfl) (l' := #[true, true, true, true, true, false, false, false, false, false, false, false, false, false, false, false, false, false, false, false]) (by kernel_rfl) ?_
            refine WA.take 5 (v := vi x139) rfl (by kernel_rfl) (by kernel_rfl) (fun w => by subst hx139; kernel_rfl) (fun w => by kernel_rfl) (l' := #[true, true, true, true, true, true, false, false, false, false, false, false, false, false, false, false, false, false, false, false]) (by kernel_rfl) ?_
            refine WA.take 6 (v := s1) rfl (by kernel_rfl) (by kernel_rfl) (fun w => by kernel_rfl) (fun w => by kernel_rfl) (l' := #[true, true, true, true, true, true, true, false, false, false, false, false, false, false, false, false, false, false, false, false]) (by kernel_rfl) ?_
            refine WA.take 7 (v := vi x46) rfl (by kernel_rfl) (by kernel_rfl) (fun w => by kernel_rfl) (fun w => by kernel_rfl) (l' := #[true, true, true, true, true, true, true, true, false, false, false, false, false, false, false, false, false, false, false, false]) (by kernel_rfl) ?_
            refine WA.take 8 (v := vi x140) rfl (by kernel_rfl) (by kernel_rfl) (fun w => by subst hx140; kernel_rfl) (fun w => by kernel_rfl) (l' := #[true, true, true, true, true, true, true, true, true, false, false, false, false, false, false, false, false, false, false, false]) (by kernel_rfl) ?_
            refine WA.take 9 (v := vi x141) rfl (by kernel_rfl) (by kernel_rfl) (fun w => by subst hx141; kernel_rfl) (fun w => by kernel_rfl) (l' := #[true, true, true, true, true, true, true, true, true, true, false, false, false, false, false, false, false, false, false, false]) (by kernel_rfl) ?_
            refine WA.take 10 (v := va (slAt s1 6 (Int.toNat x141))) rfl (by kernel_rfl) (by kernel_rfl) (fun w => ev_index sf116 22 (.tmp 26) (.tmp 29) 33 6 48 .i64 x141 rfl (by kernel_rfl) (by kernel_rfl) (by kernel_rfl) hg142) (fun w => by kernel_rfl) (l' := #[true, true, true, true, true, true, true, true, true, true, true, false, false, false, false, false, false, false, false, false]) (by kernel_rfl) ?_
            refine WA.take 12 (v := s1) rfl (by kernel_rfl) (by kernel_rfl) (fun w => by kernel_rfl) (fun w => by kernel_rfl) (l' := #[true, true, true, true, true, true, true, true, true, true, true, false, true, false, false, false, false, false, false, false]) (by kernel_rfl) ?_
            refine WA.take 13 (v := vi x46) rfl (by kernel_rfl) (by kernel_rfl) (fun w => by kernel_rfl) (fun w => by kernel_rfl) (l' := #[true, true, true, true, true, true, true, true, true, true, true, false, true, true, false, false, false, false, false, false]) (by kernel_rfl) ?_
            refine WA.take 14 (v := va (slAt s1 6 (Int.toNat x46))) rfl (by kernel_rfl) (by kernel_rfl) (fun w => ev_index sf116 22 (.tmp 32) (.tmp 33) 33 6 48 .i64 x46 rfl (by kernel_rfl) (by kernel_rfl) (by kernel_rfl) hg144) (fun w => by kernel_rfl) (l' := #[true, true, true, true, true, true, true, true, true, true, true, false, true, true, true, false, false, false, false, false]) (by kernel_rfl) ?_
            refine WA.any [11, 15] (by kernel_rfl) (by simp) ?_
            simp only [List.mem_cons, List.not_mem_nil, or_false, forall_eq_or_imp, forall_eq]
            refine ⟨?_, ?_⟩
            · skip
              refine WO.op rfl (Op1.val (v := TNode.val x143) (by kernel_rfl) (ev_loadEl (F := fTNode) (St.rd H137 0 rfl) (hp_no_le _) hx143 33 (.tmp 30) 0 (TNode.val x143) rfl (by kernel_rfl) (by kernel_rfl)) ?_)
              refine WA.lst (l := #[true, true, true, true, true, true, true, true, true, true, true, true, true, true, true, false, false, false, false, false]) (by kernel_rfl) ?_
              refine WA.any [15] (by kernel_rfl) (by simp) ?_
              simp only [List.mem_singleton, forall_eq]
              refine WO.op rfl (Op1.val (v := TNode.val x145) (by kernel_rfl) (ev_loadEl (F := fTNode) (St.rd H137 0 rfl) (hp_no_le _) hx145 33 (.tmp 34) 0 (TNode.val x145) rfl (by kernel_rfl) (by kernel_rfl)) ?_)
              refine WA.lst (l := #[true, true, true, true, true, true, true, true, true, true, true, true, true, true, true, true, false, false, false, false]) (by kernel_rfl) ?_
              refine WA.take 16 (v := va (slAt s1 6 (Int.toNat x46))) rfl (by kernel_rfl) (by kernel_rfl) (fun w => ev_index sf116 22 (.tmp 20) (.tmp 21) 33 6 48 .i64 x46 rfl (by kernel_rfl) (by kernel_rfl) (by kernel_rfl) hg146) (fun w => by kernel_rfl) (l' := #[true, true, true, true, true, true, true, true, true, true, true, true, true, true, true, true, true, false, false, false]) (by kernel_rfl) ?_
              refine WA.any [17] (by kernel_rfl) (by simp) ?_
              simp only [List.mem_singleton, forall_eq]
              refine WO.op rfl (Op1.storeOwn H137 0 rfl (by kernel_rfl) 33 (.tmp 36) (.tmp 31) (Int.toNat x46) x143 true rfl (by kernel_rfl) (by kernel_rfl) (by kernel_rfl) (idx_lt hg146) (fun w150 H151 => ?_))
              rw [← hl147] at H151
              clear H137
              refine WA.lst (l := #[true, true, true, true, true, true, true, true, true, true, true, true, true, true, true, true, true, true, false, false]) (by kernel_rfl) ?_
              refine WA.take 18 (v := va (slAt s1 6 (Int.toNat x139))) rfl (by kernel_rfl) (by kernel_rfl) (fun w => ev_index sf116 22 (.tmp 22) (.tmp 25) 33 6 48 .i64 x139 rfl (by kernel_rfl) (by kernel_rfl) (by kernel_rfl) hg148) (fun w => by kernel_rfl) (l' := #[true, true, true, true, true, true, true, true, true, true, true, true, true, true, true, true, true, true, true, false]) (by kernel_rfl) ?_
              refine WA.any [19] (by kernel_rfl) (by simp) ?_
              simp only [List.mem_singleton, forall_eq]
              refine WO.op rfl (Op1.storeOwn H151 0 rfl (by kernel_rfl) 33 (.tmp 37) (.tmp 35) (Int.toNat x139) x145 true rfl (by kernel_rfl) (by kernel_rfl) (by kernel_rfl) (by simp only [hl147, List.length_set]; exact idx_lt hg148) (fun w152 H153 => ?_))
              rw [← hl149] at H153
              clear H151
              refine WA.lst (l := #[true, true, true, true, true, true, true, true, true, true, true, true, true, true, true, true, true, true, true, true]) (by kernel_rfl) ?_
              refine WA.done (by kernel_rfl) ?_
              exact ⟨l149, s1, (vi x46), s1, (vi x46), (vi x138), (vi x139), s1, (vi x46), (vi x140), (vi x141), (va (slAt s1 6 (Int.toNat x141))), (TNode.val x143), s1, (vi x46), (va (slAt s1 6 (Int.toNat x46))), (TNode.val x145), (va (slAt s1 6 (Int.toNat x46))), (va (slAt s1 6 (Int.toNat x139))), (by kernel_rfl), St.sel H153 [0] (by decide) rfl, h⟩
            · skip
              refine WO.op rfl (Op1.val (v := TNode.val x145) (by kernel_rfl) (ev_loadEl (F := fTNode) (St.rd H137 0 rfl) (hp_no_le _) hx145 33 (.tmp 34) 0 (TNode.val x145) rfl (by kernel_rfl) (by kernel_rfl)) ?_)
              refine WA.lst (l := #[true, true, true, true, true, true, true, true, true, true, true, false, true, true, true, true, false, false, false, false]) (by kernel_rfl) ?_
              refine WA.any [11] (by kernel_rfl) (by simp) ?_
              simp only [List.mem_singleton, forall_eq]
              refine WO.op rfl (Op1.val (v := TNode.val x143) (by kernel_rfl) (ev_loadEl (F := fTNode) (St.rd H137 0 rfl) (hp_no_le _) hx143 33 (.tmp 30) 0 (TNode.val x143) rfl (by kernel_rfl) (by kernel_rfl)) ?_)
              refine WA.lst (l := #[true, true, true, true, true, true, true, true, true, true, true, true, true, true, true, true, false, false, false, false]) (by kernel_rfl) ?_
              refine WA.take 16 (v := va (slAt s1 6 (Int.toNat x46))) rfl (by kernel_rfl) (by kernel_rfl) (fun w => ev_index sf116 22 (.tmp 20) (.tmp 21) 33 6 48 .i64 x46 rfl (by kernel_rfl) (by kernel_rfl) (by kernel_rfl) hg146) (fun w => by kernel_rfl) (l' := #[true, true, true, true, true, true, true, true, true, true, true, true, true, true, true, true, true, false, false, false]) (by kernel_rfl) ?_
              refine WA.any [17] (by kernel_rfl) (by simp) ?_
              simp only [List.mem_singleton, forall_eq]
              refine WO.op rfl (Op1.storeOwn H137 0 rfl (by kernel_rfl) 33 (.tmp 36) (.tmp 31) (Int.toNat x46) x143 true rfl (by kernel_rfl) (by kernel_rfl) (by kernel_rfl) (idx_lt hg146) (fun w154 H155 => ?_))
              rw [← hl147] at H155
              clear H137
              refine WA.lst (l := #[true, true, true, true, true, true, true, true, true, true, true, true, true, true, true, true, true, true, false, false]) (by kernel_rfl) ?_
              refine WA.take 18 (v := va (slAt s1 6 (Int.toNat x139))) rfl (by kernel_rfl) (by kernel_rfl) (fun w => ev_index sf116 22 (.tmp 22) (.tmp 25) 33 6 48 .i64 x139 rfl (by kernel_rfl) (by kernel_rfl) (by kernel_rfl) hg148) (fun w => by kernel_rfl) (l' := #[true, true, true, true, true, true, true, true, true, true, true, true, true, true, true, true, true, true, true, false]) (by kernel_rfl) ?_
              refine WA.any [19] (by kernel_rfl) (by simp) ?_
              simp only [List.mem_singleton, forall_eq]
              refine WO.op rfl (Op1.storeOwn H155 0 rfl (by kernel_rfl) 33 (.tmp 37) (.tmp 35) (Int.toNat x139) x145 true rfl (by kernel_rfl) (by kernel_rfl) (by kernel_rfl) (by simp only [hl147, List.length_set]; exact idx_lt hg148) (fun w156 H157 => ?_))
              rw [← hl149] at H157
              clear H155
              refine WA.lst (l := #[true, true, true, true, true, true, true, true, true, true, true, true, true, true, true, true, true, true, true, true]) (by kernel_rfl) ?_
              refine WA.done (by kernel_rfl) ?_
              exact ⟨l149, s1, (vi x46), s1, (vi x46), (vi x138), (vi x139), s1, (vi x46), (vi x140), (vi x141), (va (slAt s1 6 (Int.toNat x141))), (TNode.val x143), s1, (vi x46), (va (slAt s1 6 (Int.toNat x46))), (TNode.val x145), (va (slAt s1 6 (Int.toNat x46))), (va (slAt s1 6 (Int.toNat x139))), (by kernel_rfl), St.sel H157 [0] (by decide) rfl, h⟩
          · rintro a w ⟨l117, g118, g119, g120, g121, g122, g123, g124, g125, g126, g127, g128, g129, g130, g131, g132, g133, g134, g135, rfl, H, h⟩
            subst hK136
            obtain ⟨w158, rfl⟩ : ∃ x, x = w := ⟨_, rfl⟩
            have H159 := H; clear H
            have sf160 := Own.isSl (St.get H159 0 rfl)
            refine then_n ?_
            refine WP.region ?_
            obtain ⟨x161, hx161, h⟩ := lt_some h
            obtain ⟨x162, hx162, h⟩ := lt_some h
            refine WPI.run 4 ⟨#[s1, vi x162, Z, Z, vi 0, g86, g87, g88, g89, g90, g91, g92, g93, g94, g95, g96, g97, g98, g99, vb true, g118, g119, g120, g121, g122, g123, g124, g125, g126, g127, g128, g129, g130, g131, g132, g133, g134, g135, vi x46, vi x161, vi x162, Z], []⟩ w158 (fun K => by subst hx162 hx161; kernel_rfl) ?_
            refine WPI.done rfl ?_
            exact inb_n (then_n ⟨n, Nat.lt_succ_self n, l117, x162, _, _, _, _, _, _, _, _, _, _, _, _, _, _, _, _, _, _, _, _, _, _, _, _, _, _, _, _, _, _, _, _, _, _, _, _, rfl, St.sel H159 [0] (by decide) rfl, h⟩)
  · rintro a w ⟨l6, x7, g8, g9, g10, g11, g12, g13, g14, g15, g16, g17, g18, g19, g20, g21, g22, g23, g24, g25, g26, g27, g28, g29, g30, g31, g32, g33, g34, g35, g36, g37, g38, g39, g40, g41, g42, g43, rfl, H, h⟩
    subst hK44
    obtain ⟨w163, rfl⟩ : ∃ x, x = w := ⟨_, rfl⟩
    have H164 := H; clear H
    have sf165 := Own.isSl (St.get H164 0 rfl)
    refine then_n ?_
    refine WP.seq ?_
    refine WP.region ?_
    refine WPI.run 2 ⟨#[s1, vi x7, Z, Z, vi x7, g8, g9, g10, g11, g12, g13, g14, g15, g16, g17, g18, g19, g20, g21, g22, g23, g24, g25, g26, g27, g28, g29, g30, g31, g32, g33, g34, g35, g36, g37, g38, g39, g40, g41, g42, g43, vi x7], []⟩ w163 (fun K => by kernel_rfl) ?_
    refine WPI.done rfl ?_
    refine then_n ?_
    refine WP.ret ?_
    obtain rfl := Option.some.inj h
    exact post_r (vi x7) rfl (by kernel_rfl) ⟨rfl, St.sel H164 [0] (by decide) rfl⟩
end Go.Proofs
