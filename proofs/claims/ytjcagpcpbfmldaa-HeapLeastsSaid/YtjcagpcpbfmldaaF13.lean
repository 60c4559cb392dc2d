import Derived.Test.YtjcagpcpbfmldaaGw
import Derived.Test.YtjcagpcpbfmldaaProg
import Derived.Test.YtjcagpcpbfmldaaT
import Derived.Test.YtjcagpcpbfmldaaF28
import Derived.Test.YtjcagpcpbfmldaaF29
import Derived.Test.YtjcagpcpbfmldaaF22
set_option linter.unusedVariables false
set_option linter.unusedSimpArgs false
set_option maxRecDepth 100000
set_option maxHeartbeats 4000000
namespace Go.Proofs
open Gw Go.RowKit
/- tarn/tarnref12.Heap -/
def g_tarnref12_Heap_l1 (l2 : List TNode) (fuel : Nat) (K46 : Option Bool) : Nat → Int → Option Bool
  | 0, _ => none
  | n + 1, x48 => lt (decide (x48 < (((List.length l2 : Nat) : Int)))) fun c91 => br c91 (jn (fun (c125 : Bool) => br c125 (some false) (lt (wr .i64 (x48 + 1)) fun x153 => g_tarnref12_Heap_l1 l2 fuel K46 n x153)) fun K126 => gd ((0 : Int) ≤ x48 ∧ x48 < ((List.length l2 : Nat) : Int)) <| bd (l2[Int.toNat x48]?) fun x128 => bd (g_tarnref12_Node fuel x128) fun t129 => lt (!t129) fun c130 => br c130 (K126 true) (gd ((0 : Int) ≤ x48 ∧ x48 < ((List.length l2 : Nat) : Int)) <| bd (l2[Int.toNat x48]?) fun x132 => bd (g_tarnref12_Find fuel l2 x132.Acct) fun t133 => lt (t133 != x48) fun c134 => br c134 (K126 true) (lt (decide (x48 > 0)) fun c135 => br c135 (gd ((0 : Int) ≤ x48 ∧ x48 < ((List.length l2 : Nat) : Int)) <| bd (l2[Int.toNat x48]?) fun x139 => lt (wr .i64 (x48 - 1)) fun x140 => lt (wr .i64 (Int.tdiv x140 2)) fun x141 => gd ((0 : Int) ≤ x141 ∧ x141 < ((List.length l2 : Nat) : Int)) <| bd (l2[Int.toNat x141]?) fun x143 => bd (g_tarnref12_Below fuel x139 x143) fun t144 => K126 t144) (K126 false)))) (K46)
def g_tarnref12_Heap (fuel : Nat) (l2 : List TNode) : Option Bool :=
  lt (decide ((((List.length l2 : Nat) : Int)) > 8)) fun c3 => br c3 (some false) (jn (some true) fun K46 => g_tarnref12_Heap_l1 l2 fuel K46 fuel 0)
theorem g_tarnref12_Heap_w (fuel : Nat) (s1 : Value) (l2 : List TNode) (r : Bool) (h : g_tarnref12_Heap fuel l2 = some r) (w0 : World) (hs1 : Rd fTNode (hp no w0) s1 l2) :
    Ret Try.prog 13 #[s1] w0 (fun v w' => v = vb r ∧ St no w0 w' []) := by
  unfold g_tarnref12_Heap at h
  refine ret_of_wp Try.func13 rfl #[s1, Z, Z, Z, Z, Z, Z, Z, Z, Z, Z, Z, Z, Z, Z, Z, Z, Z, Z, Z, Z, Z, Z, Z, Z, Z, Z, Z, Z, Z, Z, Z, Z, Z, Z, Z, Z, Z, Z, Z, Z, Z, Z, Z, Z, Z, Z] (by kernel_rfl) ?_
  have H0 := St.start w0
  refine WP.seq ?_
  refine WP.region ?_
  refine WPI.run 1 ⟨#[s1, Z, vb false, Z, Z, Z, Z, Z, Z, Z, Z, Z, Z, Z, Z, Z, Z, Z, Z, Z, Z, Z, Z, Z, Z, Z, Z, Z, Z, Z, Z, Z, Z, Z, Z, Z, Z, Z, Z, Z, Z, Z, Z, Z, Z, Z, Z], []⟩ w0 (fun K => by kernel_rfl) ?_
  refine WPI.done rfl ?_
  refine then_n ?_
  refine WP.seq ?_
  refine WP.seq ?_
  refine WP.region ?_
  refine WPI.run 1 ⟨#[s1, Z, vb false, Z, s1, Z, Z, Z, Z, Z, Z, Z, Z, Z, Z, Z, Z, Z, Z, Z, Z, Z, Z, Z, Z, Z, Z, Z, Z, Z, Z, Z, Z, Z, Z, Z, Z, Z, Z, Z, Z, Z, Z, Z, Z, Z, Z], []⟩ w0 (fun K => by kernel_rfl) ?_
  refine WPI.value (v := vi (((List.length l2 : Nat) : Int))) rfl (by kernel_rfl) (ev_len (Rd.sl hs1) 22 (.tmp 4) 33 6 48 rfl (by kernel_rfl) (by kernel_rfl)) ?_
  obtain ⟨c3, hc3, h⟩ := lt_some h
  refine WPI.run 1 ⟨#[s1, Z, vb false, Z, s1, vi (((List.length l2 : Nat) : Int)), vb c3, Z, Z, Z, Z, Z, Z, Z, Z, Z, Z, Z, Z, Z, Z, Z, Z, Z, Z, Z, Z, Z, Z, Z, Z, Z, Z, Z, Z, Z, Z, Z, Z, Z, Z, Z, Z, Z, Z, Z, Z], []⟩ w0 (fun K => by subst hc3; kernel_rfl) ?_
  refine WPI.done rfl ?_
  refine then_n ?_
  cases c3 with
  | false =>
    replace h := br_f h
    refine WP.condF (by kernel_rfl) ?_
    refine WP.skip ?_
    refine then_n ?_
    refine WP.seq ?_
    refine WP.seq ?_
    refine WP.region ?_
    refine WPI.run 1 ⟨#[s1, Z, vb false, vi 0, s1, vi (((List.length l2 : Nat) : Int)), vb false, Z, Z, Z, Z, Z, Z, Z, Z, Z, Z, Z, Z, Z, Z, Z, Z, Z, Z, Z, Z, Z, Z, Z, Z, Z, Z, Z, Z, Z, Z, Z, Z, Z, Z, Z, Z, Z, Z, Z, Z], []⟩ w0 (fun K => by kernel_rfl) ?_
    refine WPI.done rfl ?_
    refine then_n ?_
    obtain ⟨K46, hK46, h⟩ := jn_some h
    refine WP.blockJ (fun a w => ∃ (g4 g5 g6 g7 g8 g9 g10 g11 g12 g13 g14 g15 g16 g17 g18 g19 g20 g21 g22 g23 g24 g25 g26 g27 g28 g29 g30 g31 g32 g33 g34 g35 g36 g37 g38 g39 g40 g41 g42 g43 g44 g45 : Value), a = ⟨#[s1, Z, g4, g5, s1, vi (((List.length l2 : Nat) : Int)), vb false, g6, g7, g8, g9, g10, g11, g12, g13, g14, g15, g16, g17, g18, g19, g20, g21, g22, g23, g24, g25, g26, g27, g28, g29, g30, g31, g32, g33, g34, g35, g36, g37, g38, g39, g40, g41, g42, g43, g44, g45], []⟩ ∧ St no w0 w [] ∧ K46 = some r) ?_ ?_
    · skip
      refine WP.loop (fun n a w => ∃ (x48 : Int) (g47 g49 g50 g51 g52 g53 g54 g55 g56 g57 g58 g59 g60 g61 g62 g63 g64 g65 g66 g67 g68 g69 g70 g71 g72 g73 g74 g75 g76 g77 g78 g79 g80 g81 g82 g83 g84 g85 g86 g87 g88 : Value), a = ⟨#[s1, Z, g47, vi x48, s1, vi (((List.length l2 : Nat) : Int)), vb false, g49, g50, g51, g52, g53, g54, g55, g56, g57, g58, g59, g60, g61, g62, g63, g64, g65, g66, g67, g68, g69, g70, g71, g72, g73, g74, g75, g76, g77, g78, g79, g80, g81, g82, g83, g84, g85, g86, g87, g88], []⟩ ∧ St no w0 w [] ∧ g_tarnref12_Heap_l1 l2 fuel K46 n x48 = some r) fuel ⟨0, _, _, _, _, _, _, _, _, _, _, _, _, _, _, _, _, _, _, _, _, _, _, _, _, _, _, _, _, _, _, _, _, _, _, _, _, _, _, _, _, _, rfl, St.sel H0 [] (by decide) rfl, h⟩ ?_
      rintro n a w ⟨x48, g47, g49, g50, g51, g52, g53, g54, g55, g56, g57, g58, g59, g60, g61, g62, g63, g64, g65, g66, g67, g68, g69, g70, g71, g72, g73, g74, g75, g76, g77, g78, g79, g80, g81, g82, g83, g84, g85, g86, g87, g88, rfl, H, h⟩
      cases n with
      | zero => rw [g_tarnref12_Heap_l1] at h; cases h
      | succ n =>
        rw [g_tarnref12_Heap_l1] at h
        obtain ⟨w89, rfl⟩ : ∃ x, x = w := ⟨_, rfl⟩
        have H90 := H; clear H
        refine WP.seq ?_
        refine WP.seq ?_
        refine WP.region ?_
        refine WPI.run 2 ⟨#[s1, Z, g47, vi x48, s1, vi (((List.length l2 : Nat) : Int)), vb false, vi x48, s1, g51, g52, g53, g54, g55, g56, g57, g58, g59, g60, g61, g62, g63, g64, g65, g66, g67, g68, g69, g70, g71, g72, g73, g74, g75, g76, g77, g78, g79, g80, g81, g82, g83, g84, g85, g86, g87, g88], []⟩ w89 (fun K => by kernel_rfl) ?_
        refine WPI.value (v := vi (((List.length l2 : Nat) : Int))) rfl (by kernel_rfl) (ev_len (Rd.sl hs1) 22 (.tmp 8) 33 6 48 rfl (by kernel_rfl) (by kernel_rfl)) ?_
        obtain ⟨c91, hc91, h⟩ := lt_some h
        refine WPI.run 1 ⟨#[s1, Z, g47, vi x48, s1, vi (((List.length l2 : Nat) : Int)), vb false, vi x48, s1, vi (((List.length l2 : Nat) : Int)), vb c91, g53, g54, g55, g56, g57, g58, g59, g60, g61, g62, g63, g64, g65, g66, g67, g68, g69, g70, g71, g72, g73, g74, g75, g76, g77, g78, g79, g80, g81, g82, g83, g84, g85, g86, g87, g88], []⟩ w89 (fun K => by subst hc91; kernel_rfl) ?_
        refine WPI.done rfl ?_
        refine then_n ?_
        cases c91 with
        | false =>
          replace h := br_f h
          refine WP.condF (by kernel_rfl) ?_
          refine WP.exit ?_
          exact then_e (then_e (inb_e (then_n ⟨_, _, _, _, _, _, _, _, _, _, _, _, _, _, _, _, _, _, _, _, _, _, _, _, _, _, _, _, _, _, _, _, _, _, _, _, _, _, _, _, _, _, rfl, St.sel H90 [] (by decide) rfl, h⟩)))
        | true =>
          replace h := br_t h
          refine WP.condT (by kernel_rfl) ?_
          refine WP.skip ?_
          refine then_n ?_
          refine WP.seq ?_
          refine WP.block ?_
          refine WP.seq ?_
          obtain ⟨K126, hK126, h⟩ := jn_some h
          refine WP.onlyN (fun a w => ∃ (c125 : Bool) (g92 g93 g94 g95 g96 g97 g98 g99 g100 g101 g102 g103 g104 g105 g106 g107 g108 g109 g110 g111 g112 g113 g114 g115 g116 g117 g118 g119 g120 g121 g122 g123 g124 : Value), a = ⟨#[s1, Z, g47, vi x48, s1, vi (((List.length l2 : Nat) : Int)), vb false, vi x48, s1, vi (((List.length l2 : Nat) : Int)), vb true, g53, g54, g92, g93, g94, g95, g96, g97, g98, g99, g100, g101, g102, g103, g104, g105, g106, g107, g108, g109, g110, g111, g112, g113, g114, g115, g116, g117, g118, g119, g120, g121, g122, g123, g124, vb c125], []⟩ ∧ St no w0 w [] ∧ K126 c125 = some r) ?_ ?_
          · skip
            refine WP.quiet (by kernel_rfl) (by kernel_rfl) (by kernel_rfl) (fun w => St no w0 w []) (St.drew H90) ?_
            refine WQ.value (v := s1) rfl (by kernel_rfl) (fun w _ => by kernel_rfl) ?_
            refine WQ.value (v := vi x48) rfl (by kernel_rfl) (fun w _ => by kernel_rfl) ?_
            obtain ⟨hg127, h⟩ := gd_some h
            refine WQ.value (v := va (slAt s1 6 (Int.toNat x48))) rfl (by kernel_rfl) (fun w H => ev_index (Rd.sl hs1) 22 (.tmp 13) (.tmp 14) 33 6 48 .i64 x48 rfl (by kernel_rfl) (by kernel_rfl) (by kernel_rfl) hg127) ?_
            obtain ⟨x128, hx128, h⟩ := bd_some h
            refine WQ.value (v := TNode.val x128) rfl (by kernel_rfl) (fun w H => ev_loadEl (F := fTNode) hs1 (St.hp_le H) hx128 33 (.tmp 15) 0 (TNode.val x128) rfl (by kernel_rfl) (by kernel_rfl)) ?_
            obtain ⟨t129, ht129, h⟩ := bd_some h
            refine WQ.call (v := vb t129) rfl (by kernel_rfl) (fun w => by kernel_rfl) (fun w H => Ret.mono (g_tarnref12_Node_w fuel x128 t129 ht129 _) fun u w1 hu => ⟨hu.1, St.call0' H hu.2⟩) ?_
            obtain ⟨c130, hc130, h⟩ := lt_some h
            refine WQ.value (v := vb c130) rfl (by kernel_rfl) (fun w _ => by subst hc130; kernel_rfl) ?_
            refine WQ.value (v := vb c130) rfl (by kernel_rfl) (fun w _ => by kernel_rfl) ?_
            cases c130 with
            | false =>
              replace h := br_f h
              refine WQ.value (v := s1) rfl (by kernel_rfl) (fun w _ => by kernel_rfl) ?_
              refine WQ.value (v := s1) rfl (by kernel_rfl) (fun w _ => by kernel_rfl) ?_
              refine WQ.value (v := vi x48) rfl (by kernel_rfl) (fun w _ => by kernel_rfl) ?_
              obtain ⟨hg131, h⟩ := gd_some h
              refine WQ.value (v := va (slAt s1 6 (Int.toNat x48))) rfl (by kernel_rfl) (fun w H => ev_index (Rd.sl hs1) 22 (.tmp 21) (.tmp 22) 33 6 48 .i64 x48 rfl (by kernel_rfl) (by kernel_rfl) (by kernel_rfl) hg131) ?_
              refine WQ.value (v := va (slAt s1 6 (Int.toNat x48))) rfl (by kernel_rfl) (fun w _ => by kernel_rfl) ?_
              obtain ⟨x132, hx132, h⟩ := bd_some h
              refine WQ.value (v := vi x132.Acct) rfl (by kernel_rfl) (fun w H => ev_loadEl (F := fTNode) hs1 (St.hp_le H) hx132 3 (.tmp 24) 0 (vi x132.Acct) rfl (by kernel_rfl) (by kernel_rfl)) ?_
              obtain ⟨t133, ht133, h⟩ := bd_some h
              refine WQ.call (v := vi t133) rfl (by kernel_rfl) (fun w => by kernel_rfl) (fun w H => Ret.mono (g_tarnref12_Find_w fuel s1 l2 x132.Acct t133 ht133 _ (Rd.arg0 hs1 H)) fun u w1 hu => ⟨hu.1, St.call0' H hu.2⟩) ?_
              refine WQ.value (v := vi x48) rfl (by kernel_rfl) (fun w _ => by kernel_rfl) ?_
              obtain ⟨c134, hc134, h⟩ := lt_some h
              refine WQ.value (v := vb c134) rfl (by kernel_rfl) (fun w _ => by subst hc134; kernel_rfl) ?_
              refine WQ.value (v := vb c134) rfl (by kernel_rfl) (fun w _ => by kernel_rfl) ?_
              refine WQ.value (v := vb c134) rfl (by kernel_rfl) (fun w _ => by kernel_rfl) ?_
              cases c134 with
              | false =>
                replace h := br_f h
                refine WQ.value (v := vi x48) rfl (by kernel_rfl) (fun w _ => by kernel_rfl) ?_
                obtain ⟨c135, hc135, h⟩ := lt_some h
                refine WQ.value (v := vb c135) rfl (by kernel_rfl) (fun w _ => by subst hc135; kernel_rfl) ?_
                refine WQ.value (v := vb c135) rfl (by kernel_rfl) (fun w _ => by kernel_rfl) ?_
                cases c135 with
                | false =>
                  replace h := br_f h
                  refine WQ.off rfl (by kernel_rfl) ?_
                  refine WQ.off rfl (by kernel_rfl) ?_
                  refine WQ.off rfl (by kernel_rfl) ?_
                  refine WQ.off rfl (by kernel_rfl) ?_
                  refine WQ.off rfl (by kernel_rfl) ?_
                  refine WQ.off rfl (by kernel_rfl) ?_
                  refine WQ.off rfl (by kernel_rfl) ?_
                  refine WQ.off rfl (by kernel_rfl) ?_
                  refine WQ.off rfl (by kernel_rfl) ?_
                  refine WQ.off rfl (by kernel_rfl) ?_
                  refine WQ.off rfl (by kernel_rfl) ?_
                  refine WQ.value (v := vb false) rfl (by kernel_rfl) (fun w _ => by kernel_rfl) ?_
                  refine WQ.value (v := vb false) rfl (by kernel_rfl) (fun w _ => by kernel_rfl) ?_
                  refine WQ.frame (a' := ⟨#[s1, Z, g47, vi x48, s1, vi (((List.length l2 : Nat) : Int)), vb false, vi x48, s1, vi (((List.length l2 : Nat) : Int)), vb true, g53, g54, s1, vi x48, va (slAt s1 6 (Int.toNat x48)), TNode.val x128, vb t129, vb false, vb false, s1, s1, vi x48, va (slAt s1 6 (Int.toNat x48)), va (slAt s1 6 (Int.toNat x48)), vi x132.Acct, vi t133, vi x48, vb false, vb false, vb false, vi x48, vb false, vb false, Z, Z, Z, Z, Z, Z, Z, Z, Z, Z, Z, vb false, vb false], []⟩) (by kernel_rfl) ?_
                  refine WQ.done rfl ?_
                  refine (fun w136 H137 => ?_)
                  exact ⟨false, _, _, _, _, _, _, _, _, _, _, _, _, _, _, _, _, _, _, _, _, _, _, _, _, _, _, _, _, _, _, _, _, _, rfl, St.sel H137 [] (by decide) rfl, h⟩
                | true =>
                  replace h := br_t h
                  refine WQ.value (v := s1) rfl (by kernel_rfl) (fun w _ => by kernel_rfl) ?_
                  refine WQ.value (v := vi x48) rfl (by kernel_rfl) (fun w _ => by kernel_rfl) ?_
                  obtain ⟨hg138, h⟩ := gd_some h
                  refine WQ.value (v := va (slAt s1 6 (Int.toNat x48))) rfl (by kernel_rfl) (fun w H => ev_index (Rd.sl hs1) 22 (.tmp 34) (.tmp 35) 33 6 48 .i64 x48 rfl (by kernel_rfl) (by kernel_rfl) (by kernel_rfl) hg138) ?_
                  obtain ⟨x139, hx139, h⟩ := bd_some h
                  refine WQ.value (v := TNode.val x139) rfl (by kernel_rfl) (fun w H => ev_loadEl (F := fTNode) hs1 (St.hp_le H) hx139 33 (.tmp 36) 0 (TNode.val x139) rfl (by kernel_rfl) (by kernel_rfl)) ?_
                  refine WQ.value (v := s1) rfl (by kernel_rfl) (fun w _ => by kernel_rfl) ?_
                  refine WQ.value (v := vi x48) rfl (by kernel_rfl) (fun w _ => by kernel_rfl) ?_
                  obtain ⟨x140, hx140, h⟩ := lt_some h
                  refine WQ.value (v := vi x140) rfl (by kernel_rfl) (fun w _ => by subst hx140; kernel_rfl) ?_
                  obtain ⟨x141, hx141, h⟩ := lt_some h
                  refine WQ.value (v := vi x141) rfl (by kernel_rfl) (fun w _ => by subst hx141; kernel_rfl) ?_
                  obtain ⟨hg142, h⟩ := gd_some h
                  refine WQ.value (v := va (slAt s1 6 (Int.toNat x141))) rfl (by kernel_rfl) (fun w H => ev_index (Rd.sl hs1) 22 (.tmp 38) (.tmp 41) 33 6 48 .i64 x141 rfl (by kernel_rfl) (by kernel_rfl) (by kernel_rfl) hg142) ?_
                  obtain ⟨x143, hx143, h⟩ := bd_some h
                  refine WQ.value (v := TNode.val x143) rfl (by kernel_rfl) (fun w H => ev_loadEl (F := fTNode) hs1 (St.hp_le H) hx143 33 (.tmp 42) 0 (TNode.val x143) rfl (by kernel_rfl) (by kernel_rfl)) ?_
                  obtain ⟨t144, ht144, h⟩ := bd_some h
                  refine WQ.call (v := vb t144) rfl (by kernel_rfl) (fun w => by kernel_rfl) (fun w H => Ret.mono (g_tarnref12_Below_w fuel x139 x143 t144 ht144 _) fun u w1 hu => ⟨hu.1, St.call0' H hu.2⟩) ?_
                  refine WQ.value (v := vb t144) rfl (by kernel_rfl) (fun w _ => by kernel_rfl) ?_
                  refine WQ.value (v := vb t144) rfl (by kernel_rfl) (fun w _ => by kernel_rfl) ?_
                  refine WQ.frame (a' := ⟨#[s1, Z, g47, vi x48, s1, vi (((List.length l2 : Nat) : Int)), vb false, vi x48, s1, vi (((List.length l2 : Nat) : Int)), vb true, g53, g54, s1, vi x48, va (slAt s1 6 (Int.toNat x48)), TNode.val x128, vb t129, vb false, vb false, s1, s1, vi x48, va (slAt s1 6 (Int.toNat x48)), va (slAt s1 6 (Int.toNat x48)), vi x132.Acct, vi t133, vi x48, vb false, vb false, vb false, vi x48, vb true, vb true, s1, vi x48, va (slAt s1 6 (Int.toNat x48)), TNode.val x139, s1, vi x48, vi x140, vi x141, va (slAt s1 6 (Int.toNat x141)), TNode.val x143, vb t144, vb t144, vb t144], []⟩) (by kernel_rfl) ?_
                  refine WQ.done rfl ?_
                  refine (fun w145 H146 => ?_)
                  exact ⟨t144, _, _, _, _, _, _, _, _, _, _, _, _, _, _, _, _, _, _, _, _, _, _, _, _, _, _, _, _, _, _, _, _, _, rfl, St.sel H146 [] (by decide) rfl, h⟩
              | true =>
                replace h := br_t h
                refine WQ.off rfl (by kernel_rfl) ?_
                refine WQ.off rfl (by kernel_rfl) ?_
                refine WQ.off rfl (by kernel_rfl) ?_
                refine WQ.off rfl (by kernel_rfl) ?_
                refine WQ.off rfl (by kernel_rfl) ?_
                refine WQ.off rfl (by kernel_rfl) ?_
                refine WQ.off rfl (by kernel_rfl) ?_
                refine WQ.off rfl (by kernel_rfl) ?_
                refine WQ.off rfl (by kernel_rfl) ?_
                refine WQ.off rfl (by kernel_rfl) ?_
                refine WQ.off rfl (by kernel_rfl) ?_
                refine WQ.off rfl (by kernel_rfl) ?_
                refine WQ.off rfl (by kernel_rfl) ?_
                refine WQ.off rfl (by kernel_rfl) ?_
                refine WQ.off rfl (by kernel_rfl) ?_
                refine WQ.value (v := vb true) rfl (by kernel_rfl) (fun w _ => by kernel_rfl) ?_
                refine WQ.frame (a' := ⟨#[s1, Z, g47, vi x48, s1, vi (((List.length l2 : Nat) : Int)), vb false, vi x48, s1, vi (((List.length l2 : Nat) : Int)), vb true, g53, g54, s1, vi x48, va (slAt s1 6 (Int.toNat x48)), TNode.val x128, vb t129, vb false, vb false, s1, s1, vi x48, va (slAt s1 6 (Int.toNat x48)), va (slAt s1 6 (Int.toNat x48)), vi x132.Acct, vi t133, vi x48, vb true, vb true, vb true, Z, Z, Z, Z, Z, Z, Z, Z, Z, Z, Z, Z, Z, Z, Z, vb true], []⟩) (by kernel_rfl) ?_
                refine WQ.done rfl ?_
                refine (fun w147 H148 => ?_)
                exact ⟨true, _, _, _, _, _, _, _, _, _, _, _, _, _, _, _, _, _, _, _, _, _, _, _, _, _, _, _, _, _, _, _, _, _, rfl, St.sel H148 [] (by decide) rfl, h⟩
            | true =>
              replace h := br_t h
              refine WQ.off rfl (by kernel_rfl) ?_
              refine WQ.off rfl (by kernel_rfl) ?_
              refine WQ.off rfl (by kernel_rfl) ?_
              refine WQ.off rfl (by kernel_rfl) ?_
              refine WQ.off rfl (by kernel_rfl) ?_
              refine WQ.off rfl (by kernel_rfl) ?_
              refine WQ.off rfl (by kernel_rfl) ?_
              refine WQ.off rfl (by kernel_rfl) ?_
              refine WQ.off rfl (by kernel_rfl) ?_
              refine WQ.value (v := vb true) rfl (by kernel_rfl) (fun w _ => by kernel_rfl) ?_
              refine WQ.value (v := vb true) rfl (by kernel_rfl) (fun w _ => by kernel_rfl) ?_
              refine WQ.off rfl (by kernel_rfl) ?_
              refine WQ.off rfl (by kernel_rfl) ?_
              refine WQ.off rfl (by kernel_rfl) ?_
              refine WQ.off rfl (by kernel_rfl) ?_
              refine WQ.off rfl (by kernel_rfl) ?_
              refine WQ.off rfl (by kernel_rfl) ?_
              refine WQ.off rfl (by kernel_rfl) ?_
              refine WQ.off rfl (by kernel_rfl) ?_
              refine WQ.off rfl (by kernel_rfl) ?_
              refine WQ.off rfl (by kernel_rfl) ?_
              refine WQ.off rfl (by kernel_rfl) ?_
              refine WQ.off rfl (by kernel_rfl) ?_
              refine WQ.off rfl (by kernel_rfl) ?_
              refine WQ.off rfl (by kernel_rfl) ?_
              refine WQ.off rfl (by kernel_rfl) ?_
              refine WQ.value (v := vb true) rfl (by kernel_rfl) (fun w _ => by kernel_rfl) ?_
              refine WQ.frame (a' := ⟨#[s1, Z, g47, vi x48, s1, vi (((List.length l2 : Nat) : Int)), vb false, vi x48, s1, vi (((List.length l2 : Nat) : Int)), vb true, g53, g54, s1, vi x48, va (slAt s1 6 (Int.toNat x48)), TNode.val x128, vb t129, vb true, vb true, Z, Z, Z, Z, Z, Z, Z, Z, Z, vb true, vb true, Z, Z, Z, Z, Z, Z, Z, Z, Z, Z, Z, Z, Z, Z, Z, vb true], []⟩) (by kernel_rfl) ?_
              refine WQ.done rfl ?_
              refine (fun w149 H150 => ?_)
              exact ⟨true, _, _, _, _, _, _, _, _, _, _, _, _, _, _, _, _, _, _, _, _, _, _, _, _, _, _, _, _, _, _, _, _, _, rfl, St.sel H150 [] (by decide) rfl, h⟩
          · rintro a w ⟨c125, g92, g93, g94, g95, g96, g97, g98, g99, g100, g101, g102, g103, g104, g105, g106, g107, g108, g109, g110, g111, g112, g113, g114, g115, g116, g117, g118, g119, g120, g121, g122, g123, g124, rfl, H, h⟩
            subst hK126
            obtain ⟨w151, rfl⟩ : ∃ x, x = w := ⟨_, rfl⟩
            have H152 := H; clear H
            refine then_n ?_
            cases c125 with
            | false =>
              replace h := br_f h
              refine WP.condF (by kernel_rfl) ?_
              refine WP.skip ?_
              refine inb_n (then_n ?_)
              refine WP.region ?_
              obtain ⟨x153, hx153, h⟩ := lt_some h
              refine WPI.run 3 ⟨#[s1, Z, g47, vi x153, s1, vi (((List.length l2 : Nat) : Int)), vb false, vi x48, s1, vi (((List.length l2 : Nat) : Int)), vb true, vi x48, vi x153, g92, g93, g94, g95, g96, g97, g98, g99, g100, g101, g102, g103, g104, g105, g106, g107, g108, g109, g110, g111, g112, g113, g114, g115, g116, g117, g118, g119, g120, g121, g122, g123, g124, vb false], []⟩ w151 (fun K => by subst hx153; kernel_rfl) ?_
              refine WPI.done rfl ?_
              exact then_n ⟨n, Nat.lt_succ_self n, x153, _, _, _, _, _, _, _, _, _, _, _, _, _, _, _, _, _, _, _, _, _, _, _, _, _, _, _, _, _, _, _, _, _, _, _, _, _, _, _, _, _, rfl, St.sel H152 [] (by decide) rfl, h⟩
            | true =>
              replace h := br_t h
              refine WP.condT (by kernel_rfl) ?_
              refine WP.seq ?_
              refine WP.region ?_
              refine WPI.run 1 ⟨#[s1, Z, vb false, vi x48, s1, vi (((List.length l2 : Nat) : Int)), vb false, vi x48, s1, vi (((List.length l2 : Nat) : Int)), vb true, g53, g54, g92, g93, g94, g95, g96, g97, g98, g99, g100, g101, g102, g103, g104, g105, g106, g107, g108, g109, g110, g111, g112, g113, g114, g115, g116, g117, g118, g119, g120, g121, g122, g123, g124, vb true], []⟩ w151 (fun K => by kernel_rfl) ?_
              refine WPI.done rfl ?_
              refine then_n ?_
              refine WP.ret ?_
              obtain rfl := Option.some.inj h
              exact inb_r (then_r (then_r (inb_r (then_r (then_r (post_r (vb false) rfl (by kernel_rfl) ⟨rfl, St.sel H152 [] (by decide) rfl⟩))))))
    · rintro a w ⟨g4, g5, g6, g7, g8, g9, g10, g11, g12, g13, g14, g15, g16, g17, g18, g19, g20, g21, g22, g23, g24, g25, g26, g27, g28, g29, g30, g31, g32, g33, g34, g35, g36, g37, g38, g39, g40, g41, g42, g43, g44, g45, rfl, H, h⟩
      subst hK46
      obtain ⟨w154, rfl⟩ : ∃ x, x = w := ⟨_, rfl⟩
      have H155 := H; clear H
      refine then_n ?_
      refine WP.seq ?_
      refine WP.region ?_
      refine WPI.run 1 ⟨#[s1, Z, vb true, g5, s1, vi (((List.length l2 : Nat) : Int)), vb false, g6, g7, g8, g9, g10, g11, g12, g13, g14, g15, g16, g17, g18, g19, g20, g21, g22, g23, g24, g25, g26, g27, g28, g29, g30, g31, g32, g33, g34, g35, g36, g37, g38, g39, g40, g41, g42, g43, g44, g45], []⟩ w154 (fun K => by kernel_rfl) ?_
      refine WPI.done rfl ?_
      refine then_n ?_
      refine WP.ret ?_
      obtain rfl := Option.some.inj h
      exact post_r (vb true) rfl (by kernel_rfl) ⟨rfl, St.sel H155 [] (by decide) rfl⟩
  | true =>
    replace h := br_t h
    refine WP.condT (by kernel_rfl) ?_
    refine WP.seq ?_
    refine WP.region ?_
    refine WPI.run 1 ⟨#[s1, Z, vb false, Z, s1, vi (((List.length l2 : Nat) : Int)), vb true, Z, Z, Z, Z, Z, Z, Z, Z, Z, Z, Z, Z, Z, Z, Z, Z, Z, Z, Z, Z, Z, Z, Z, Z, Z, Z, Z, Z, Z, Z, Z, Z, Z, Z, Z, Z, Z, Z, Z, Z], []⟩ w0 (fun K => by kernel_rfl) ?_
    refine WPI.done rfl ?_
    refine then_n ?_
    refine WP.ret ?_
    obtain rfl := Option.some.inj h
    exact then_r (post_r (vb false) rfl (by kernel_rfl) ⟨rfl, St.sel H0 [] (by decide) rfl⟩)
end Go.Proofs
