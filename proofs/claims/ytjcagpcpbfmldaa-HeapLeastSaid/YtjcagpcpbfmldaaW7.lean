import Derived.Test.YtjcagpcpbfmldaaGw
import Derived.Test.YtjcagpcpbfmldaaProg
import Derived.Test.YtjcagpcpbfmldaaT
import Derived.Test.YtjcagpcpbfmldaaW1
import Derived.Test.YtjcagpcpbfmldaaW2
import Derived.Test.YtjcagpcpbfmldaaW3
import Derived.Test.YtjcagpcpbfmldaaW4
import Derived.Test.YtjcagpcpbfmldaaW5
import Derived.Test.YtjcagpcpbfmldaaW6
set_option linter.unusedVariables false
set_option linter.unusedSimpArgs false
set_option maxRecDepth 100000
set_option maxHeartbeats 4000000
namespace Go.Proofs
open Gw Go.RowKit
/- tarn/tarnref0.EqNodes -/
def g_tarnref0_EqNodes_l1 (l2 : List TNode) (l4 : List TNode) (K23 : Option Bool) (fuel : Nat) : Nat → Int → Option Bool
  | 0, _ => none
  | n + 1, x25 => lt (decide (x25 < (((List.length l2 : Nat) : Int)))) fun c43 => br c43 (gd ((0 : Int) ≤ x25 ∧ x25 < ((List.length l2 : Nat) : Int)) <| bd (l2[Int.toNat x25]?) fun x45 => gd ((0 : Int) ≤ x25 ∧ x25 < ((List.length l4 : Nat) : Int)) <| bd (l4[Int.toNat x25]?) fun x47 => lt (!decide (x45 = x47)) fun c48 => br c48 (some false) (lt (wr .i64 (x25 + 1)) fun x51 => g_tarnref0_EqNodes_l1 l2 l4 K23 fuel n x51)) (K23)
def g_tarnref0_EqNodes (fuel : Nat) (l2 : List TNode) (l4 : List TNode) : Option Bool :=
  lt ((((List.length l2 : Nat) : Int)) != (((List.length l4 : Nat) : Int))) fun c5 => br c5 (some false) (jn (some true) fun K23 => g_tarnref0_EqNodes_l1 l2 l4 K23 fuel fuel 0)
theorem g_tarnref0_EqNodes_w (fuel : Nat) (s1 : Value) (l2 : List TNode) (s3 : Value) (l4 : List TNode) (r : Bool) (h : g_tarnref0_EqNodes fuel l2 l4 = some r) (w0 : World) (hs1 : Rd fTNode (hp no w0) s1 l2) (hs3 : Rd fTNode (hp no w0) s3 l4) :
    Ret Try.prog 23 #[s1, s3] w0 (fun v w' => v = vb r ∧ St no w0 w' []) := by
  unfold g_tarnref0_EqNodes at h
  refine ret_of_wp Try.func23 rfl #[s1, s3, Z, Z, Z, Z, Z, Z, Z, Z, Z, Z, Z, Z, Z, Z, Z, Z, Z, Z, Z, Z, Z, Z, Z, Z] (by kernel_rfl) ?_
  have H0 := St.start w0
  refine WP.seq ?_
  refine WP.region ?_
  refine WPI.run 1 ⟨#[s1, s3, Z, Z, vb false, Z, Z, Z, Z, Z, Z, Z, Z, Z, Z, Z, Z, Z, Z, Z, Z, Z, Z, Z, Z, Z], []⟩ w0 (fun K => by kernel_rfl) ?_
  refine WPI.done rfl ?_
  refine then_n ?_
  refine WP.seq ?_
  refine WP.seq ?_
  refine WP.region ?_
  refine WPI.run 1 ⟨#[s1, s3, Z, Z, vb false, Z, s1, Z, Z, Z, Z, Z, Z, Z, Z, Z, Z, Z, Z, Z, Z, Z, Z, Z, Z, Z], []⟩ w0 (fun K => by kernel_rfl) ?_
  refine WPI.value (v := vi (((List.length l2 : Nat) : Int))) rfl (by kernel_rfl) (ev_len (Rd.sl hs1) 22 (.tmp 6) 33 6 48 rfl (by kernel_rfl) (by kernel_rfl)) ?_
  refine WPI.run 1 ⟨#[s1, s3, Z, Z, vb false, Z, s1, vi (((List.length l2 : Nat) : Int)), s3, Z, Z, Z, Z, Z, Z, Z, Z, Z, Z, Z, Z, Z, Z, Z, Z, Z], []⟩ w0 (fun K => by kernel_rfl) ?_
  refine WPI.value (v := vi (((List.length l4 : Nat) : Int))) rfl (by kernel_rfl) (ev_len (Rd.sl hs3) 22 (.tmp 8) 33 6 48 rfl (by kernel_rfl) (by kernel_rfl)) ?_
  obtain ⟨c5, hc5, h⟩ := lt_some h
  refine WPI.run 1 ⟨#[s1, s3, Z, Z, vb false, Z, s1, vi (((List.length l2 : Nat) : Int)), s3, vi (((List.length l4 : Nat) : Int)), vb c5, Z, Z, Z, Z, Z, Z, Z, Z, Z, Z, Z, Z, Z, Z, Z], []⟩ w0 (fun K => by subst hc5; kernel_rfl) ?_
  refine WPI.done rfl ?_
  refine then_n ?_
  cases c5 with
  | false =>
    replace h := br_f h
    refine WP.condF (by kernel_rfl) ?_
    refine WP.skip ?_
    refine then_n ?_
    refine WP.seq ?_
    refine WP.seq ?_
    refine WP.region ?_
    refine WPI.run 1 ⟨#[s1, s3, Z, Z, vb false, vi 0, s1, vi (((List.length l2 : Nat) : Int)), s3, vi (((List.length l4 : Nat) : Int)), vb false, Z, Z, Z, Z, Z, Z, Z, Z, Z, Z, Z, Z, Z, Z, Z], []⟩ w0 (fun K => by kernel_rfl) ?_
    refine WPI.done rfl ?_
    refine then_n ?_
    obtain ⟨K23, hK23, h⟩ := jn_some h
    refine WP.blockJ (fun a w => ∃ (g6 : Value) (g7 : Value) (g8 : Value) (g9 : Value) (g10 : Value) (g11 : Value) (g12 : Value) (g13 : Value) (g14 : Value) (g15 : Value) (g16 : Value) (g17 : Value) (g18 : Value) (g19 : Value) (g20 : Value) (g21 : Value) (g22 : Value), a = ⟨#[s1, s3, Z, Z, g6, g7, s1, vi (((List.length l2 : Nat) : Int)), s3, vi (((List.length l4 : Nat) : Int)), vb false, g8, g9, g10, g11, g12, g13, g14, g15, g16, g17, g18, g19, g20, g21, g22], []⟩ ∧ St no w0 w [] ∧ K23 = some r) ?_ ?_
    · skip
      refine WP.loop (fun n a w => ∃ (x25 : Int) (g24 : Value) (g26 : Value) (g27 : Value) (g28 : Value) (g29 : Value) (g30 : Value) (g31 : Value) (g32 : Value) (g33 : Value) (g34 : Value) (g35 : Value) (g36 : Value) (g37 : Value) (g38 : Value) (g39 : Value) (g40 : Value), a = ⟨#[s1, s3, Z, Z, g24, vi x25, s1, vi (((List.length l2 : Nat) : Int)), s3, vi (((List.length l4 : Nat) : Int)), vb false, g26, g27, g28, g29, g30, g31, g32, g33, g34, g35, g36, g37, g38, g39, g40], []⟩ ∧ St no w0 w [] ∧ g_tarnref0_EqNodes_l1 l2 l4 K23 fuel n x25 = some r) fuel ⟨0, _, _, _, _, _, _, _, _, _, _, _, _, _, _, _, _, rfl, St.sel H0 [] (by decide) rfl, h⟩ ?_
      rintro n a w ⟨x25, g24, g26, g27, g28, g29, g30, g31, g32, g33, g34, g35, g36, g37, g38, g39, g40, rfl, H, h⟩
      cases n with
      | zero => rw [g_tarnref0_EqNodes_l1] at h; cases h
      | succ n =>
        rw [g_tarnref0_EqNodes_l1] at h
        obtain ⟨w41, rfl⟩ : ∃ x, x = w := ⟨_, rfl⟩
        have H42 := H; clear H
        refine WP.seq ?_
        refine WP.seq ?_
        refine WP.region ?_
        refine WPI.run 2 ⟨#[s1, s3, Z, Z, g24, vi x25, s1, vi (((List.length l2 : Nat) : Int)), s3, vi (((List.length l4 : Nat) : Int)), vb false, vi x25, s1, g28, g29, g30, g31, g32, g33, g34, g35, g36, g37, g38, g39, g40], []⟩ w41 (fun K => by kernel_rfl) ?_
        refine WPI.value (v := vi (((List.length l2 : Nat) : Int))) rfl (by kernel_rfl) (ev_len (Rd.sl hs1) 22 (.tmp 12) 33 6 48 rfl (by kernel_rfl) (by kernel_rfl)) ?_
        obtain ⟨c43, hc43, h⟩ := lt_some h
        refine WPI.run 1 ⟨#[s1, s3, Z, Z, g24, vi x25, s1, vi (((List.length l2 : Nat) : Int)), s3, vi (((List.length l4 : Nat) : Int)), vb false, vi x25, s1, vi (((List.length l2 : Nat) : Int)), vb c43, g30, g31, g32, g33, g34, g35, g36, g37, g38, g39, g40], []⟩ w41 (fun K => by subst hc43; kernel_rfl) ?_
        refine WPI.done rfl ?_
        refine then_n ?_
        cases c43 with
        | false =>
          replace h := br_f h
          refine WP.condF (by kernel_rfl) ?_
          refine WP.exit ?_
          exact then_e (then_e (inb_e (then_n ⟨_, _, _, _, _, _, _, _, _, _, _, _, _, _, _, _, _, rfl, St.sel H42 [] (by decide) rfl, h⟩)))
        | true =>
          replace h := br_t h
          refine WP.condT (by kernel_rfl) ?_
          refine WP.skip ?_
          refine then_n ?_
          refine WP.seq ?_
          refine WP.block ?_
          refine WP.seq ?_
          refine WP.quiet (by kernel_rfl) (by kernel_rfl) (by kernel_rfl) (fun w => St no w0 w []) (St.drew H42) ?_
          refine WQ.value (v := s1) rfl (by kernel_rfl) (fun w _ => by kernel_rfl) ?_
          refine WQ.value (v := vi x25) rfl (by kernel_rfl) (fun w _ => by kernel_rfl) ?_
          obtain ⟨hg44, h⟩ := gd_some h
          refine WQ.value (v := va (slAt s1 6 (Int.toNat x25))) rfl (by kernel_rfl) (fun w H => ev_index (Rd.sl hs1) 22 (.tmp 17) (.tmp 18) 33 6 48 .i64 x25 rfl (by kernel_rfl) (by kernel_rfl) (by kernel_rfl) hg44) ?_
          obtain ⟨x45, hx45, h⟩ := bd_some h
          refine WQ.value (v := TNode.val x45) rfl (by kernel_rfl) (fun w H => ev_loadEl (F := fTNode) hs1 (St.hp_le H) hx45 33 (.tmp 19) 0 (TNode.val x45) rfl (by kernel_rfl) (by kernel_rfl)) ?_
          refine WQ.value (v := s3) rfl (by kernel_rfl) (fun w _ => by kernel_rfl) ?_
          refine WQ.value (v := vi x25) rfl (by kernel_rfl) (fun w _ => by kernel_rfl) ?_
          obtain ⟨hg46, h⟩ := gd_some h
          refine WQ.value (v := va (slAt s3 6 (Int.toNat x25))) rfl (by kernel_rfl) (fun w H => ev_index (Rd.sl hs3) 22 (.tmp 21) (.tmp 22) 33 6 48 .i64 x25 rfl (by kernel_rfl) (by kernel_rfl) (by kernel_rfl) hg46) ?_
          obtain ⟨x47, hx47, h⟩ := bd_some h
          refine WQ.value (v := TNode.val x47) rfl (by kernel_rfl) (fun w H => ev_loadEl (F := fTNode) hs3 (St.hp_le H) hx47 33 (.tmp 23) 0 (TNode.val x47) rfl (by kernel_rfl) (by kernel_rfl)) ?_
          obtain ⟨c48, hc48, h⟩ := lt_some h
          refine WQ.value (v := vb c48) rfl (by kernel_rfl) (fun w H => by subst hc48; exact ev_neqS (F := fTNode) 33 33 (.tmp 20) (.tmp 24) x45 x47 eqok_33 rfl (TNode.cs x45).toArray (TNode.cs x47).toArray rfl rfl (by kernel_rfl) (by kernel_rfl) (by kernel_rfl)) ?_
          refine WQ.frame (a' := ⟨#[s1, s3, Z, Z, g24, vi x25, s1, vi (((List.length l2 : Nat) : Int)), s3, vi (((List.length l4 : Nat) : Int)), vb false, vi x25, s1, vi (((List.length l2 : Nat) : Int)), vb true, g30, g31, s1, vi x25, va (slAt s1 6 (Int.toNat x25)), TNode.val x45, s3, vi x25, va (slAt s3 6 (Int.toNat x25)), TNode.val x47, vb c48], []⟩) (by kernel_rfl) ?_
          refine WQ.done rfl ?_
          refine (fun w49 H50 => ?_)
          refine then_n ?_
          cases c48 with
          | false =>
            replace h := br_f h
            refine WP.condF (by kernel_rfl) ?_
            refine WP.skip ?_
            refine inb_n (then_n ?_)
            refine WP.region ?_
            obtain ⟨x51, hx51, h⟩ := lt_some h
            refine WPI.run 3 ⟨#[s1, s3, Z, Z, g24, vi x51, s1, vi (((List.length l2 : Nat) : Int)), s3, vi (((List.length l4 : Nat) : Int)), vb false, vi x25, s1, vi (((List.length l2 : Nat) : Int)), vb true, vi x25, vi x51, s1, vi x25, va (slAt s1 6 (Int.toNat x25)), TNode.val x45, s3, vi x25, va (slAt s3 6 (Int.toNat x25)), TNode.val x47, vb false], []⟩ w49 (fun K => by subst hx51; kernel_rfl) ?_
            refine WPI.done rfl ?_
            exact then_n ⟨n, Nat.lt_succ_self n, x51, _, _, _, _, _, _, _, _, _, _, _, _, _, _, _, _, rfl, St.sel H50 [] (by decide) rfl, h⟩
          | true =>
            replace h := br_t h
            refine WP.condT (by kernel_rfl) ?_
            refine WP.seq ?_
            refine WP.region ?_
            refine WPI.run 1 ⟨#[s1, s3, Z, Z, vb false, vi x25, s1, vi (((List.length l2 : Nat) : Int)), s3, vi (((List.length l4 : Nat) : Int)), vb false, vi x25, s1, vi (((List.length l2 : Nat) : Int)), vb true, g30, g31, s1, vi x25, va (slAt s1 6 (Int.toNat x25)), TNode.val x45, s3, vi x25, va (slAt s3 6 (Int.toNat x25)), TNode.val x47, vb true], []⟩ w49 (fun K => by kernel_rfl) ?_
            refine WPI.done rfl ?_
            refine then_n ?_
            refine WP.ret ?_
            obtain rfl := Option.some.inj h
            exact inb_r (then_r (then_r (inb_r (then_r (then_r (post_r (vb false) rfl (by kernel_rfl) ⟨rfl, St.sel H50 [] (by decide) rfl⟩))))))
    · rintro a w ⟨g6, g7, g8, g9, g10, g11, g12, g13, g14, g15, g16, g17, g18, g19, g20, g21, g22, rfl, H, h⟩
      subst hK23
      obtain ⟨w52, rfl⟩ : ∃ x, x = w := ⟨_, rfl⟩
      have H53 := H; clear H
      refine then_n ?_
      refine WP.seq ?_
      refine WP.region ?_
      refine WPI.run 1 ⟨#[s1, s3, Z, Z, vb true, g7, s1, vi (((List.length l2 : Nat) : Int)), s3, vi (((List.length l4 : Nat) : Int)), vb false, g8, g9, g10, g11, g12, g13, g14, g15, g16, g17, g18, g19, g20, g21, g22], []⟩ w52 (fun K => by kernel_rfl) ?_
      refine WPI.done rfl ?_
      refine then_n ?_
      refine WP.ret ?_
      obtain rfl := Option.some.inj h
      exact post_r (vb true) rfl (by kernel_rfl) ⟨rfl, St.sel H53 [] (by decide) rfl⟩
  | true =>
    replace h := br_t h
    refine WP.condT (by kernel_rfl) ?_
    refine WP.seq ?_
    refine WP.region ?_
    refine WPI.run 1 ⟨#[s1, s3, Z, Z, vb false, Z, s1, vi (((List.length l2 : Nat) : Int)), s3, vi (((List.length l4 : Nat) : Int)), vb true, Z, Z, Z, Z, Z, Z, Z, Z, Z, Z, Z, Z, Z, Z, Z], []⟩ w0 (fun K => by kernel_rfl) ?_
    refine WPI.done rfl ?_
    refine then_n ?_
    refine WP.ret ?_
    obtain rfl := Option.some.inj h
    exact then_r (post_r (vb false) rfl (by kernel_rfl) ⟨rfl, St.sel H0 [] (by decide) rfl⟩)
/- tarn/tarnlaw0.Nodes -/
def g_tarnlaw0_Nodes_l1 (K17 : (List TNode) → Option Unit) (fuel : Nat) : Nat → (List TNode) → Int → Option Unit
  | 0, _, _ => none
  | n + 1, l18, x19 => lt (decide (x19 < (((List.length l18 : Nat) : Int)))) fun c33 => br c33 (gd ((0 : Int) ≤ x19 ∧ x19 < ((List.length l18 : Nat) : Int)) <| lt (List.set l18 (Int.toNat x19) (TNode.mk ((-9)) (TRank.mk 0 (TU256.mk 0 0 0 0)))) fun l35 => lt (wr .i64 (x19 + 1)) fun x38 => g_tarnlaw0_Nodes_l1 K17 fuel n l35 x38) (K17 l18)
def g_tarnlaw0_Nodes (fuel : Nat) (l2 : List TNode) : Option Unit :=
  jn (fun (l5 : List TNode) => gd ((List.length l5 + List.length (([TNode.mk 0 (TRank.mk 0 (TU256.mk 0 0 0 0))] : List TNode))) * 48 ≤ 140737488355328) <| lt (l5 ++ (([TNode.mk 0 (TRank.mk 0 (TU256.mk 0 0 0 0))] : List TNode))) fun l48 => some ()) fun K17 => g_tarnlaw0_Nodes_l1 K17 fuel fuel l2 0
theorem g_tarnlaw0_Nodes_w (fuel : Nat) (s1 : Value) (l2 : List TNode) (r : Unit) (h : g_tarnlaw0_Nodes fuel l2 = some r) (w0 : World) (hm : (Own fTNode 33 s1 l2).holds w0) :
    Ret Try.prog 41 #[s1] w0 (fun v w' => v = .tuple #[] ∧ St (Own fTNode 33 s1 l2).fp w0 w' []) := by
  unfold g_tarnlaw0_Nodes at h
  refine ret_of_wp Try.func41 rfl #[s1, Z, Z, Z, Z, Z, Z, Z, Z, Z, Z, Z, Z, Z, Z, Z, Z] (by kernel_rfl) ?_
  have H0 := St.start1 hm
  have sf4 := Own.isSl (St.get H0 0 rfl)
  refine WP.seq ?_
  refine WP.seq ?_
  refine WP.region ?_
  refine WPI.run 1 ⟨#[s1, Z, vi 0, Z, Z, Z, Z, Z, Z, Z, Z, Z, Z, Z, Z, Z, Z], []⟩ w0 (fun K => by kernel_rfl) ?_
  refine WPI.done rfl ?_
  refine then_n ?_
  obtain ⟨K17, hK17, h⟩ := jn_some h
  refine WP.blockJ (fun a w => ∃ (l5 : List TNode) (g6 : Value) (g7 : Value) (g8 : Value) (g9 : Value) (g10 : Value) (g11 : Value) (g12 : Value) (g13 : Value) (g14 : Value) (g15 : Value) (g16 : Value), a = ⟨#[s1, Z, g6, g7, g8, g9, g10, g11, g12, g13, g14, g15, g16, Z, Z, Z, Z], []⟩ ∧ St (Own fTNode 33 s1 l2).fp w0 w [Own fTNode 33 s1 l5] ∧ K17 l5 = some r) ?_ ?_
  · skip
    refine WP.loop (fun n a w => ∃ (l18 : List TNode) (x19 : Int) (g20 : Value) (g21 : Value) (g22 : Value) (g23 : Value) (g24 : Value) (g25 : Value) (g26 : Value) (g27 : Value) (g28 : Value) (g29 : Value), a = ⟨#[s1, Z, vi x19, g20, g21, g22, g23, g24, g25, g26, g27, g28, g29, Z, Z, Z, Z], []⟩ ∧ St (Own fTNode 33 s1 l2).fp w0 w [Own fTNode 33 s1 l18] ∧ g_tarnlaw0_Nodes_l1 K17 fuel n l18 x19 = some r) fuel ⟨l2, 0, _, _, _, _, _, _, _, _, _, _, rfl, St.sel H0 [0] (by decide) rfl, h⟩ ?_
    rintro n a w ⟨l18, x19, g20, g21, g22, g23, g24, g25, g26, g27, g28, g29, rfl, H, h⟩
    cases n with
    | zero => rw [g_tarnlaw0_Nodes_l1] at h; cases h
    | succ n =>
      rw [g_tarnlaw0_Nodes_l1] at h
      obtain ⟨w30, rfl⟩ : ∃ x, x = w := ⟨_, rfl⟩
      have H31 := H; clear H
      have sf32 := Own.isSl (St.get H31 0 rfl)
      refine WP.seq ?_
      refine WP.seq ?_
      refine WP.region ?_
      refine WPI.run 2 ⟨#[s1, Z, vi x19, vi x19, s1, g22, g23, g24, g25, g26, g27, g28, g29, Z, Z, Z, Z], []⟩ w30 (fun K => by kernel_rfl) ?_
      refine WPI.value (v := vi (((List.length l18 : Nat) : Int))) rfl (by kernel_rfl) (ev_len sf32 22 (.tmp 4) 33 6 48 rfl (by kernel_rfl) (by kernel_rfl)) ?_
      obtain ⟨c33, hc33, h⟩ := lt_some h
      refine WPI.run 1 ⟨#[s1, Z, vi x19, vi x19, s1, vi (((List.length l18 : Nat) : Int)), vb c33, g24, g25, g26, g27, g28, g29, Z, Z, Z, Z], []⟩ w30 (fun K => by subst hc33; kernel_rfl) ?_
      refine WPI.done rfl ?_
      refine then_n ?_
      cases c33 with
      | false =>
        replace h := br_f h
        refine WP.condF (by kernel_rfl) ?_
        refine WP.exit ?_
        exact then_e (then_e (inb_e (then_n ⟨l18, _, _, _, _, _, _, _, _, _, _, _, rfl, St.sel H31 [0] (by decide) rfl, h⟩)))
      | true =>
        replace h := br_t h
        refine WP.condT (by kernel_rfl) ?_
        refine WP.skip ?_
        refine then_n ?_
        refine WP.seq ?_
        refine WP.block ?_
        refine WP.region ?_
        obtain ⟨hg34, h⟩ := gd_some h
        refine WPI.run 3 ⟨#[s1, Z, vi x19, vi x19, s1, vi (((List.length l18 : Nat) : Int)), vb true, g24, g25, s1, vi x19, .agg #[vi ((-9)), vi 0, vu 0, vu 0, vu 0, vu 0], g29, Z, Z, Z, Z], []⟩ w30 (fun K => by kernel_rfl) ?_
        refine WPI.value (v := va (slAt s1 6 (Int.toNat x19))) rfl (by kernel_rfl) (ev_index sf32 22 (.tmp 9) (.tmp 10) 33 6 48 .i64 x19 rfl (by kernel_rfl) (by kernel_rfl) (by kernel_rfl) hg34) ?_
        obtain ⟨l35, hl35, h⟩ := lt_some h
        refine WPI.run 0 ⟨#[s1, Z, vi x19, vi x19, s1, vi (((List.length l18 : Nat) : Int)), vb true, g24, g25, s1, vi x19, .agg #[vi ((-9)), vi 0, vu 0, vu 0, vu 0, vu 0], va (slAt s1 6 (Int.toNat x19)), Z, Z, Z, Z], []⟩ w30 (fun K => by kernel_rfl) ?_
        refine WPI.op rfl (Op1.storeOwn H31 0 rfl (by kernel_rfl) 33 (.tmp 12) (.tmp 11) (Int.toNat x19) (TNode.mk ((-9)) (TRank.mk 0 (TU256.mk 0 0 0 0))) true rfl (by kernel_rfl) (by kernel_rfl) (by kernel_rfl) (idx_lt hg34) (fun w36 H37 => ?_))
        rw [← hl35] at H37
        clear H31
        refine WPI.run 0 ⟨#[s1, Z, vi x19, vi x19, s1, vi (((List.length l18 : Nat) : Int)), vb true, g24, g25, s1, vi x19, .agg #[vi ((-9)), vi 0, vu 0, vu 0, vu 0, vu 0], va (slAt s1 6 (Int.toNat x19)), Z, Z, Z, Z], []⟩ w36 (fun K => by kernel_rfl) ?_
        refine WPI.done rfl ?_
        refine inb_n (then_n ?_)
        refine WP.region ?_
        obtain ⟨x38, hx38, h⟩ := lt_some h
        refine WPI.run 3 ⟨#[s1, Z, vi x38, vi x19, s1, vi (((List.length l18 : Nat) : Int)), vb true, vi x19, vi x38, s1, vi x19, .agg #[vi ((-9)), vi 0, vu 0, vu 0, vu 0, vu 0], va (slAt s1 6 (Int.toNat x19)), Z, Z, Z, Z], []⟩ w36 (fun K => by subst hx38; kernel_rfl) ?_
        refine WPI.done rfl ?_
        exact then_n ⟨n, Nat.lt_succ_self n, l35, x38, _, _, _, _, _, _, _, _, _, _, rfl, St.sel H37 [0] (by decide) rfl, h⟩
  · rintro a w ⟨l5, g6, g7, g8, g9, g10, g11, g12, g13, g14, g15, g16, rfl, H, h⟩
    subst hK17
    obtain ⟨w39, rfl⟩ : ∃ x, x = w := ⟨_, rfl⟩
    have H40 := H; clear H
    have sf41 := Own.isSl (St.get H40 0 rfl)
    refine then_n ?_
    refine WP.region ?_
    refine WPI.run 2 ⟨#[s1, Z, g6, g7, g8, g9, g10, g11, g12, g13, g14, g15, g16, s1, .agg #[vi 0, vi 0, vu 0, vu 0, vu 0, vu 0], Z, Z], []⟩ w39 (fun K => by kernel_rfl) ?_
    refine WPI.op rfl (Op1.lit (F := fTNode) (E := 33) H40 (by kernel_rfl) ([TNode.mk 0 (TRank.mk 0 (TU256.mk 0 0 0 0))] : List TNode) (fun w => by kernel_rfl) (by simp [maxLen]) (fun s43 w45 H46 => ?_))
    clear H40
    have sf44 := Own.isSl (St.get H46 0 rfl)
    obtain ⟨hg47, h⟩ := gd_some h
    obtain ⟨l48, hl48, h⟩ := lt_some h
    refine WPI.run 0 ⟨#[s1, Z, g6, g7, g8, g9, g10, g11, g12, g13, g14, g15, g16, s1, .agg #[vi 0, vi 0, vu 0, vu 0, vu 0, vu 0], s43, Z], []⟩ w45 (fun K => by kernel_rfl) ?_
    refine WPI.op rfl (Op1.append (F := fTNode) H46 1 rfl (by kernel_rfl) 22 (.tmp 13) (.tmp 15) 48 rfl (by kernel_rfl) (by kernel_rfl) s43 (([TNode.mk 0 (TRank.mk 0 (TU256.mk 0 0 0 0))] : List TNode)) (St.rd H46 0 rfl) (hp_no_le _) (by kernel_rfl) (app_len hg47 (by decide)) (fun s49 w51 H52 => ?_))
    rw [← hl48] at H52
    clear H46
    have sf50 := Own.isSl (St.get H52 0 rfl)
    refine WPI.run 1 ⟨#[s49, Z, g6, g7, g8, g9, g10, g11, g12, g13, g14, g15, g16, s1, .agg #[vi 0, vi 0, vu 0, vu 0, vu 0, vu 0], s43, s49], []⟩ w51 (fun K => by kernel_rfl) ?_
    refine WPI.done rfl ?_
    obtain rfl := Option.some.inj h
    exact post_n (.tuple #[]) rfl (by kernel_rfl) ⟨rfl, St.sel H52 [] (by decide) rfl⟩
end Go.Proofs
