import Derived.Test.YtjcagpcpbfmldaaGw
import Derived.Test.YtjcagpcpbfmldaaProg
import Derived.Test.YtjcagpcpbfmldaaT
set_option linter.unusedVariables false
set_option linter.unusedSimpArgs false
set_option maxRecDepth 100000
set_option maxHeartbeats 4000000
namespace Go.Proofs
open Gw Go.RowKit
/- tarn/tarnlaw13.heavy -/
def g_tarnlaw13_heavy (fuel : Nat) (l2 : List TNode) (l4 : List Ttarnlaw13_Act) : Option Bool :=
  jn (fun (c9 : Bool) => some c9) fun K20 => lt (decide ((((List.length l2 : Nat) : Int)) > 500)) fun c21 => br c21 (K20 true) (lt (decide ((((List.length l4 : Nat) : Int)) > 500)) fun c22 => K20 c22)
theorem g_tarnlaw13_heavy_w (fuel : Nat) (s1 : Value) (l2 : List TNode) (s3 : Value) (l4 : List Ttarnlaw13_Act) (r : Bool) (h : g_tarnlaw13_heavy fuel l2 l4 = some r) (w0 : World) (hs1 : Rd fTNode (hp no w0) s1 l2) (hs3 : Rd fTtarnlaw13_Act (hp no w0) s3 l4) :
    Ret Try.prog 11 #[.agg #[s1, s3]] w0 (fun v w' => v = vb r ∧ St no w0 w' []) := by
  unfold g_tarnlaw13_heavy at h
  refine ret_of_wp Try.func11 rfl #[.agg #[s1, s3], Z, Z, Z, Z, Z, Z, Z, Z, Z, Z, Z, Z] (by kernel_rfl) ?_
  have H0 := St.start w0
  refine WP.seq ?_
  refine WP.region ?_
  refine WPI.op rfl (Op1.box H0 #[s1, s3] (by kernel_rfl) 25 (.tmp 0) rfl (by kernel_rfl) (fun b5 w7 H8 => ?_))
  refine WPI.run 1 ⟨#[.agg #[s1, s3], vp b5 0, vb false, Z, Z, Z, Z, Z, Z, Z, Z, Z, Z], []⟩ w7 (fun K => by kernel_rfl) ?_
  refine WPI.done rfl ?_
  refine then_n ?_
  refine WP.seq ?_
  obtain ⟨K20, hK20, h⟩ := jn_some h
  refine WP.onlyN (fun a w => ∃ (c9 : Bool) (g10 : Value) (g11 : Value) (g12 : Value) (g13 : Value) (g14 : Value) (g15 : Value) (g16 : Value) (g17 : Value) (g18 : Value) (g19 : Value), a = ⟨#[.agg #[s1, s3], vp b5 0, vb c9, g10, g11, g12, g13, g14, g15, g16, g17, g18, g19], []⟩ ∧ St no w0 w [Box b5 #[s1, s3] 25] ∧ K20 c9 = some r) ?_ ?_
  · skip
    refine WP.region ?_
    refine WPI.run 1 ⟨#[.agg #[s1, s3], vp b5 0, vb false, vp b5 0, Z, Z, Z, Z, Z, Z, Z, Z, Z], []⟩ w7 (fun K => by kernel_rfl) ?_
    refine WPI.value (v := s1) rfl (by kernel_rfl) (ev_loadBox H8 0 rfl 22 (.tmp 3) 0 (s1) rfl (by kernel_rfl) (by kernel_rfl)) ?_
    refine WPI.run 0 ⟨#[.agg #[s1, s3], vp b5 0, vb false, vp b5 0, s1, Z, Z, Z, Z, Z, Z, Z, Z], []⟩ w7 (fun K => by kernel_rfl) ?_
    refine WPI.value (v := vi (((List.length l2 : Nat) : Int))) rfl (by kernel_rfl) (ev_len (Rd.sl hs1) 22 (.tmp 4) 33 6 48 rfl (by kernel_rfl) (by kernel_rfl)) ?_
    obtain ⟨c21, hc21, h⟩ := lt_some h
    refine WPI.run 2 ⟨#[.agg #[s1, s3], vp b5 0, vb false, vp b5 0, s1, vi (((List.length l2 : Nat) : Int)), vb c21, vb c21, Z, Z, Z, Z, Z], []⟩ w7 (fun K => by subst hc21; kernel_rfl) ?_
    cases c21 with
    | false =>
      replace h := br_f h
      refine WPI.run 1 ⟨#[.agg #[s1, s3], vp b5 0, vb false, vp b5 0, s1, vi (((List.length l2 : Nat) : Int)), vb false, vb false, vp b5 1, Z, Z, Z, Z], []⟩ w7 (fun K => by kernel_rfl) ?_
      refine WPI.value (v := s3) rfl (by kernel_rfl) (ev_loadBox H8 0 rfl 23 (.tmp 8) 1 (s3) rfl (by kernel_rfl) (by kernel_rfl)) ?_
      refine WPI.run 0 ⟨#[.agg #[s1, s3], vp b5 0, vb false, vp b5 0, s1, vi (((List.length l2 : Nat) : Int)), vb false, vb false, vp b5 1, s3, Z, Z, Z], []⟩ w7 (fun K => by kernel_rfl) ?_
      refine WPI.value (v := vi (((List.length l4 : Nat) : Int))) rfl (by kernel_rfl) (ev_len (Rd.sl hs3) 23 (.tmp 9) 45 7 56 rfl (by kernel_rfl) (by kernel_rfl)) ?_
      obtain ⟨c22, hc22, h⟩ := lt_some h
      refine WPI.run 3 ⟨#[.agg #[s1, s3], vp b5 0, vb c22, vp b5 0, s1, vi (((List.length l2 : Nat) : Int)), vb false, vb false, vp b5 1, s3, vi (((List.length l4 : Nat) : Int)), vb c22, vb c22], []⟩ w7 (fun K => by subst hc22; kernel_rfl) ?_
      refine WPI.done rfl ?_
      exact ⟨c22, _, _, _, _, _, _, _, _, _, _, rfl, St.sel H8 [0] (by decide) rfl, h⟩
    | true =>
      replace h := br_t h
      refine WPI.run 6 ⟨#[.agg #[s1, s3], vp b5 0, vb true, vp b5 0, s1, vi (((List.length l2 : Nat) : Int)), vb true, vb true, Z, Z, Z, Z, vb true], []⟩ w7 (fun K => by kernel_rfl) ?_
      refine WPI.done rfl ?_
      exact ⟨true, _, _, _, _, _, _, _, _, _, _, rfl, St.sel H8 [0] (by decide) rfl, h⟩
  · rintro a w ⟨c9, g10, g11, g12, g13, g14, g15, g16, g17, g18, g19, rfl, H, h⟩
    subst hK20
    obtain ⟨w23, rfl⟩ : ∃ x, x = w := ⟨_, rfl⟩
    have H24 := H; clear H
    refine then_n ?_
    refine WP.ret ?_
    obtain rfl := Option.some.inj h
    exact post_r (vb c9) rfl (by kernel_rfl) ⟨rfl, St.sel H24 [] (by decide) rfl⟩
/- tarn/tarnref0.Num -/
def g_tarnref0_Num (fuel : Nat) (p1 : Int) (p2 : Int) : Option Bool :=
  jn (fun (c3 : Bool) => some c3) fun K11 => lt (decide (p1 ≥ 0)) fun c12 => br c12 (lt (decide (p1 ≤ p2)) fun c13 => K11 c13) (K11 false)
theorem g_tarnref0_Num_w (fuel : Nat) (p1 : Int) (p2 : Int) (r : Bool) (h : g_tarnref0_Num fuel p1 p2 = some r) (w0 : World) :
    Ret Try.prog 42 #[vi p1, vi p2] w0 (fun v w' => v = vb r ∧ St no w0 w' []) := by
  unfold g_tarnref0_Num at h
  refine ret_of_wp Try.func42 rfl #[vi p1, vi p2, Z, Z, Z, Z, Z, Z, Z, Z, Z, Z] (by kernel_rfl) ?_
  have H0 := St.start w0
  refine WP.seq ?_
  refine WP.region ?_
  refine WPI.run 1 ⟨#[vi p1, vi p2, Z, Z, vb false, Z, Z, Z, Z, Z, Z, Z], []⟩ w0 (fun K => by kernel_rfl) ?_
  refine WPI.done rfl ?_
  refine then_n ?_
  refine WP.seq ?_
  obtain ⟨K11, hK11, h⟩ := jn_some h
  refine WP.onlyN (fun a w => ∃ (c3 : Bool) (g4 : Value) (g5 : Value) (g6 : Value) (g7 : Value) (g8 : Value) (g9 : Value) (g10 : Value), a = ⟨#[vi p1, vi p2, Z, Z, vb c3, g4, g5, g6, g7, g8, g9, g10], []⟩ ∧ St no w0 w [] ∧ K11 c3 = some r) ?_ ?_
  · skip
    refine WP.region ?_
    obtain ⟨c12, hc12, h⟩ := lt_some h
    refine WPI.run 3 ⟨#[vi p1, vi p2, Z, Z, vb false, vi p1, vb c12, vb c12, Z, Z, Z, Z], []⟩ w0 (fun K => by subst hc12; kernel_rfl) ?_
    cases c12 with
    | false =>
      replace h := br_f h
      refine WPI.run 5 ⟨#[vi p1, vi p2, Z, Z, vb false, vi p1, vb false, vb false, Z, Z, Z, vb false], []⟩ w0 (fun K => by kernel_rfl) ?_
      refine WPI.done rfl ?_
      exact ⟨false, _, _, _, _, _, _, _, rfl, St.sel H0 [] (by decide) rfl, h⟩
    | true =>
      replace h := br_t h
      obtain ⟨c13, hc13, h⟩ := lt_some h
      refine WPI.run 5 ⟨#[vi p1, vi p2, Z, Z, vb c13, vi p1, vb true, vb true, vi p1, vi p2, vb c13, vb c13], []⟩ w0 (fun K => by subst hc13; kernel_rfl) ?_
      refine WPI.done rfl ?_
      exact ⟨c13, _, _, _, _, _, _, _, rfl, St.sel H0 [] (by decide) rfl, h⟩
  · rintro a w ⟨c3, g4, g5, g6, g7, g8, g9, g10, rfl, H, h⟩
    subst hK11
    obtain ⟨w14, rfl⟩ : ∃ x, x = w := ⟨_, rfl⟩
    have H15 := H; clear H
    refine then_n ?_
    refine WP.ret ?_
    obtain rfl := Option.some.inj h
    exact post_r (vb c3) rfl (by kernel_rfl) ⟨rfl, St.sel H15 [] (by decide) rfl⟩
/- tarn/tarnref12.Rank -/
def g_tarnref12_Rank (fuel : Nat) (p1 : TRank) : Option Bool :=
  jn (fun (c6 : Bool) => some c6) fun K15 => lt (decide (p1.Dist ≥ ((-4096)))) fun c16 => br c16 (lt (decide (p1.Dist ≤ 0)) fun c17 => K15 c17) (K15 false)
theorem g_tarnref12_Rank_w (fuel : Nat) (p1 : TRank) (r : Bool) (h : g_tarnref12_Rank fuel p1 = some r) (w0 : World) :
    Ret Try.prog 43 #[TRank.val p1] w0 (fun v w' => v = vb r ∧ St no w0 w' []) := by
  unfold g_tarnref12_Rank at h
  refine ret_of_wp Try.func43 rfl #[TRank.val p1, Z, Z, Z, Z, Z, Z, Z, Z, Z, Z] (by kernel_rfl) ?_
  have H0 := St.start w0
  refine WP.seq ?_
  refine WP.region ?_
  refine WPI.op rfl (Op1.box H0 (TRank.cs p1).toArray (by kernel_rfl) 31 (.tmp 0) rfl (by kernel_rfl) (fun b2 w4 H5 => ?_))
  refine WPI.run 1 ⟨#[TRank.val p1, vp b2 0, vb false, Z, Z, Z, Z, Z, Z, Z, Z], []⟩ w4 (fun K => by kernel_rfl) ?_
  refine WPI.done rfl ?_
  refine then_n ?_
  refine WP.seq ?_
  obtain ⟨K15, hK15, h⟩ := jn_some h
  refine WP.onlyN (fun a w => ∃ (c6 : Bool) (g7 : Value) (g8 : Value) (g9 : Value) (g10 : Value) (g11 : Value) (g12 : Value) (g13 : Value) (g14 : Value), a = ⟨#[TRank.val p1, vp b2 0, vb c6, g7, g8, g9, g10, g11, g12, g13, g14], []⟩ ∧ St no w0 w [Box b2 (TRank.cs p1).toArray 31] ∧ K15 c6 = some r) ?_ ?_
  · skip
    refine WP.region ?_
    refine WPI.run 1 ⟨#[TRank.val p1, vp b2 0, vb false, vp b2 0, Z, Z, Z, Z, Z, Z, Z], []⟩ w4 (fun K => by kernel_rfl) ?_
    refine WPI.value (v := vi p1.Dist) rfl (by kernel_rfl) (ev_loadBox H5 0 rfl 3 (.tmp 3) 0 (vi p1.Dist) rfl (by kernel_rfl) (by kernel_rfl)) ?_
    obtain ⟨c16, hc16, h⟩ := lt_some h
    refine WPI.run 2 ⟨#[TRank.val p1, vp b2 0, vb false, vp b2 0, vi p1.Dist, vb c16, vb c16, Z, Z, Z, Z], []⟩ w4 (fun K => by subst hc16; kernel_rfl) ?_
    cases c16 with
    | false =>
      replace h := br_f h
      refine WPI.run 5 ⟨#[TRank.val p1, vp b2 0, vb false, vp b2 0, vi p1.Dist, vb false, vb false, Z, Z, Z, vb false], []⟩ w4 (fun K => by kernel_rfl) ?_
      refine WPI.done rfl ?_
      exact ⟨false, _, _, _, _, _, _, _, _, rfl, St.sel H5 [0] (by decide) rfl, h⟩
    | true =>
      replace h := br_t h
      refine WPI.run 1 ⟨#[TRank.val p1, vp b2 0, vb false, vp b2 0, vi p1.Dist, vb true, vb true, vp b2 0, Z, Z, Z], []⟩ w4 (fun K => by kernel_rfl) ?_
      refine WPI.value (v := vi p1.Dist) rfl (by kernel_rfl) (ev_loadBox H5 0 rfl 3 (.tmp 7) 0 (vi p1.Dist) rfl (by kernel_rfl) (by kernel_rfl)) ?_
      obtain ⟨c17, hc17, h⟩ := lt_some h
      refine WPI.run 3 ⟨#[TRank.val p1, vp b2 0, vb c17, vp b2 0, vi p1.Dist, vb true, vb true, vp b2 0, vi p1.Dist, vb c17, vb c17], []⟩ w4 (fun K => by subst hc17; kernel_rfl) ?_
      refine WPI.done rfl ?_
      exact ⟨c17, _, _, _, _, _, _, _, _, rfl, St.sel H5 [0] (by decide) rfl, h⟩
  · rintro a w ⟨c6, g7, g8, g9, g10, g11, g12, g13, g14, rfl, H, h⟩
    subst hK15
    obtain ⟨w18, rfl⟩ : ∃ x, x = w := ⟨_, rfl⟩
    have H19 := H; clear H
    refine then_n ?_
    refine WP.ret ?_
    obtain rfl := Option.some.inj h
    exact post_r (vb c6) rfl (by kernel_rfl) ⟨rfl, St.sel H19 [] (by decide) rfl⟩
/- tarn/tarnref12.Node -/
def g_tarnref12_Node (fuel : Nat) (p1 : TNode) : Option Bool :=
  jn (fun (c6 : Bool) => some c6) fun K15 => bd (g_tarnref0_Num fuel p1.Acct 7) fun t16 => br t16 (bd (g_tarnref12_Rank fuel p1.Rank) fun t20 => K15 t20) (K15 false)
theorem g_tarnref12_Node_w (fuel : Nat) (p1 : TNode) (r : Bool) (h : g_tarnref12_Node fuel p1 = some r) (w0 : World) :
    Ret Try.prog 28 #[TNode.val p1] w0 (fun v w' => v = vb r ∧ St no w0 w' []) := by
  unfold g_tarnref12_Node at h
  refine ret_of_wp Try.func28 rfl #[TNode.val p1, Z, Z, Z, Z, Z, Z, Z, Z, Z, Z] (by kernel_rfl) ?_
  have H0 := St.start w0
  refine WP.seq ?_
  refine WP.region ?_
  refine WPI.op rfl (Op1.box H0 (TNode.cs p1).toArray (by kernel_rfl) 33 (.tmp 0) rfl (by kernel_rfl) (fun b2 w4 H5 => ?_))
  refine WPI.run 1 ⟨#[TNode.val p1, vp b2 0, vb false, Z, Z, Z, Z, Z, Z, Z, Z], []⟩ w4 (fun K => by kernel_rfl) ?_
  refine WPI.done rfl ?_
  refine then_n ?_
  refine WP.seq ?_
  obtain ⟨K15, hK15, h⟩ := jn_some h
  refine WP.onlyN (fun a w => ∃ (c6 : Bool) (g7 : Value) (g8 : Value) (g9 : Value) (g10 : Value) (g11 : Value) (g12 : Value) (g13 : Value) (g14 : Value), a = ⟨#[TNode.val p1, vp b2 0, vb c6, g7, g8, g9, g10, g11, g12, g13, g14], []⟩ ∧ St no w0 w [Box b2 (TNode.cs p1).toArray 33] ∧ K15 c6 = some r) ?_ ?_
  · skip
    refine WP.region ?_
    refine WPI.run 1 ⟨#[TNode.val p1, vp b2 0, vb false, vp b2 0, Z, Z, Z, Z, Z, Z, Z], []⟩ w4 (fun K => by kernel_rfl) ?_
    refine WPI.value (v := vi p1.Acct) rfl (by kernel_rfl) (ev_loadBox H5 0 rfl 3 (.tmp 3) 0 (vi p1.Acct) rfl (by kernel_rfl) (by kernel_rfl)) ?_
    obtain ⟨t16, ht16, h⟩ := bd_some h
    refine WPI.run 0 ⟨#[TNode.val p1, vp b2 0, vb false, vp b2 0, vi p1.Acct, Z, Z, Z, Z, Z, Z], []⟩ w4 (fun K => by kernel_rfl) ?_
    refine WPI.op rfl (Op1.call (by kernel_rfl) (by kernel_rfl) (g_tarnref0_Num_w fuel p1.Acct 7 t16 ht16 _) ?_)
    rintro _ w17 ⟨rfl, Hc18⟩
    have H19 := St.call0' H5 Hc18
    clear H5 Hc18
    refine WPI.run 1 ⟨#[TNode.val p1, vp b2 0, vb false, vp b2 0, vi p1.Acct, vb t16, vb t16, Z, Z, Z, Z], []⟩ w17 (fun K => by kernel_rfl) ?_
    cases t16 with
    | false =>
      replace h := br_f h
      refine WPI.run 5 ⟨#[TNode.val p1, vp b2 0, vb false, vp b2 0, vi p1.Acct, vb false, vb false, Z, Z, Z, vb false], []⟩ w17 (fun K => by kernel_rfl) ?_
      refine WPI.done rfl ?_
      exact ⟨false, _, _, _, _, _, _, _, _, rfl, St.sel H19 [0] (by decide) rfl, h⟩
    | true =>
      replace h := br_t h
      refine WPI.run 1 ⟨#[TNode.val p1, vp b2 0, vb false, vp b2 0, vi p1.Acct, vb true, vb true, vp b2 1, Z, Z, Z], []⟩ w17 (fun K => by kernel_rfl) ?_
      refine WPI.value (v := TRank.val p1.Rank) rfl (by kernel_rfl) (ev_loadBox H19 0 rfl 31 (.tmp 7) 1 (TRank.val p1.Rank) rfl (by kernel_rfl) (by kernel_rfl)) ?_
      obtain ⟨t20, ht20, h⟩ := bd_some h
      refine WPI.run 0 ⟨#[TNode.val p1, vp b2 0, vb false, vp b2 0, vi p1.Acct, vb true, vb true, vp b2 1, TRank.val p1.Rank, Z, Z], []⟩ w17 (fun K => by kernel_rfl) ?_
      refine WPI.op rfl (Op1.call (by kernel_rfl) (by kernel_rfl) (g_tarnref12_Rank_w fuel p1.Rank t20 ht20 _) ?_)
      rintro _ w21 ⟨rfl, Hc22⟩
      have H23 := St.call0' H19 Hc22
      clear H19 Hc22
      refine WPI.run 2 ⟨#[TNode.val p1, vp b2 0, vb t20, vp b2 0, vi p1.Acct, vb true, vb true, vp b2 1, TRank.val p1.Rank, vb t20, vb t20], []⟩ w21 (fun K => by kernel_rfl) ?_
      refine WPI.done rfl ?_
      exact ⟨t20, _, _, _, _, _, _, _, _, rfl, St.sel H23 [0] (by decide) rfl, h⟩
  · rintro a w ⟨c6, g7, g8, g9, g10, g11, g12, g13, g14, rfl, H, h⟩
    subst hK15
    obtain ⟨w24, rfl⟩ : ∃ x, x = w := ⟨_, rfl⟩
    have H25 := H; clear H
    refine then_n ?_
    refine WP.ret ?_
    obtain rfl := Option.some.inj h
    exact post_r (vb c6) rfl (by kernel_rfl) ⟨rfl, St.sel H25 [] (by decide) rfl⟩
/- tarn/tarnref12.Find -/
def g_tarnref12_Find_l1 (l2 : List TNode) (p3 : Int) (K20 : Option Int) (fuel : Nat) : Nat → Int → Option Int
  | 0, _ => none
  | n + 1, x22 => lt (decide (x22 < (((List.length l2 : Nat) : Int)))) fun c39 => br c39 (gd ((0 : Int) ≤ x22 ∧ x22 < ((List.length l2 : Nat) : Int)) <| bd (l2[Int.toNat x22]?) fun x41 => lt (x41.Acct == p3) fun c42 => br c42 (some x22) (lt (wr .i64 (x22 + 1)) fun x43 => g_tarnref12_Find_l1 l2 p3 K20 fuel n x43)) (K20)
def g_tarnref12_Find (fuel : Nat) (l2 : List TNode) (p3 : Int) : Option Int :=
  jn (some ((-1))) fun K20 => g_tarnref12_Find_l1 l2 p3 K20 fuel fuel 0
theorem g_tarnref12_Find_w (fuel : Nat) (s1 : Value) (l2 : List TNode) (p3 : Int) (r : Int) (h : g_tarnref12_Find fuel l2 p3 = some r) (w0 : World) (hs1 : Rd fTNode (hp no w0) s1 l2) :
    Ret Try.prog 29 #[s1, vi p3] w0 (fun v w' => v = vi r ∧ St no w0 w' []) := by
  unfold g_tarnref12_Find at h
  refine ret_of_wp Try.func29 rfl #[s1, vi p3, Z, Z, Z, Z, Z, Z, Z, Z, Z, Z, Z, Z, Z, Z, Z, Z, Z, Z] (by kernel_rfl) ?_
  have H0 := St.start w0
  refine WP.seq ?_
  refine WP.region ?_
  refine WPI.run 1 ⟨#[s1, vi p3, Z, Z, vi 0, Z, Z, Z, Z, Z, Z, Z, Z, Z, Z, Z, Z, Z, Z, Z], []⟩ w0 (fun K => by kernel_rfl) ?_
  refine WPI.done rfl ?_
  refine then_n ?_
  refine WP.seq ?_
  refine WP.seq ?_
  refine WP.region ?_
  refine WPI.run 1 ⟨#[s1, vi p3, Z, Z, vi 0, vi 0, Z, Z, Z, Z, Z, Z, Z, Z, Z, Z, Z, Z, Z, Z], []⟩ w0 (fun K => by kernel_rfl) ?_
  refine WPI.done rfl ?_
  refine then_n ?_
  obtain ⟨K20, hK20, h⟩ := jn_some h
  refine WP.blockJ (fun a w => ∃ (g4 : Value) (g5 : Value) (g6 : Value) (g7 : Value) (g8 : Value) (g9 : Value) (g10 : Value) (g11 : Value) (g12 : Value) (g13 : Value) (g14 : Value) (g15 : Value) (g16 : Value) (g17 : Value) (g18 : Value) (g19 : Value), a = ⟨#[s1, vi p3, Z, Z, g4, g5, g6, g7, g8, g9, g10, g11, g12, g13, g14, g15, g16, g17, g18, g19], []⟩ ∧ St no w0 w [] ∧ K20 = some r) ?_ ?_
  · skip
    refine WP.loop (fun n a w => ∃ (x22 : Int) (g21 : Value) (g23 : Value) (g24 : Value) (g25 : Value) (g26 : Value) (g27 : Value) (g28 : Value) (g29 : Value) (g30 : Value) (g31 : Value) (g32 : Value) (g33 : Value) (g34 : Value) (g35 : Value) (g36 : Value), a = ⟨#[s1, vi p3, Z, Z, g21, vi x22, g23, g24, g25, g26, g27, g28, g29, g30, g31, g32, g33, g34, g35, g36], []⟩ ∧ St no w0 w [] ∧ g_tarnref12_Find_l1 l2 p3 K20 fuel n x22 = some r) fuel ⟨0, _, _, _, _, _, _, _, _, _, _, _, _, _, _, _, rfl, St.sel H0 [] (by decide) rfl, h⟩ ?_
    rintro n a w ⟨x22, g21, g23, g24, g25, g26, g27, g28, g29, g30, g31, g32, g33, g34, g35, g36, rfl, H, h⟩
    cases n with
    | zero => rw [g_tarnref12_Find_l1] at h; cases h
    | succ n =>
      rw [g_tarnref12_Find_l1] at h
      obtain ⟨w37, rfl⟩ : ∃ x, x = w := ⟨_, rfl⟩
      have H38 := H; clear H
      refine WP.seq ?_
      refine WP.seq ?_
      refine WP.region ?_
      refine WPI.run 2 ⟨#[s1, vi p3, Z, Z, g21, vi x22, vi x22, s1, g25, g26, g27, g28, g29, g30, g31, g32, g33, g34, g35, g36], []⟩ w37 (fun K => by kernel_rfl) ?_
      refine WPI.value (v := vi (((List.length l2 : Nat) : Int))) rfl (by kernel_rfl) (ev_len (Rd.sl hs1) 22 (.tmp 7) 33 6 48 rfl (by kernel_rfl) (by kernel_rfl)) ?_
      obtain ⟨c39, hc39, h⟩ := lt_some h
      refine WPI.run 1 ⟨#[s1, vi p3, Z, Z, g21, vi x22, vi x22, s1, vi (((List.length l2 : Nat) : Int)), vb c39, g27, g28, g29, g30, g31, g32, g33, g34, g35, g36], []⟩ w37 (fun K => by subst hc39; kernel_rfl) ?_
      refine WPI.done rfl ?_
      refine then_n ?_
      cases c39 with
      | false =>
        replace h := br_f h
        refine WP.condF (by kernel_rfl) ?_
        refine WP.exit ?_
        exact then_e (then_e (inb_e (then_n ⟨_, _, _, _, _, _, _, _, _, _, _, _, _, _, _, _, rfl, St.sel H38 [] (by decide) rfl, h⟩)))
      | true =>
        replace h := br_t h
        refine WP.condT (by kernel_rfl) ?_
        refine WP.skip ?_
        refine then_n ?_
        refine WP.seq ?_
        refine WP.block ?_
        refine WP.seq ?_
        refine WP.region ?_
        obtain ⟨hg40, h⟩ := gd_some h
        refine WPI.run 2 ⟨#[s1, vi p3, Z, Z, g21, vi x22, vi x22, s1, vi (((List.length l2 : Nat) : Int)), vb true, g27, g28, s1, vi x22, g31, g32, g33, g34, g35, g36], []⟩ w37 (fun K => by kernel_rfl) ?_
        refine WPI.value (v := va (slAt s1 6 (Int.toNat x22))) rfl (by kernel_rfl) (ev_index (Rd.sl hs1) 22 (.tmp 12) (.tmp 13) 33 6 48 .i64 x22 rfl (by kernel_rfl) (by kernel_rfl) (by kernel_rfl) hg40) ?_
        obtain ⟨x41, hx41, h⟩ := bd_some h
        refine WPI.run 1 ⟨#[s1, vi p3, Z, Z, g21, vi x22, vi x22, s1, vi (((List.length l2 : Nat) : Int)), vb true, g27, g28, s1, vi x22, va (slAt s1 6 (Int.toNat x22)), va (slAt s1 6 (Int.toNat x22)), g33, g34, g35, g36], []⟩ w37 (fun K => by kernel_rfl) ?_
        refine WPI.value (v := vi x41.Acct) rfl (by kernel_rfl) (ev_loadEl (F := fTNode) hs1 (St.hp_le H38) hx41 3 (.tmp 15) 0 (vi x41.Acct) rfl (by kernel_rfl) (by kernel_rfl)) ?_
        obtain ⟨c42, hc42, h⟩ := lt_some h
        refine WPI.run 2 ⟨#[s1, vi p3, Z, Z, g21, vi x22, vi x22, s1, vi (((List.length l2 : Nat) : Int)), vb true, g27, g28, s1, vi x22, va (slAt s1 6 (Int.toNat x22)), va (slAt s1 6 (Int.toNat x22)), vi x41.Acct, vi p3, vb c42, g36], []⟩ w37 (fun K => by subst hc42; kernel_rfl) ?_
        refine WPI.done rfl ?_
        refine then_n ?_
        cases c42 with
        | false =>
          replace h := br_f h
          refine WP.condF (by kernel_rfl) ?_
          refine WP.skip ?_
          refine inb_n (then_n ?_)
          refine WP.region ?_
          obtain ⟨x43, hx43, h⟩ := lt_some h
          refine WPI.run 3 ⟨#[s1, vi p3, Z, Z, g21, vi x43, vi x22, s1, vi (((List.length l2 : Nat) : Int)), vb true, vi x22, vi x43, s1, vi x22, va (slAt s1 6 (Int.toNat x22)), va (slAt s1 6 (Int.toNat x22)), vi x41.Acct, vi p3, vb false, g36], []⟩ w37 (fun K => by subst hx43; kernel_rfl) ?_
          refine WPI.done rfl ?_
          exact then_n ⟨n, Nat.lt_succ_self n, x43, _, _, _, _, _, _, _, _, _, _, _, _, _, _, _, rfl, St.sel H38 [] (by decide) rfl, h⟩
        | true =>
          replace h := br_t h
          refine WP.condT (by kernel_rfl) ?_
          refine WP.seq ?_
          refine WP.region ?_
          refine WPI.run 2 ⟨#[s1, vi p3, Z, Z, vi x22, vi x22, vi x22, s1, vi (((List.length l2 : Nat) : Int)), vb true, g27, g28, s1, vi x22, va (slAt s1 6 (Int.toNat x22)), va (slAt s1 6 (Int.toNat x22)), vi x41.Acct, vi p3, vb true, vi x22], []⟩ w37 (fun K => by kernel_rfl) ?_
          refine WPI.done rfl ?_
          refine then_n ?_
          refine WP.ret ?_
          obtain rfl := Option.some.inj h
          exact inb_r (then_r (then_r (inb_r (then_r (then_r (post_r (vi x22) rfl (by kernel_rfl) ⟨rfl, St.sel H38 [] (by decide) rfl⟩))))))
  · rintro a w ⟨g4, g5, g6, g7, g8, g9, g10, g11, g12, g13, g14, g15, g16, g17, g18, g19, rfl, H, h⟩
    subst hK20
    obtain ⟨w44, rfl⟩ : ∃ x, x = w := ⟨_, rfl⟩
    have H45 := H; clear H
    refine then_n ?_
    refine WP.seq ?_
    refine WP.region ?_
    refine WPI.run 1 ⟨#[s1, vi p3, Z, Z, vi ((-1)), g5, g6, g7, g8, g9, g10, g11, g12, g13, g14, g15, g16, g17, g18, g19], []⟩ w44 (fun K => by kernel_rfl) ?_
    refine WPI.done rfl ?_
    refine then_n ?_
    refine WP.ret ?_
    obtain rfl := Option.some.inj h
    exact post_r (vi ((-1))) rfl (by kernel_rfl) ⟨rfl, St.sel H45 [] (by decide) rfl⟩
/- tarn/tarnref1.Cmp -/
def g_tarnref1_Cmp_l1 (p1 : TU256) (p2 : TU256) (K31 : Option Int) (fuel : Nat) : Nat → Int → Option Int
  | 0, _ => none
  | n + 1, x33 => lt (decide (x33 ≥ 0)) fun c54 => br c54 (gd ((0 : Int) ≤ x33 ∧ x33 < 4) <| bd (([p1.e0, p1.e1, p1.e2, p1.e3] : List Int)[Int.toNat x33]?) fun x56 => gd ((0 : Int) ≤ x33 ∧ x33 < 4) <| bd (([p2.e0, p2.e1, p2.e2, p2.e3] : List Int)[Int.toNat x33]?) fun x58 => lt (decide (x56 < x58)) fun c59 => br c59 (some ((-1))) (gd ((0 : Int) ≤ x33 ∧ x33 < 4) <| bd (([p1.e0, p1.e1, p1.e2, p1.e3] : List Int)[Int.toNat x33]?) fun x63 => gd ((0 : Int) ≤ x33 ∧ x33 < 4) <| bd (([p2.e0, p2.e1, p2.e2, p2.e3] : List Int)[Int.toNat x33]?) fun x65 => lt (decide (x63 > x65)) fun c66 => br c66 (some 1) (lt (wr .i64 (x33 - 1)) fun x69 => g_tarnref1_Cmp_l1 p1 p2 K31 fuel n x69))) (K31)
def g_tarnref1_Cmp (fuel : Nat) (p1 : TU256) (p2 : TU256) : Option Int :=
  jn (some 0) fun K31 => g_tarnref1_Cmp_l1 p1 p2 K31 fuel fuel 3
theorem g_tarnref1_Cmp_w (fuel : Nat) (p1 : TU256) (p2 : TU256) (r : Int) (h : g_tarnref1_Cmp fuel p1 p2 = some r) (w0 : World) :
    Ret Try.prog 48 #[TU256.val p1, TU256.val p2] w0 (fun v w' => v = vi r ∧ St no w0 w' []) := by
  unfold g_tarnref1_Cmp at h
  refine ret_of_wp Try.func48 rfl #[TU256.val p1, TU256.val p2, Z, Z, Z, Z, Z, Z, Z, Z, Z, Z, Z, Z, Z, Z, Z, Z, Z, Z, Z, Z, Z, Z] (by kernel_rfl) ?_
  have H0 := St.start w0
  refine WP.seq ?_
  refine WP.region ?_
  refine WPI.op rfl (Op1.box H0 (TU256.cs p1).toArray (by kernel_rfl) 29 (.tmp 0) rfl (by kernel_rfl) (fun b3 w5 H6 => ?_))
  refine WPI.run 0 ⟨#[TU256.val p1, TU256.val p2, vp b3 0, Z, Z, Z, Z, Z, Z, Z, Z, Z, Z, Z, Z, Z, Z, Z, Z, Z, Z, Z, Z, Z], []⟩ w5 (fun K => by kernel_rfl) ?_
  refine WPI.op rfl (Op1.box H6 (TU256.cs p2).toArray (by kernel_rfl) 29 (.tmp 1) rfl (by kernel_rfl) (fun b7 w9 H10 => ?_))
  clear H6
  refine WPI.run 1 ⟨#[TU256.val p1, TU256.val p2, vp b3 0, vp b7 0, vi 0, Z, Z, Z, Z, Z, Z, Z, Z, Z, Z, Z, Z, Z, Z, Z, Z, Z, Z, Z], []⟩ w9 (fun K => by kernel_rfl) ?_
  refine WPI.done rfl ?_
  refine then_n ?_
  refine WP.seq ?_
  refine WP.seq ?_
  refine WP.region ?_
  refine WPI.run 1 ⟨#[TU256.val p1, TU256.val p2, vp b3 0, vp b7 0, vi 0, vi 3, Z, Z, Z, Z, Z, Z, Z, Z, Z, Z, Z, Z, Z, Z, Z, Z, Z, Z], []⟩ w9 (fun K => by kernel_rfl) ?_
  refine WPI.done rfl ?_
  refine then_n ?_
  obtain ⟨K31, hK31, h⟩ := jn_some h
  refine WP.blockJ (fun a w => ∃ (g11 : Value) (g12 : Value) (g13 : Value) (g14 : Value) (g15 : Value) (g16 : Value) (g17 : Value) (g18 : Value) (g19 : Value) (g20 : Value) (g21 : Value) (g22 : Value) (g23 : Value) (g24 : Value) (g25 : Value) (g26 : Value) (g27 : Value) (g28 : Value) (g29 : Value) (g30 : Value), a = ⟨#[TU256.val p1, TU256.val p2, vp b3 0, vp b7 0, g11, g12, g13, g14, g15, g16, g17, g18, g19, g20, g21, g22, g23, g24, g25, g26, g27, g28, g29, g30], []⟩ ∧ St no w0 w [Box b7 (TU256.cs p2).toArray 29, Box b3 (TU256.cs p1).toArray 29] ∧ K31 = some r) ?_ ?_
  · skip
    refine WP.loop (fun n a w => ∃ (x33 : Int) (g32 : Value) (g34 : Value) (g35 : Value) (g36 : Value) (g37 : Value) (g38 : Value) (g39 : Value) (g40 : Value) (g41 : Value) (g42 : Value) (g43 : Value) (g44 : Value) (g45 : Value) (g46 : Value) (g47 : Value) (g48 : Value) (g49 : Value) (g50 : Value) (g51 : Value), a = ⟨#[TU256.val p1, TU256.val p2, vp b3 0, vp b7 0, g32, vi x33, g34, g35, g36, g37, g38, g39, g40, g41, g42, g43, g44, g45, g46, g47, g48, g49, g50, g51], []⟩ ∧ St no w0 w [Box b7 (TU256.cs p2).toArray 29, Box b3 (TU256.cs p1).toArray 29] ∧ g_tarnref1_Cmp_l1 p1 p2 K31 fuel n x33 = some r) fuel ⟨3, _, _, _, _, _, _, _, _, _, _, _, _, _, _, _, _, _, _, _, rfl, St.sel H10 [0, 1] (by decide) rfl, h⟩ ?_
    rintro n a w ⟨x33, g32, g34, g35, g36, g37, g38, g39, g40, g41, g42, g43, g44, g45, g46, g47, g48, g49, g50, g51, rfl, H, h⟩
    cases n with
    | zero => rw [g_tarnref1_Cmp_l1] at h; cases h
    | succ n =>
      rw [g_tarnref1_Cmp_l1] at h
      obtain ⟨w52, rfl⟩ : ∃ x, x = w := ⟨_, rfl⟩
      have H53 := H; clear H
      refine WP.seq ?_
      refine WP.seq ?_
      refine WP.region ?_
      obtain ⟨c54, hc54, h⟩ := lt_some h
      refine WPI.run 2 ⟨#[TU256.val p1, TU256.val p2, vp b3 0, vp b7 0, g32, vi x33, vi x33, vb c54, g36, g37, g38, g39, g40, g41, g42, g43, g44, g45, g46, g47, g48, g49, g50, g51], []⟩ w52 (fun K => by subst hc54; kernel_rfl) ?_
      refine WPI.done rfl ?_
      refine then_n ?_
      cases c54 with
      | false =>
        replace h := br_f h
        refine WP.condF (by kernel_rfl) ?_
        refine WP.exit ?_
        exact then_e (then_e (inb_e (then_n ⟨_, _, _, _, _, _, _, _, _, _, _, _, _, _, _, _, _, _, _, _, rfl, St.sel H53 [0, 1] (by decide) rfl, h⟩)))
      | true =>
        replace h := br_t h
        refine WP.condT (by kernel_rfl) ?_
        refine WP.skip ?_
        refine then_n ?_
        refine WP.seq ?_
        refine WP.block ?_
        refine WP.seq ?_
        refine WP.seq ?_
        refine WP.quiet (by kernel_rfl) (by kernel_rfl) (by kernel_rfl) (fun w => St no w0 w [Box b7 (TU256.cs p2).toArray 29, Box b3 (TU256.cs p1).toArray 29]) (St.drew H53) ?_
        refine WQ.value (v := vi x33) rfl (by kernel_rfl) (fun w _ => by kernel_rfl) ?_
        obtain ⟨hg55, h⟩ := gd_some h
        refine WQ.value (v := va (((⟨b3, 0, none⟩ : Addr).add 0).add (Int.toNat x33 * 1))) rfl (by kernel_rfl) (fun w H => ev_indexArr (ad := (⟨b3, 0, none⟩ : Addr).add 0) 29 (.tmp 2) (.tmp 10) 4 27 1 .i64 x33 rfl (by kernel_rfl) (by kernel_rfl) (by kernel_rfl) hg55) ?_
        obtain ⟨x56, hx56, h⟩ := bd_some h
        refine WQ.value (v := vu x56) rfl (by kernel_rfl) (fun w H => ev_load 27 (.tmp 11) 0 (vu x56) (CellsAt.elem fU64 (St.boxAt H 1 rfl) 0 [p1.e0, p1.e1, p1.e2, p1.e3] [] (by kernel_rfl) _ _ hx56) (le_self _) rfl (by kernel_rfl) (by kernel_rfl)) ?_
        refine WQ.value (v := vi x33) rfl (by kernel_rfl) (fun w _ => by kernel_rfl) ?_
        obtain ⟨hg57, h⟩ := gd_some h
        refine WQ.value (v := va (((⟨b7, 0, none⟩ : Addr).add 0).add (Int.toNat x33 * 1))) rfl (by kernel_rfl) (fun w H => ev_indexArr (ad := (⟨b7, 0, none⟩ : Addr).add 0) 29 (.tmp 3) (.tmp 13) 4 27 1 .i64 x33 rfl (by kernel_rfl) (by kernel_rfl) (by kernel_rfl) hg57) ?_
        obtain ⟨x58, hx58, h⟩ := bd_some h
        refine WQ.value (v := vu x58) rfl (by kernel_rfl) (fun w H => ev_load 27 (.tmp 14) 0 (vu x58) (CellsAt.elem fU64 (St.boxAt H 0 rfl) 0 [p2.e0, p2.e1, p2.e2, p2.e3] [] (by kernel_rfl) _ _ hx58) (le_self _) rfl (by kernel_rfl) (by kernel_rfl)) ?_
        obtain ⟨c59, hc59, h⟩ := lt_some h
        refine WQ.value (v := vb c59) rfl (by kernel_rfl) (fun w _ => by subst hc59; kernel_rfl) ?_
        refine WQ.frame (a' := ⟨#[TU256.val p1, TU256.val p2, vp b3 0, vp b7 0, g32, vi x33, vi x33, vb true, g36, g37, vi x33, va (((⟨b3, 0, none⟩ : Addr).add 0).add (Int.toNat x33 * 1)), vu x56, vi x33, va (((⟨b7, 0, none⟩ : Addr).add 0).add (Int.toNat x33 * 1)), vu x58, vb c59, g45, g46, g47, g48, g49, g50, g51], []⟩) (by kernel_rfl) ?_
        refine WQ.done rfl ?_
        refine (fun w60 H61 => ?_)
        refine then_n ?_
        cases c59 with
        | false =>
          replace h := br_f h
          refine WP.condF (by kernel_rfl) ?_
          refine WP.skip ?_
          refine then_n ?_
          refine WP.seq ?_
          refine WP.quiet (by kernel_rfl) (by kernel_rfl) (by kernel_rfl) (fun w => St no w0 w [Box b7 (TU256.cs p2).toArray 29, Box b3 (TU256.cs p1).toArray 29]) (St.drew H61) ?_
          refine WQ.value (v := vi x33) rfl (by kernel_rfl) (fun w _ => by kernel_rfl) ?_
          obtain ⟨hg62, h⟩ := gd_some h
          refine WQ.value (v := va (((⟨b3, 0, none⟩ : Addr).add 0).add (Int.toNat x33 * 1))) rfl (by kernel_rfl) (fun w H => ev_indexArr (ad := (⟨b3, 0, none⟩ : Addr).add 0) 29 (.tmp 2) (.tmp 17) 4 27 1 .i64 x33 rfl (by kernel_rfl) (by kernel_rfl) (by kernel_rfl) hg62) ?_
          obtain ⟨x63, hx63, h⟩ := bd_some h
          refine WQ.value (v := vu x63) rfl (by kernel_rfl) (fun w H => ev_load 27 (.tmp 18) 0 (vu x63) (CellsAt.elem fU64 (St.boxAt H 1 rfl) 0 [p1.e0, p1.e1, p1.e2, p1.e3] [] (by kernel_rfl) _ _ hx63) (le_self _) rfl (by kernel_rfl) (by kernel_rfl)) ?_
          refine WQ.value (v := vi x33) rfl (by kernel_rfl) (fun w _ => by kernel_rfl) ?_
          obtain ⟨hg64, h⟩ := gd_some h
          refine WQ.value (v := va (((⟨b7, 0, none⟩ : Addr).add 0).add (Int.toNat x33 * 1))) rfl (by kernel_rfl) (fun w H => ev_indexArr (ad := (⟨b7, 0, none⟩ : Addr).add 0) 29 (.tmp 3) (.tmp 20) 4 27 1 .i64 x33 rfl (by kernel_rfl) (by kernel_rfl) (by kernel_rfl) hg64) ?_
          obtain ⟨x65, hx65, h⟩ := bd_some h
          refine WQ.value (v := vu x65) rfl (by kernel_rfl) (fun w H => ev_load 27 (.tmp 21) 0 (vu x65) (CellsAt.elem fU64 (St.boxAt H 0 rfl) 0 [p2.e0, p2.e1, p2.e2, p2.e3] [] (by kernel_rfl) _ _ hx65) (le_self _) rfl (by kernel_rfl) (by kernel_rfl)) ?_
          obtain ⟨c66, hc66, h⟩ := lt_some h
          refine WQ.value (v := vb c66) rfl (by kernel_rfl) (fun w _ => by subst hc66; kernel_rfl) ?_
          refine WQ.frame (a' := ⟨#[TU256.val p1, TU256.val p2, vp b3 0, vp b7 0, g32, vi x33, vi x33, vb true, g36, g37, vi x33, va (((⟨b3, 0, none⟩ : Addr).add 0).add (Int.toNat x33 * 1)), vu x56, vi x33, va (((⟨b7, 0, none⟩ : Addr).add 0).add (Int.toNat x33 * 1)), vu x58, vb false, vi x33, va (((⟨b3, 0, none⟩ : Addr).add 0).add (Int.toNat x33 * 1)), vu x63, vi x33, va (((⟨b7, 0, none⟩ : Addr).add 0).add (Int.toNat x33 * 1)), vu x65, vb c66], []⟩) (by kernel_rfl) ?_
          refine WQ.done rfl ?_
          refine (fun w67 H68 => ?_)
          refine then_n ?_
          cases c66 with
          | false =>
            replace h := br_f h
            refine WP.condF (by kernel_rfl) ?_
            refine WP.skip ?_
            refine inb_n (then_n ?_)
            refine WP.region ?_
            obtain ⟨x69, hx69, h⟩ := lt_some h
            refine WPI.run 3 ⟨#[TU256.val p1, TU256.val p2, vp b3 0, vp b7 0, g32, vi x69, vi x33, vb true, vi x33, vi x69, vi x33, va (((⟨b3, 0, none⟩ : Addr).add 0).add (Int.toNat x33 * 1)), vu x56, vi x33, va (((⟨b7, 0, none⟩ : Addr).add 0).add (Int.toNat x33 * 1)), vu x58, vb false, vi x33, va (((⟨b3, 0, none⟩ : Addr).add 0).add (Int.toNat x33 * 1)), vu x63, vi x33, va (((⟨b7, 0, none⟩ : Addr).add 0).add (Int.toNat x33 * 1)), vu x65, vb false], []⟩ w67 (fun K => by subst hx69; kernel_rfl) ?_
            refine WPI.done rfl ?_
            exact then_n ⟨n, Nat.lt_succ_self n, x69, _, _, _, _, _, _, _, _, _, _, _, _, _, _, _, _, _, _, _, rfl, St.sel H68 [0, 1] (by decide) rfl, h⟩
          | true =>
            replace h := br_t h
            refine WP.condT (by kernel_rfl) ?_
            refine WP.seq ?_
            refine WP.region ?_
            refine WPI.run 1 ⟨#[TU256.val p1, TU256.val p2, vp b3 0, vp b7 0, vi 1, vi x33, vi x33, vb true, g36, g37, vi x33, va (((⟨b3, 0, none⟩ : Addr).add 0).add (Int.toNat x33 * 1)), vu x56, vi x33, va (((⟨b7, 0, none⟩ : Addr).add 0).add (Int.toNat x33 * 1)), vu x58, vb false, vi x33, va (((⟨b3, 0, none⟩ : Addr).add 0).add (Int.toNat x33 * 1)), vu x63, vi x33, va (((⟨b7, 0, none⟩ : Addr).add 0).add (Int.toNat x33 * 1)), vu x65, vb true], []⟩ w67 (fun K => by kernel_rfl) ?_
            refine WPI.done rfl ?_
            refine then_n ?_
            refine WP.ret ?_
            obtain rfl := Option.some.inj h
            exact inb_r (then_r (then_r (inb_r (then_r (then_r (post_r (vi 1) rfl (by kernel_rfl) ⟨rfl, St.sel H68 [] (by decide) rfl⟩))))))
        | true =>
          replace h := br_t h
          refine WP.condT (by kernel_rfl) ?_
          refine WP.seq ?_
          refine WP.region ?_
          refine WPI.run 1 ⟨#[TU256.val p1, TU256.val p2, vp b3 0, vp b7 0, vi ((-1)), vi x33, vi x33, vb true, g36, g37, vi x33, va (((⟨b3, 0, none⟩ : Addr).add 0).add (Int.toNat x33 * 1)), vu x56, vi x33, va (((⟨b7, 0, none⟩ : Addr).add 0).add (Int.toNat x33 * 1)), vu x58, vb true, g45, g46, g47, g48, g49, g50, g51], []⟩ w60 (fun K => by kernel_rfl) ?_
          refine WPI.done rfl ?_
          refine then_n ?_
          refine WP.ret ?_
          obtain rfl := Option.some.inj h
          exact then_r (inb_r (then_r (then_r (inb_r (then_r (then_r (post_r (vi ((-1))) rfl (by kernel_rfl) ⟨rfl, St.sel H61 [] (by decide) rfl⟩)))))))
  · rintro a w ⟨g11, g12, g13, g14, g15, g16, g17, g18, g19, g20, g21, g22, g23, g24, g25, g26, g27, g28, g29, g30, rfl, H, h⟩
    subst hK31
    obtain ⟨w70, rfl⟩ : ∃ x, x = w := ⟨_, rfl⟩
    have H71 := H; clear H
    refine then_n ?_
    refine WP.seq ?_
    refine WP.region ?_
    refine WPI.run 1 ⟨#[TU256.val p1, TU256.val p2, vp b3 0, vp b7 0, vi 0, g12, g13, g14, g15, g16, g17, g18, g19, g20, g21, g22, g23, g24, g25, g26, g27, g28, g29, g30], []⟩ w70 (fun K => by kernel_rfl) ?_
    refine WPI.done rfl ?_
    refine then_n ?_
    refine WP.ret ?_
    obtain rfl := Option.some.inj h
    exact post_r (vi 0) rfl (by kernel_rfl) ⟨rfl, St.sel H71 [] (by decide) rfl⟩
/- tarn/tarnref12.Cmp -/
def g_tarnref12_Cmp (fuel : Nat) (p1 : TRank) (p2 : TRank) : Option Int :=
  lt (decide (p1.Dist < p2.Dist)) fun c11 => br c11 (some ((-1))) (lt (decide (p1.Dist > p2.Dist)) fun c12 => br c12 (some 1) (bd (g_tarnref1_Cmp fuel p1.Tip p2.Tip) fun t13 => some t13))
theorem g_tarnref12_Cmp_w (fuel : Nat) (p1 : TRank) (p2 : TRank) (r : Int) (h : g_tarnref12_Cmp fuel p1 p2 = some r) (w0 : World) :
    Ret Try.prog 35 #[TRank.val p1, TRank.val p2] w0 (fun v w' => v = vi r ∧ St no w0 w' []) := by
  unfold g_tarnref12_Cmp at h
  refine ret_of_wp Try.func35 rfl #[TRank.val p1, TRank.val p2, Z, Z, Z, Z, Z, Z, Z, Z, Z, Z, Z, Z, Z, Z, Z, Z, Z, Z] (by kernel_rfl) ?_
  have H0 := St.start w0
  refine WP.seq ?_
  refine WP.region ?_
  refine WPI.op rfl (Op1.box H0 (TRank.cs p1).toArray (by kernel_rfl) 31 (.tmp 0) rfl (by kernel_rfl) (fun b3 w5 H6 => ?_))
  refine WPI.run 0 ⟨#[TRank.val p1, TRank.val p2, vp b3 0, Z, Z, Z, Z, Z, Z, Z, Z, Z, Z, Z, Z, Z, Z, Z, Z, Z], []⟩ w5 (fun K => by kernel_rfl) ?_
  refine WPI.op rfl (Op1.box H6 (TRank.cs p2).toArray (by kernel_rfl) 31 (.tmp 1) rfl (by kernel_rfl) (fun b7 w9 H10 => ?_))
  clear H6
  refine WPI.run 1 ⟨#[TRank.val p1, TRank.val p2, vp b3 0, vp b7 0, vi 0, Z, Z, Z, Z, Z, Z, Z, Z, Z, Z, Z, Z, Z, Z, Z], []⟩ w9 (fun K => by kernel_rfl) ?_
  refine WPI.done rfl ?_
  refine then_n ?_
  refine WP.seq ?_
  refine WP.seq ?_
  refine WP.region ?_
  refine WPI.run 1 ⟨#[TRank.val p1, TRank.val p2, vp b3 0, vp b7 0, vi 0, vp b3 0, Z, Z, Z, Z, Z, Z, Z, Z, Z, Z, Z, Z, Z, Z], []⟩ w9 (fun K => by kernel_rfl) ?_
  refine WPI.value (v := vi p1.Dist) rfl (by kernel_rfl) (ev_loadBox H10 1 rfl 3 (.tmp 5) 0 (vi p1.Dist) rfl (by kernel_rfl) (by kernel_rfl)) ?_
  refine WPI.run 1 ⟨#[TRank.val p1, TRank.val p2, vp b3 0, vp b7 0, vi 0, vp b3 0, vi p1.Dist, vp b7 0, Z, Z, Z, Z, Z, Z, Z, Z, Z, Z, Z, Z], []⟩ w9 (fun K => by kernel_rfl) ?_
  refine WPI.value (v := vi p2.Dist) rfl (by kernel_rfl) (ev_loadBox H10 0 rfl 3 (.tmp 7) 0 (vi p2.Dist) rfl (by kernel_rfl) (by kernel_rfl)) ?_
  obtain ⟨c11, hc11, h⟩ := lt_some h
  refine WPI.run 1 ⟨#[TRank.val p1, TRank.val p2, vp b3 0, vp b7 0, vi 0, vp b3 0, vi p1.Dist, vp b7 0, vi p2.Dist, vb c11, Z, Z, Z, Z, Z, Z, Z, Z, Z, Z], []⟩ w9 (fun K => by subst hc11; kernel_rfl) ?_
  refine WPI.done rfl ?_
  refine then_n ?_
  cases c11 with
  | false =>
    replace h := br_f h
    refine WP.condF (by kernel_rfl) ?_
    refine WP.skip ?_
    refine then_n ?_
    refine WP.seq ?_
    refine WP.seq ?_
    refine WP.region ?_
    refine WPI.run 1 ⟨#[TRank.val p1, TRank.val p2, vp b3 0, vp b7 0, vi 0, vp b3 0, vi p1.Dist, vp b7 0, vi p2.Dist, vb false, vp b3 0, Z, Z, Z, Z, Z, Z, Z, Z, Z], []⟩ w9 (fun K => by kernel_rfl) ?_
    refine WPI.value (v := vi p1.Dist) rfl (by kernel_rfl) (ev_loadBox H10 1 rfl 3 (.tmp 10) 0 (vi p1.Dist) rfl (by kernel_rfl) (by kernel_rfl)) ?_
    refine WPI.run 1 ⟨#[TRank.val p1, TRank.val p2, vp b3 0, vp b7 0, vi 0, vp b3 0, vi p1.Dist, vp b7 0, vi p2.Dist, vb false, vp b3 0, vi p1.Dist, vp b7 0, Z, Z, Z, Z, Z, Z, Z], []⟩ w9 (fun K => by kernel_rfl) ?_
    refine WPI.value (v := vi p2.Dist) rfl (by kernel_rfl) (ev_loadBox H10 0 rfl 3 (.tmp 12) 0 (vi p2.Dist) rfl (by kernel_rfl) (by kernel_rfl)) ?_
    obtain ⟨c12, hc12, h⟩ := lt_some h
    refine WPI.run 1 ⟨#[TRank.val p1, TRank.val p2, vp b3 0, vp b7 0, vi 0, vp b3 0, vi p1.Dist, vp b7 0, vi p2.Dist, vb false, vp b3 0, vi p1.Dist, vp b7 0, vi p2.Dist, vb c12, Z, Z, Z, Z, Z], []⟩ w9 (fun K => by subst hc12; kernel_rfl) ?_
    refine WPI.done rfl ?_
    refine then_n ?_
    cases c12 with
    | false =>
      replace h := br_f h
      refine WP.condF (by kernel_rfl) ?_
      refine WP.skip ?_
      refine then_n ?_
      refine WP.seq ?_
      refine WP.region ?_
      refine WPI.run 1 ⟨#[TRank.val p1, TRank.val p2, vp b3 0, vp b7 0, vi 0, vp b3 0, vi p1.Dist, vp b7 0, vi p2.Dist, vb false, vp b3 0, vi p1.Dist, vp b7 0, vi p2.Dist, vb false, vp b3 1, Z, Z, Z, Z], []⟩ w9 (fun K => by kernel_rfl) ?_
      refine WPI.value (v := TU256.val p1.Tip) rfl (by kernel_rfl) (ev_loadBox H10 1 rfl 29 (.tmp 15) 1 (TU256.val p1.Tip) rfl (by kernel_rfl) (by kernel_rfl)) ?_
      refine WPI.run 1 ⟨#[TRank.val p1, TRank.val p2, vp b3 0, vp b7 0, vi 0, vp b3 0, vi p1.Dist, vp b7 0, vi p2.Dist, vb false, vp b3 0, vi p1.Dist, vp b7 0, vi p2.Dist, vb false, vp b3 1, TU256.val p1.Tip, vp b7 1, Z, Z], []⟩ w9 (fun K => by kernel_rfl) ?_
      refine WPI.value (v := TU256.val p2.Tip) rfl (by kernel_rfl) (ev_loadBox H10 0 rfl 29 (.tmp 17) 1 (TU256.val p2.Tip) rfl (by kernel_rfl) (by kernel_rfl)) ?_
      obtain ⟨t13, ht13, h⟩ := bd_some h
      refine WPI.run 0 ⟨#[TRank.val p1, TRank.val p2, vp b3 0, vp b7 0, vi 0, vp b3 0, vi p1.Dist, vp b7 0, vi p2.Dist, vb false, vp b3 0, vi p1.Dist, vp b7 0, vi p2.Dist, vb false, vp b3 1, TU256.val p1.Tip, vp b7 1, TU256.val p2.Tip, Z], []⟩ w9 (fun K => by kernel_rfl) ?_
      refine WPI.op rfl (Op1.call (by kernel_rfl) (by kernel_rfl) (g_tarnref1_Cmp_w fuel p1.Tip p2.Tip t13 ht13 _) ?_)
      rintro _ w14 ⟨rfl, Hc15⟩
      have H16 := St.call0' H10 Hc15
      clear H10 Hc15
      refine WPI.run 1 ⟨#[TRank.val p1, TRank.val p2, vp b3 0, vp b7 0, vi t13, vp b3 0, vi p1.Dist, vp b7 0, vi p2.Dist, vb false, vp b3 0, vi p1.Dist, vp b7 0, vi p2.Dist, vb false, vp b3 1, TU256.val p1.Tip, vp b7 1, TU256.val p2.Tip, vi t13], []⟩ w14 (fun K => by kernel_rfl) ?_
      refine WPI.done rfl ?_
      refine then_n ?_
      refine WP.ret ?_
      obtain rfl := Option.some.inj h
      exact post_r (vi t13) rfl (by kernel_rfl) ⟨rfl, St.sel H16 [] (by decide) rfl⟩
    | true =>
      replace h := br_t h
      refine WP.condT (by kernel_rfl) ?_
      refine WP.seq ?_
      refine WP.region ?_
      refine WPI.run 1 ⟨#[TRank.val p1, TRank.val p2, vp b3 0, vp b7 0, vi 1, vp b3 0, vi p1.Dist, vp b7 0, vi p2.Dist, vb false, vp b3 0, vi p1.Dist, vp b7 0, vi p2.Dist, vb true, Z, Z, Z, Z, Z], []⟩ w9 (fun K => by kernel_rfl) ?_
      refine WPI.done rfl ?_
      refine then_n ?_
      refine WP.ret ?_
      obtain rfl := Option.some.inj h
      exact then_r (post_r (vi 1) rfl (by kernel_rfl) ⟨rfl, St.sel H10 [] (by decide) rfl⟩)
  | true =>
    replace h := br_t h
    refine WP.condT (by kernel_rfl) ?_
    refine WP.seq ?_
    refine WP.region ?_
    refine WPI.run 1 ⟨#[TRank.val p1, TRank.val p2, vp b3 0, vp b7 0, vi ((-1)), vp b3 0, vi p1.Dist, vp b7 0, vi p2.Dist, vb true, Z, Z, Z, Z, Z, Z, Z, Z, Z, Z], []⟩ w9 (fun K => by kernel_rfl) ?_
    refine WPI.done rfl ?_
    refine then_n ?_
    refine WP.ret ?_
    obtain rfl := Option.some.inj h
    exact then_r (post_r (vi ((-1))) rfl (by kernel_rfl) ⟨rfl, St.sel H10 [] (by decide) rfl⟩)
/- tarn/tarnref12.Below -/
def g_tarnref12_Below (fuel : Nat) (p1 : TNode) (p2 : TNode) : Option Bool :=
  bd (g_tarnref12_Cmp fuel p1.Rank p2.Rank) fun t11 => jn (fun (c15 : Bool) => some c15) fun K29 => lt (decide (t11 < 0)) fun c30 => br c30 (K29 true) (lt (t11 == 0) fun c31 => br c31 (lt (decide (p1.Acct < p2.Acct)) fun c32 => K29 c32) (K29 false))
theorem g_tarnref12_Below_w (fuel : Nat) (p1 : TNode) (p2 : TNode) (r : Bool) (h : g_tarnref12_Below fuel p1 p2 = some r) (w0 : World) :
    Ret Try.prog 22 #[TNode.val p1, TNode.val p2] w0 (fun v w' => v = vb r ∧ St no w0 w' []) := by
  unfold g_tarnref12_Below at h
  refine ret_of_wp Try.func22 rfl #[TNode.val p1, TNode.val p2, Z, Z, Z, Z, Z, Z, Z, Z, Z, Z, Z, Z, Z, Z, Z, Z, Z, Z, Z, Z, Z, Z] (by kernel_rfl) ?_
  have H0 := St.start w0
  refine WP.seq ?_
  refine WP.region ?_
  refine WPI.op rfl (Op1.box H0 (TNode.cs p1).toArray (by kernel_rfl) 33 (.tmp 0) rfl (by kernel_rfl) (fun b3 w5 H6 => ?_))
  refine WPI.run 0 ⟨#[TNode.val p1, TNode.val p2, vp b3 0, Z, Z, Z, Z, Z, Z, Z, Z, Z, Z, Z, Z, Z, Z, Z, Z, Z, Z, Z, Z, Z], []⟩ w5 (fun K => by kernel_rfl) ?_
  refine WPI.op rfl (Op1.box H6 (TNode.cs p2).toArray (by kernel_rfl) 33 (.tmp 1) rfl (by kernel_rfl) (fun b7 w9 H10 => ?_))
  clear H6
  refine WPI.run 1 ⟨#[TNode.val p1, TNode.val p2, vp b3 0, vp b7 0, vb false, Z, Z, Z, Z, Z, Z, Z, Z, Z, Z, Z, Z, Z, Z, Z, Z, Z, Z, Z], []⟩ w9 (fun K => by kernel_rfl) ?_
  refine WPI.done rfl ?_
  refine then_n ?_
  refine WP.seq ?_
  refine WP.region ?_
  refine WPI.run 1 ⟨#[TNode.val p1, TNode.val p2, vp b3 0, vp b7 0, vb false, Z, vp b3 1, Z, Z, Z, Z, Z, Z, Z, Z, Z, Z, Z, Z, Z, Z, Z, Z, Z], []⟩ w9 (fun K => by kernel_rfl) ?_
  refine WPI.value (v := TRank.val p1.Rank) rfl (by kernel_rfl) (ev_loadBox H10 1 rfl 31 (.tmp 6) 1 (TRank.val p1.Rank) rfl (by kernel_rfl) (by kernel_rfl)) ?_
  refine WPI.run 1 ⟨#[TNode.val p1, TNode.val p2, vp b3 0, vp b7 0, vb false, Z, vp b3 1, TRank.val p1.Rank, vp b7 1, Z, Z, Z, Z, Z, Z, Z, Z, Z, Z, Z, Z, Z, Z, Z], []⟩ w9 (fun K => by kernel_rfl) ?_
  refine WPI.value (v := TRank.val p2.Rank) rfl (by kernel_rfl) (ev_loadBox H10 0 rfl 31 (.tmp 8) 1 (TRank.val p2.Rank) rfl (by kernel_rfl) (by kernel_rfl)) ?_
  obtain ⟨t11, ht11, h⟩ := bd_some h
  refine WPI.run 0 ⟨#[TNode.val p1, TNode.val p2, vp b3 0, vp b7 0, vb false, Z, vp b3 1, TRank.val p1.Rank, vp b7 1, TRank.val p2.Rank, Z, Z, Z, Z, Z, Z, Z, Z, Z, Z, Z, Z, Z, Z], []⟩ w9 (fun K => by kernel_rfl) ?_
  refine WPI.op rfl (Op1.call (by kernel_rfl) (by kernel_rfl) (g_tarnref12_Cmp_w fuel p1.Rank p2.Rank t11 ht11 _) ?_)
  rintro _ w12 ⟨rfl, Hc13⟩
  have H14 := St.call0' H10 Hc13
  clear H10 Hc13
  refine WPI.run 1 ⟨#[TNode.val p1, TNode.val p2, vp b3 0, vp b7 0, vb false, vi t11, vp b3 1, TRank.val p1.Rank, vp b7 1, TRank.val p2.Rank, vi t11, Z, Z, Z, Z, Z, Z, Z, Z, Z, Z, Z, Z, Z], []⟩ w12 (fun K => by kernel_rfl) ?_
  refine WPI.done rfl ?_
  refine then_n ?_
  refine WP.seq ?_
  obtain ⟨K29, hK29, h⟩ := jn_some h
  refine WP.onlyN (fun a w => ∃ (c15 : Bool) (g16 : Value) (g17 : Value) (g18 : Value) (g19 : Value) (g20 : Value) (g21 : Value) (g22 : Value) (g23 : Value) (g24 : Value) (g25 : Value) (g26 : Value) (g27 : Value) (g28 : Value), a = ⟨#[TNode.val p1, TNode.val p2, vp b3 0, vp b7 0, vb c15, vi t11, vp b3 1, TRank.val p1.Rank, vp b7 1, TRank.val p2.Rank, vi t11, g16, g17, g18, g19, g20, g21, g22, g23, g24, g25, g26, g27, g28], []⟩ ∧ St no w0 w [Box b7 (TNode.cs p2).toArray 33, Box b3 (TNode.cs p1).toArray 33] ∧ K29 c15 = some r) ?_ ?_
  · skip
    refine WP.region ?_
    obtain ⟨c30, hc30, h⟩ := lt_some h
    refine WPI.run 3 ⟨#[TNode.val p1, TNode.val p2, vp b3 0, vp b7 0, vb false, vi t11, vp b3 1, TRank.val p1.Rank, vp b7 1, TRank.val p2.Rank, vi t11, vi t11, vb c30, vb c30, Z, Z, Z, Z, Z, Z, Z, Z, Z, Z], []⟩ w12 (fun K => by subst hc30; kernel_rfl) ?_
    cases c30 with
    | false =>
      replace h := br_f h
      obtain ⟨c31, hc31, h⟩ := lt_some h
      refine WPI.run 3 ⟨#[TNode.val p1, TNode.val p2, vp b3 0, vp b7 0, vb false, vi t11, vp b3 1, TRank.val p1.Rank, vp b7 1, TRank.val p2.Rank, vi t11, vi t11, vb false, vb false, vi t11, vb c31, vb c31, Z, Z, Z, Z, Z, Z, Z], []⟩ w12 (fun K => by subst hc31; kernel_rfl) ?_
      cases c31 with
      | false =>
        replace h := br_f h
        refine WPI.run 8 ⟨#[TNode.val p1, TNode.val p2, vp b3 0, vp b7 0, vb false, vi t11, vp b3 1, TRank.val p1.Rank, vp b7 1, TRank.val p2.Rank, vi t11, vi t11, vb false, vb false, vi t11, vb false, vb false, Z, Z, Z, Z, Z, vb false, vb false], []⟩ w12 (fun K => by kernel_rfl) ?_
        refine WPI.done rfl ?_
        exact ⟨false, _, _, _, _, _, _, _, _, _, _, _, _, _, rfl, St.sel H14 [0, 1] (by decide) rfl, h⟩
      | true =>
        replace h := br_t h
        refine WPI.run 1 ⟨#[TNode.val p1, TNode.val p2, vp b3 0, vp b7 0, vb false, vi t11, vp b3 1, TRank.val p1.Rank, vp b7 1, TRank.val p2.Rank, vi t11, vi t11, vb false, vb false, vi t11, vb true, vb true, vp b3 0, Z, Z, Z, Z, Z, Z], []⟩ w12 (fun K => by kernel_rfl) ?_
        refine WPI.value (v := vi p1.Acct) rfl (by kernel_rfl) (ev_loadBox H14 1 rfl 3 (.tmp 17) 0 (vi p1.Acct) rfl (by kernel_rfl) (by kernel_rfl)) ?_
        refine WPI.run 1 ⟨#[TNode.val p1, TNode.val p2, vp b3 0, vp b7 0, vb false, vi t11, vp b3 1, TRank.val p1.Rank, vp b7 1, TRank.val p2.Rank, vi t11, vi t11, vb false, vb false, vi t11, vb true, vb true, vp b3 0, vi p1.Acct, vp b7 0, Z, Z, Z, Z], []⟩ w12 (fun K => by kernel_rfl) ?_
        refine WPI.value (v := vi p2.Acct) rfl (by kernel_rfl) (ev_loadBox H14 0 rfl 3 (.tmp 19) 0 (vi p2.Acct) rfl (by kernel_rfl) (by kernel_rfl)) ?_
        obtain ⟨c32, hc32, h⟩ := lt_some h
        refine WPI.run 4 ⟨#[TNode.val p1, TNode.val p2, vp b3 0, vp b7 0, vb c32, vi t11, vp b3 1, TRank.val p1.Rank, vp b7 1, TRank.val p2.Rank, vi t11, vi t11, vb false, vb false, vi t11, vb true, vb true, vp b3 0, vi p1.Acct, vp b7 0, vi p2.Acct, vb c32, vb c32, vb c32], []⟩ w12 (fun K => by subst hc32; kernel_rfl) ?_
        refine WPI.done rfl ?_
        exact ⟨c32, _, _, _, _, _, _, _, _, _, _, _, _, _, rfl, St.sel H14 [0, 1] (by decide) rfl, h⟩
    | true =>
      replace h := br_t h
      refine WPI.run 11 ⟨#[TNode.val p1, TNode.val p2, vp b3 0, vp b7 0, vb true, vi t11, vp b3 1, TRank.val p1.Rank, vp b7 1, TRank.val p2.Rank, vi t11, vi t11, vb true, vb true, Z, Z, Z, Z, Z, Z, Z, Z, Z, vb true], []⟩ w12 (fun K => by kernel_rfl) ?_
      refine WPI.done rfl ?_
      exact ⟨true, _, _, _, _, _, _, _, _, _, _, _, _, _, rfl, St.sel H14 [0, 1] (by decide) rfl, h⟩
  · rintro a w ⟨c15, g16, g17, g18, g19, g20, g21, g22, g23, g24, g25, g26, g27, g28, rfl, H, h⟩
    subst hK29
    obtain ⟨w33, rfl⟩ : ∃ x, x = w := ⟨_, rfl⟩
    have H34 := H; clear H
    refine then_n ?_
    refine WP.ret ?_
    obtain rfl := Option.some.inj h
    exact post_r (vb c15) rfl (by kernel_rfl) ⟨rfl, St.sel H34 [] (by decide) rfl⟩
end Go.Proofs
