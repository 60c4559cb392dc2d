import Derived.Test.YtjcagpcpbfmldaaGw
import Derived.Test.YtjcagpcpbfmldaaProg
import Derived.Test.YtjcagpcpbfmldaaT
import Derived.Test.YtjcagpcpbfmldaaF42
import Derived.Test.YtjcagpcpbfmldaaF43
set_option linter.unusedVariables false
set_option linter.unusedSimpArgs false
set_option maxRecDepth 100000
set_option maxHeartbeats 4000000
namespace Go.Proofs
open Gw Go.RowKit
/- tarn/tarnref12.Node -/
def g_tarnref12_Node (fuel : Nat) (p1 : TNode) : Option Bool :=
  jn (fun (c6 : Bool) => some c6) fun K15 => bd (g_tarnref0_Num fuel p1.Acct 7) fun t16 => br t16 (bd (g_tarnref12_Rank fuel p1.Rank) fun t20 => K15 t20) (K15 false)
theorem g_tarnref12_Node_w (fuel : Nat) (p1 : TNode) (r : Bool) (h : g_tarnref12_Node fuel p1 = some r) (w0 : World) :
    Ret Try.prog 28 #[TNode.val p1] w0 (fun v w' => v = vb r ∧ St no w0 w' []) := by
  unfold g_tarnref12_Node at h
  refine ret_of_wp Try.func28 rfl #[TNode.val p1, Z, Z, Z, Z, Z, Z, Z, Z, Z, Z] (by kernel_rfl) ?_
  have H0 := St.start w0
  refine WP.seq ?_
  refine WP.region ?_
  refine WPI.op rfl (Op1.box H0 (TNode.cs p1).toArray (by kernel_rfl) 33 (.tmp 0) rfl (by kernel_rfl) (fun b2 w4 H5 => ?_))
  refine WPI.run 1 ⟨#[TNode.val p1, vp b2 0, vb false, Z, Z, Z, Z, Z, Z, Z, Z], []⟩ w4 (fun K => by kernel_rfl) ?_
  refine WPI.done rfl ?_
  refine then_n ?_
  refine WP.seq ?_
  obtain ⟨K15, hK15, h⟩ := jn_some h
  refine WP.onlyN (fun a w => ∃ (c6 : Bool) (g7 g8 g9 g10 g11 g12 g13 g14 : Value), a = ⟨#[TNode.val p1, vp b2 0, vb c6, g7, g8, g9, g10, g11, g12, g13, g14], []⟩ ∧ St no w0 w [Box b2 (TNode.cs p1).toArray 33] ∧ K15 c6 = some r) ?_ ?_
  · skip
    refine WP.region ?_
    refine WPI.run 1 ⟨#[TNode.val p1, vp b2 0, vb false, vp b2 0, Z, Z, Z, Z, Z, Z, Z], []⟩ w4 (fun K => by kernel_rfl) ?_
    refine WPI.value (v := vi p1.Acct) rfl (by kernel_rfl) (ev_loadBox H5 0 rfl 3 (.tmp 3) 0 (vi p1.Acct) rfl (by kernel_rfl) (by kernel_rfl)) ?_
    obtain ⟨t16, ht16, h⟩ := bd_some h
    refine WPI.run 0 ⟨#[TNode.val p1, vp b2 0, vb false, vp b2 0, vi p1.Acct, Z, Z, Z, Z, Z, Z], []⟩ w4 (fun K => by kernel_rfl) ?_
    refine WPI.op rfl (Op1.call (by kernel_rfl) (by kernel_rfl) (g_tarnref0_Num_w fuel p1.Acct 7 t16 ht16 _) ?_)
    rintro _ w17 ⟨rfl, Hc18⟩
    have H19 := St.call0' H5 Hc18
    clear H5 Hc18
    refine WPI.run 1 ⟨#[TNode.val p1, vp b2 0, vb false, vp b2 0, vi p1.Acct, vb t16, vb t16, Z, Z, Z, Z], []⟩ w17 (fun K => by kernel_rfl) ?_
    cases t16 with
    | false =>
      replace h := br_f h
      refine WPI.run 5 ⟨#[TNode.val p1, vp b2 0, vb false, vp b2 0, vi p1.Acct, vb false, vb false, Z, Z, Z, vb false], []⟩ w17 (fun K => by kernel_rfl) ?_
      refine WPI.done rfl ?_
      exact ⟨false, _, _, _, _, _, _, _, _, rfl, St.sel H19 [0] (by decide) rfl, h⟩
    | true =>
      replace h := br_t h
      refine WPI.run 1 ⟨#[TNode.val p1, vp b2 0, vb false, vp b2 0, vi p1.Acct, vb true, vb true, vp b2 1, Z, Z, Z], []⟩ w17 (fun K => by kernel_rfl) ?_
      refine WPI.value (v := TRank.val p1.Rank) rfl (by kernel_rfl) (ev_loadBox H19 0 rfl 31 (.tmp 7) 1 (TRank.val p1.Rank) rfl (by kernel_rfl) (by kernel_rfl)) ?_
      obtain ⟨t20, ht20, h⟩ := bd_some h
      refine WPI.run 0 ⟨#[TNode.val p1, vp b2 0, vb false, vp b2 0, vi p1.Acct, vb true, vb true, vp b2 1, TRank.val p1.Rank, Z, Z], []⟩ w17 (fun K => by kernel_rfl) ?_
      refine WPI.op rfl (Op1.call (by kernel_rfl) (by kernel_rfl) (g_tarnref12_Rank_w fuel p1.Rank t20 ht20 _) ?_)
      rintro _ w21 ⟨rfl, Hc22⟩
      have H23 := St.call0' H19 Hc22
      clear H19 Hc22
      refine WPI.run 2 ⟨#[TNode.val p1, vp b2 0, vb t20, vp b2 0, vi p1.Acct, vb true, vb true, vp b2 1, TRank.val p1.Rank, vb t20, vb t20], []⟩ w21 (fun K => by kernel_rfl) ?_
      refine WPI.done rfl ?_
      exact ⟨t20, _, _, _, _, _, _, _, _, rfl, St.sel H23 [0] (by decide) rfl, h⟩
  · rintro a w ⟨c6, g7, g8, g9, g10, g11, g12, g13, g14, rfl, H, h⟩
    subst hK15
    obtain ⟨w24, rfl⟩ : ∃ x, x = w := ⟨_, rfl⟩
    have H25 := H; clear H
    refine then_n ?_
    refine WP.ret ?_
    obtain rfl := Option.some.inj h
    exact post_r (vb c6) rfl (by kernel_rfl) ⟨rfl, St.sel H25 [] (by decide) rfl⟩
end Go.Proofs
