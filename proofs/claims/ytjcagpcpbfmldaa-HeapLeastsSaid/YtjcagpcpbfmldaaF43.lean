import Derived.Test.YtjcagpcpbfmldaaGw
import Derived.Test.YtjcagpcpbfmldaaProg
import Derived.Test.YtjcagpcpbfmldaaT
set_option linter.unusedVariables false
set_option linter.unusedSimpArgs false
set_option maxRecDepth 100000
set_option maxHeartbeats 4000000
namespace Go.Proofs
open Gw Go.RowKit
/- tarn/tarnref12.Rank -/
def g_tarnref12_Rank (fuel : Nat) (p1 : TRank) : Option Bool :=
  jn (fun (c6 : Bool) => some c6) fun K15 => lt (decide (p1.Dist ≥ ((-4096)))) fun c16 => br c16 (lt (decide (p1.Dist ≤ 0)) fun c17 => K15 c17) (K15 false)
theorem g_tarnref12_Rank_w (fuel : Nat) (p1 : TRank) (r : Bool) (h : g_tarnref12_Rank fuel p1 = some r) (w0 : World) :
    Ret Try.prog 43 #[TRank.val p1] w0 (fun v w' => v = vb r ∧ St no w0 w' []) := by
  unfold g_tarnref12_Rank at h
  refine ret_of_wp Try.func43 rfl #[TRank.val p1, Z, Z, Z, Z, Z, Z, Z, Z, Z, Z] (by kernel_rfl) ?_
  have H0 := St.start w0
  refine WP.seq ?_
  refine WP.region ?_
  refine WPI.op rfl (Op1.box H0 (TRank.cs p1).toArray (by kernel_rfl) 31 (.tmp 0) rfl (by kernel_rfl) (fun b2 w4 H5 => ?_))
  refine WPI.run 1 ⟨#[TRank.val p1, vp b2 0, vb false, Z, Z, Z, Z, Z, Z, Z, Z], []⟩ w4 (fun K => by kernel_rfl) ?_
  refine WPI.done rfl ?_
  refine then_n ?_
  refine WP.seq ?_
  obtain ⟨K15, hK15, h⟩ := jn_some h
  refine WP.onlyN (fun a w => ∃ (c6 : Bool) (g7 g8 g9 g10 g11 g12 g13 g14 : Value), a = ⟨#[TRank.val p1, vp b2 0, vb c6, g7, g8, g9, g10, g11, g12, g13, g14], []⟩ ∧ St no w0 w [Box b2 (TRank.cs p1).toArray 31] ∧ K15 c6 = some r) ?_ ?_
  · skip
    refine WP.region ?_
    refine WPI.run 1 ⟨#[TRank.val p1, vp b2 0, vb false, vp b2 0, Z, Z, Z, Z, Z, Z, Z], []⟩ w4 (fun K => by kernel_rfl) ?_
    refine WPI.value (v := vi p1.Dist) rfl (by kernel_rfl) (ev_loadBox H5 0 rfl 3 (.tmp 3) 0 (vi p1.Dist) rfl (by kernel_rfl) (by kernel_rfl)) ?_
    obtain ⟨c16, hc16, h⟩ := lt_some h
    refine WPI.run 2 ⟨#[TRank.val p1, vp b2 0, vb false, vp b2 0, vi p1.Dist, vb c16, vb c16, Z, Z, Z, Z], []⟩ w4 (fun K => by subst hc16; kernel_rfl) ?_
    cases c16 with
    | false =>
      replace h := br_f h
      refine WPI.run 5 ⟨#[TRank.val p1, vp b2 0, vb false, vp b2 0, vi p1.Dist, vb false, vb false, Z, Z, Z, vb false], []⟩ w4 (fun K => by kernel_rfl) ?_
      refine WPI.done rfl ?_
      exact ⟨false, _, _, _, _, _, _, _, _, rfl, St.sel H5 [0] (by decide) rfl, h⟩
    | true =>
      replace h := br_t h
      refine WPI.run 1 ⟨#[TRank.val p1, vp b2 0, vb false, vp b2 0, vi p1.Dist, vb true, vb true, vp b2 0, Z, Z, Z], []⟩ w4 (fun K => by kernel_rfl) ?_
      refine WPI.value (v := vi p1.Dist) rfl (by kernel_rfl) (ev_loadBox H5 0 rfl 3 (.tmp 7) 0 (vi p1.Dist) rfl (by kernel_rfl) (by kernel_rfl)) ?_
      obtain ⟨c17, hc17, h⟩ := lt_some h
      refine WPI.run 3 ⟨#[TRank.val p1, vp b2 0, vb c17, vp b2 0, vi p1.Dist, vb true, vb true, vp b2 0, vi p1.Dist, vb c17, vb c17], []⟩ w4 (fun K => by subst hc17; kernel_rfl) ?_
      refine WPI.done rfl ?_
      exact ⟨c17, _, _, _, _, _, _, _, _, rfl, St.sel H5 [0] (by decide) rfl, h⟩
  · rintro a w ⟨c6, g7, g8, g9, g10, g11, g12, g13, g14, rfl, H, h⟩
    subst hK15
    obtain ⟨w18, rfl⟩ : ∃ x, x = w := ⟨_, rfl⟩
    have H19 := H; clear H
    refine then_n ?_
    refine WP.ret ?_
    obtain rfl := Option.some.inj h
    exact post_r (vb c6) rfl (by kernel_rfl) ⟨rfl, St.sel H19 [] (by decide) rfl⟩
end Go.Proofs
