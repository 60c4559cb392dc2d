import Derived.Test.YtjcagpcpbfmldaaGw
import Derived.Test.YtjcagpcpbfmldaaProg
import Derived.Test.YtjcagpcpbfmldaaT
set_option linter.unusedVariables false
set_option linter.unusedSimpArgs false
set_option maxRecDepth 100000
set_option maxHeartbeats 4000000
namespace Go.Proofs
open Gw Go.RowKit
/- tarn/rank.Check -/
def g_rank_Check (fuel : Nat) (p1 : TRank) : Option Int :=
  jn (fun (c13 : Bool) => br c13 (some 1) (some 0)) fun K14 => lt (decide (p1.Dist < ((-4096)))) fun c15 => br c15 (K14 true) (lt (decide (p1.Dist > 0)) fun c16 => K14 c16)
theorem g_rank_Check_w (fuel : Nat) (p1 : TRank) (r : Int) (h : g_rank_Check fuel p1 = some r) (w0 : World) :
    Ret Try.prog 47 #[TRank.val p1] w0 (fun v w' => v = vi r ∧ St no w0 w' []) := by
  unfold g_rank_Check at h
  refine ret_of_wp Try.func47 rfl #[TRank.val p1, Z, Z, Z, Z, Z, Z, Z, Z, Z, Z] (by kernel_rfl) ?_
  have H0 := St.start w0
  refine WP.seq ?_
  refine WP.region ?_
  refine WPI.op rfl (Op1.box H0 (TRank.cs p1).toArray (by kernel_rfl) 31 (.tmp 0) rfl (by kernel_rfl) (fun b2 w4 H5 => ?_))
  refine WPI.run 1 ⟨#[TRank.val p1, vp b2 0, vi 0, Z, Z, Z, Z, Z, Z, Z, Z], []⟩ w4 (fun K => by kernel_rfl) ?_
  refine WPI.done rfl ?_
  refine then_n ?_
  refine WP.seq ?_
  refine WP.seq ?_
  obtain ⟨K14, hK14, h⟩ := jn_some h
  refine WP.onlyN (fun a w => ∃ (c13 : Bool) (g6 g7 g8 g9 g10 g11 g12 : Value), a = ⟨#[TRank.val p1, vp b2 0, vi 0, g6, g7, g8, g9, g10, g11, g12, vb c13], []⟩ ∧ St no w0 w [Box b2 (TRank.cs p1).toArray 31] ∧ K14 c13 = some r) ?_ ?_
  · skip
    refine WP.region ?_
    refine WPI.run 1 ⟨#[TRank.val p1, vp b2 0, vi 0, vp b2 0, Z, Z, Z, Z, Z, Z, Z], []⟩ w4 (fun K => by kernel_rfl) ?_
    refine WPI.value (v := vi p1.Dist) rfl (by kernel_rfl) (ev_loadBox H5 0 rfl 3 (.tmp 3) 0 (vi p1.Dist) rfl (by kernel_rfl) (by kernel_rfl)) ?_
    obtain ⟨c15, hc15, h⟩ := lt_some h
    refine WPI.run 2 ⟨#[TRank.val p1, vp b2 0, vi 0, vp b2 0, vi p1.Dist, vb c15, vb c15, Z, Z, Z, Z], []⟩ w4 (fun K => by subst hc15; kernel_rfl) ?_
    cases c15 with
    | false =>
      replace h := br_f h
      refine WPI.run 1 ⟨#[TRank.val p1, vp b2 0, vi 0, vp b2 0, vi p1.Dist, vb false, vb false, vp b2 0, Z, Z, Z], []⟩ w4 (fun K => by kernel_rfl) ?_
      refine WPI.value (v := vi p1.Dist) rfl (by kernel_rfl) (ev_loadBox H5 0 rfl 3 (.tmp 7) 0 (vi p1.Dist) rfl (by kernel_rfl) (by kernel_rfl)) ?_
      obtain ⟨c16, hc16, h⟩ := lt_some h
      refine WPI.run 2 ⟨#[TRank.val p1, vp b2 0, vi 0, vp b2 0, vi p1.Dist, vb false, vb false, vp b2 0, vi p1.Dist, vb c16, vb c16], []⟩ w4 (fun K => by subst hc16; kernel_rfl) ?_
      refine WPI.done rfl ?_
      exact ⟨c16, _, _, _, _, _, _, _, rfl, St.sel H5 [0] (by decide) rfl, h⟩
    | true =>
      replace h := br_t h
      refine WPI.run 4 ⟨#[TRank.val p1, vp b2 0, vi 0, vp b2 0, vi p1.Dist, vb true, vb true, Z, Z, Z, vb true], []⟩ w4 (fun K => by kernel_rfl) ?_
      refine WPI.done rfl ?_
      exact ⟨true, _, _, _, _, _, _, _, rfl, St.sel H5 [0] (by decide) rfl, h⟩
  · rintro a w ⟨c13, g6, g7, g8, g9, g10, g11, g12, rfl, H, h⟩
    subst hK14
    obtain ⟨w17, rfl⟩ : ∃ x, x = w := ⟨_, rfl⟩
    have H18 := H; clear H
    refine then_n ?_
    cases c13 with
    | false =>
      replace h := br_f h
      refine WP.condF (by kernel_rfl) ?_
      refine WP.skip ?_
      refine then_n ?_
      refine WP.seq ?_
      refine WP.region ?_
      refine WPI.run 1 ⟨#[TRank.val p1, vp b2 0, vi 0, g6, g7, g8, g9, g10, g11, g12, vb false], []⟩ w17 (fun K => by kernel_rfl) ?_
      refine WPI.done rfl ?_
      refine then_n ?_
      refine WP.ret ?_
      obtain rfl := Option.some.inj h
      exact post_r (vi 0) rfl (by kernel_rfl) ⟨rfl, St.sel H18 [] (by decide) rfl⟩
    | true =>
      replace h := br_t h
      refine WP.condT (by kernel_rfl) ?_
      refine WP.seq ?_
      refine WP.region ?_
      refine WPI.run 1 ⟨#[TRank.val p1, vp b2 0, vi 1, g6, g7, g8, g9, g10, g11, g12, vb true], []⟩ w17 (fun K => by kernel_rfl) ?_
      refine WPI.done rfl ?_
      refine then_n ?_
      refine WP.ret ?_
      obtain rfl := Option.some.inj h
      exact then_r (post_r (vi 1) rfl (by kernel_rfl) ⟨rfl, St.sel H18 [] (by decide) rfl⟩)
end Go.Proofs
