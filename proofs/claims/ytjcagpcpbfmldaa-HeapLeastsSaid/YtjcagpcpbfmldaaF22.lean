import Derived.Test.YtjcagpcpbfmldaaGw
import Derived.Test.YtjcagpcpbfmldaaProg
import Derived.Test.YtjcagpcpbfmldaaT
import Derived.Test.YtjcagpcpbfmldaaF35
set_option linter.unusedVariables false
set_option linter.unusedSimpArgs false
set_option maxRecDepth 100000
set_option maxHeartbeats 4000000
namespace Go.Proofs
open Gw Go.RowKit
/- tarn/tarnref12.Below -/
def g_tarnref12_Below (fuel : Nat) (p1 : TNode) (p2 : TNode) : Option Bool :=
  bd (g_tarnref12_Cmp fuel p1.Rank p2.Rank) fun t11 => jn (fun (c15 : Bool) => some c15) fun K29 => lt (decide (t11 < 0)) fun c30 => br c30 (K29 true) (lt (t11 == 0) fun c31 => br c31 (lt (decide (p1.Acct < p2.Acct)) fun c32 => K29 c32) (K29 false))
theorem g_tarnref12_Below_w (fuel : Nat) (p1 : TNode) (p2 : TNode) (r : Bool) (h : g_tarnref12_Below fuel p1 p2 = some r) (w0 : World) :
    Ret Try.prog 22 #[TNode.val p1, TNode.val p2] w0 (fun v w' => v = vb r ∧ St no w0 w' []) := by
  unfold g_tarnref12_Below at h
  refine ret_of_wp Try.func22 rfl #[TNode.val p1, TNode.val p2, Z, Z, Z, Z, Z, Z, Z, Z, Z, Z, Z, Z, Z, Z, Z, Z, Z, Z, Z, Z, Z, Z] (by kernel_rfl) ?_
  have H0 := St.start w0
  refine WP.seq ?_
  refine WP.region ?_
  refine WPI.op rfl (Op1.box H0 (TNode.cs p1).toArray (by kernel_rfl) 33 (.tmp 0) rfl (by kernel_rfl) (fun b3 w5 H6 => ?_))
  refine WPI.run 0 ⟨#[TNode.val p1, TNode.val p2, vp b3 0, Z, Z, Z, Z, Z, Z, Z, Z, Z, Z, Z, Z, Z, Z, Z, Z, Z, Z, Z, Z, Z], []⟩ w5 (fun K => by kernel_rfl) ?_
  refine WPI.op rfl (Op1.box H6 (TNode.cs p2).toArray (by kernel_rfl) 33 (.tmp 1) rfl (by kernel_rfl) (fun b7 w9 H10 => ?_))
  clear H6
  refine WPI.run 1 ⟨#[TNode.val p1, TNode.val p2, vp b3 0, vp b7 0, vb false, Z, Z, Z, Z, Z, Z, Z, Z, Z, Z, Z, Z, Z, Z, Z, Z, Z, Z, Z], []⟩ w9 (fun K => by kernel_rfl) ?_
  refine WPI.done rfl ?_
  refine then_n ?_
  refine WP.seq ?_
  refine WP.region ?_
  refine WPI.run 1 ⟨#[TNode.val p1, TNode.val p2, vp b3 0, vp b7 0, vb false, Z, vp b3 1, Z, Z, Z, Z, Z, Z, Z, Z, Z, Z, Z, Z, Z, Z, Z, Z, Z], []⟩ w9 (fun K => by kernel_rfl) ?_
  refine WPI.value (v := TRank.val p1.Rank) rfl (by kernel_rfl) (ev_loadBox H10 1 rfl 31 (.tmp 6) 1 (TRank.val p1.Rank) rfl (by kernel_rfl) (by kernel_rfl)) ?_
  refine WPI.run 1 ⟨#[TNode.val p1, TNode.val p2, vp b3 0, vp b7 0, vb false, Z, vp b3 1, TRank.val p1.Rank, vp b7 1, Z, Z, Z, Z, Z, Z, Z, Z, Z, Z, Z, Z, Z, Z, Z], []⟩ w9 (fun K => by kernel_rfl) ?_
  refine WPI.value (v := TRank.val p2.Rank) rfl (by kernel_rfl) (ev_loadBox H10 0 rfl 31 (.tmp 8) 1 (TRank.val p2.Rank) rfl (by kernel_rfl) (by kernel_rfl)) ?_
  obtain ⟨t11, ht11, h⟩ := bd_some h
  refine WPI.run 0 ⟨#[TNode.val p1, TNode.val p2, vp b3 0, vp b7 0, vb false, Z, vp b3 1, TRank.val p1.Rank, vp b7 1, TRank.val p2.Rank, Z, Z, Z, Z, Z, Z, Z, Z, Z, Z, Z, Z, Z, Z], []⟩ w9 (fun K => by kernel_rfl) ?_
  refine WPI.op rfl (Op1.call (by kernel_rfl) (by kernel_rfl) (g_tarnref12_Cmp_w fuel p1.Rank p2.Rank t11 ht11 _) ?_)
  rintro _ w12 ⟨rfl, Hc13⟩
  have H14 := St.call0' H10 Hc13
  clear H10 Hc13
  refine WPI.run 1 ⟨#[TNode.val p1, TNode.val p2, vp b3 0, vp b7 0, vb false, vi t11, vp b3 1, TRank.val p1.Rank, vp b7 1, TRank.val p2.Rank, vi t11, Z, Z, Z, Z, Z, Z, Z, Z, Z, Z, Z, Z, Z], []⟩ w12 (fun K => by kernel_rfl) ?_
  refine WPI.done rfl ?_
  refine then_n ?_
  refine WP.seq ?_
  obtain ⟨K29, hK29, h⟩ := jn_some h
  refine WP.onlyN (fun a w => ∃ (c15 : Bool) (g16 g17 g18 g19 g20 g21 g22 g23 g24 g25 g26 g27 g28 : Value), a = ⟨#[TNode.val p1, TNode.val p2, vp b3 0, vp b7 0, vb c15, vi t11, vp b3 1, TRank.val p1.Rank, vp b7 1, TRank.val p2.Rank, vi t11, g16, g17, g18, g19, g20, g21, g22, g23, g24, g25, g26, g27, g28], []⟩ ∧ St no w0 w [Box b7 (TNode.cs p2).toArray 33, Box b3 (TNode.cs p1).toArray 33] ∧ K29 c15 = some r) ?_ ?_
  · skip
    refine WP.region ?_
    obtain ⟨c30, hc30, h⟩ := lt_some h
    refine WPI.run 3 ⟨#[TNode.val p1, TNode.val p2, vp b3 0, vp b7 0, vb false, vi t11, vp b3 1, TRank.val p1.Rank, vp b7 1, TRank.val p2.Rank, vi t11, vi t11, vb c30, vb c30, Z, Z, Z, Z, Z, Z, Z, Z, Z, Z], []⟩ w12 (fun K => by subst hc30; kernel_rfl) ?_
    cases c30 with
    | false =>
      replace h := br_f h
      obtain ⟨c31, hc31, h⟩ := lt_some h
      refine WPI.run 3 ⟨#[TNode.val p1, TNode.val p2, vp b3 0, vp b7 0, vb false, vi t11, vp b3 1, TRank.val p1.Rank, vp b7 1, TRank.val p2.Rank, vi t11, vi t11, vb false, vb false, vi t11, vb c31, vb c31, Z, Z, Z, Z, Z, Z, Z], []⟩ w12 (fun K => by subst hc31; kernel_rfl) ?_
      cases c31 with
      | false =>
        replace h := br_f h
        refine WPI.run 8 ⟨#[TNode.val p1, TNode.val p2, vp b3 0, vp b7 0, vb false, vi t11, vp b3 1, TRank.val p1.Rank, vp b7 1, TRank.val p2.Rank, vi t11, vi t11, vb false, vb false, vi t11, vb false, vb false, Z, Z, Z, Z, Z, vb false, vb false], []⟩ w12 (fun K => by kernel_rfl) ?_
        refine WPI.done rfl ?_
        exact ⟨false, _, _, _, _, _, _, _, _, _, _, _, _, _, rfl, St.sel H14 [0, 1] (by decide) rfl, h⟩
      | true =>
        replace h := br_t h
        refine WPI.run 1 ⟨#[TNode.val p1, TNode.val p2, vp b3 0, vp b7 0, vb false, vi t11, vp b3 1, TRank.val p1.Rank, vp b7 1, TRank.val p2.Rank, vi t11, vi t11, vb false, vb false, vi t11, vb true, vb true, vp b3 0, Z, Z, Z, Z, Z, Z], []⟩ w12 (fun K => by kernel_rfl) ?_
        refine WPI.value (v := vi p1.Acct) rfl (by kernel_rfl) (ev_loadBox H14 1 rfl 3 (.tmp 17) 0 (vi p1.Acct) rfl (by kernel_rfl) (by kernel_rfl)) ?_
        refine WPI.run 1 ⟨#[TNode.val p1, TNode.val p2, vp b3 0, vp b7 0, vb false, vi t11, vp b3 1, TRank.val p1.Rank, vp b7 1, TRank.val p2.Rank, vi t11, vi t11, vb false, vb false, vi t11, vb true, vb true, vp b3 0, vi p1.Acct, vp b7 0, Z, Z, Z, Z], []⟩ w12 (fun K => by kernel_rfl) ?_
        refine WPI.value (v := vi p2.Acct) rfl (by kernel_rfl) (ev_loadBox H14 0 rfl 3 (.tmp 19) 0 (vi p2.Acct) rfl (by kernel_rfl) (by kernel_rfl)) ?_
        obtain ⟨c32, hc32, h⟩ := lt_some h
        refine WPI.run 4 ⟨#[TNode.val p1, TNode.val p2, vp b3 0, vp b7 0, vb c32, vi t11, vp b3 1, TRank.val p1.Rank, vp b7 1, TRank.val p2.Rank, vi t11, vi t11, vb false, vb false, vi t11, vb true, vb true, vp b3 0, vi p1.Acct, vp b7 0, vi p2.Acct, vb c32, vb c32, vb c32], []⟩ w12 (fun K => by subst hc32; kernel_rfl) ?_
        refine WPI.done rfl ?_
        exact ⟨c32, _, _, _, _, _, _, _, _, _, _, _, _, _, rfl, St.sel H14 [0, 1] (by decide) rfl, h⟩
    | true =>
      replace h := br_t h
      refine WPI.run 11 ⟨#[TNode.val p1, TNode.val p2, vp b3 0, vp b7 0, vb true, vi t11, vp b3 1, TRank.val p1.Rank, vp b7 1, TRank.val p2.Rank, vi t11, vi t11, vb true, vb true, Z, Z, Z, Z, Z, Z, Z, Z, Z, vb true], []⟩ w12 (fun K => by kernel_rfl) ?_
      refine WPI.done rfl ?_
      exact ⟨true, _, _, _, _, _, _, _, _, _, _, _, _, _, rfl, St.sel H14 [0, 1] (by decide) rfl, h⟩
  · rintro a w ⟨c15, g16, g17, g18, g19, g20, g21, g22, g23, g24, g25, g26, g27, g28, rfl, H, h⟩
    subst hK29
    obtain ⟨w33, rfl⟩ : ∃ x, x = w := ⟨_, rfl⟩
    have H34 := H; clear H
    refine then_n ?_
    refine WP.ret ?_
    obtain rfl := Option.some.inj h
    exact post_r (vb c15) rfl (by kernel_rfl) ⟨rfl, St.sel H34 [] (by decide) rfl⟩
end Go.Proofs
