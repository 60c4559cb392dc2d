import Derived.Test.YtjcagpcpbfmldaaGw
import Derived.Test.YtjcagpcpbfmldaaProg
import Derived.Test.YtjcagpcpbfmldaaT
import Derived.Test.YtjcagpcpbfmldaaF47
set_option linter.unusedVariables false
set_option linter.unusedSimpArgs false
set_option maxRecDepth 100000
set_option maxHeartbeats 4000000
namespace Go.Proofs
open Gw Go.RowKit
/- tarn/heap.may -/
def g_heap_may (fuel : Nat) (p1 : TNode) : Option Bool :=
  jn (fun (c6 : Bool) => some c6) fun K21 => lt (decide (p1.Acct ≥ 0)) fun c22 => br c22 (lt (decide (p1.Acct < 8)) fun c23 => br c23 (bd (g_rank_Check fuel p1.Rank) fun t24 => lt (t24 == 0) fun c28 => K21 c28) (K21 false)) (K21 false)
theorem g_heap_may_w (fuel : Nat) (p1 : TNode) (r : Bool) (h : g_heap_may fuel p1 = some r) (w0 : World) :
    Ret Try.prog 33 #[TNode.val p1] w0 (fun v w' => v = vb r ∧ St no w0 w' []) := by
  unfold g_heap_may at h
  refine ret_of_wp Try.func33 rfl #[TNode.val p1, Z, Z, Z, Z, Z, Z, Z, Z, Z, Z, Z, Z, Z, Z, Z, Z] (by kernel_rfl) ?_
  have H0 := St.start w0
  refine WP.seq ?_
  refine WP.region ?_
  refine WPI.op rfl (Op1.box H0 (TNode.cs p1).toArray (by kernel_rfl) 33 (.tmp 0) rfl (by kernel_rfl) (fun b2 w4 H5 => ?_))
  refine WPI.run 1 ⟨#[TNode.val p1, vp b2 0, vb false, Z, Z, Z, Z, Z, Z, Z, Z, Z, Z, Z, Z, Z, Z], []⟩ w4 (fun K => by kernel_rfl) ?_
  refine WPI.done rfl ?_
  refine then_n ?_
  refine WP.seq ?_
  obtain ⟨K21, hK21, h⟩ := jn_some h
  refine WP.onlyN (fun a w => ∃ (c6 : Bool) (g7 g8 g9 g10 g11 g12 g13 g14 g15 g16 g17 g18 g19 g20 : Value), a = ⟨#[TNode.val p1, vp b2 0, vb c6, g7, g8, g9, g10, g11, g12, g13, g14, g15, g16, g17, g18, g19, g20], []⟩ ∧ St no w0 w [Box b2 (TNode.cs p1).toArray 33] ∧ K21 c6 = some r) ?_ ?_
  · skip
    refine WP.region ?_
    refine WPI.run 1 ⟨#[TNode.val p1, vp b2 0, vb false, vp b2 0, Z, Z, Z, Z, Z, Z, Z, Z, Z, Z, Z, Z, Z], []⟩ w4 (fun K => by kernel_rfl) ?_
    refine WPI.value (v := vi p1.Acct) rfl (by kernel_rfl) (ev_loadBox H5 0 rfl 3 (.tmp 3) 0 (vi p1.Acct) rfl (by kernel_rfl) (by kernel_rfl)) ?_
    obtain ⟨c22, hc22, h⟩ := lt_some h
    refine WPI.run 2 ⟨#[TNode.val p1, vp b2 0, vb false, vp b2 0, vi p1.Acct, vb c22, vb c22, Z, Z, Z, Z, Z, Z, Z, Z, Z, Z], []⟩ w4 (fun K => by subst hc22; kernel_rfl) ?_
    cases c22 with
    | false =>
      replace h := br_f h
      refine WPI.run 11 ⟨#[TNode.val p1, vp b2 0, vb false, vp b2 0, vi p1.Acct, vb false, vb false, Z, Z, Z, vb false, vb false, Z, Z, Z, Z, vb false], []⟩ w4 (fun K => by kernel_rfl) ?_
      refine WPI.done rfl ?_
      exact ⟨false, _, _, _, _, _, _, _, _, _, _, _, _, _, _, rfl, St.sel H5 [0] (by decide) rfl, h⟩
    | true =>
      replace h := br_t h
      refine WPI.run 1 ⟨#[TNode.val p1, vp b2 0, vb false, vp b2 0, vi p1.Acct, vb true, vb true, vp b2 0, Z, Z, Z, Z, Z, Z, Z, Z, Z], []⟩ w4 (fun K => by kernel_rfl) ?_
      refine WPI.value (v := vi p1.Acct) rfl (by kernel_rfl) (ev_loadBox H5 0 rfl 3 (.tmp 7) 0 (vi p1.Acct) rfl (by kernel_rfl) (by kernel_rfl)) ?_
      obtain ⟨c23, hc23, h⟩ := lt_some h
      refine WPI.run 3 ⟨#[TNode.val p1, vp b2 0, vb false, vp b2 0, vi p1.Acct, vb true, vb true, vp b2 0, vi p1.Acct, vb c23, vb c23, vb c23, Z, Z, Z, Z, Z], []⟩ w4 (fun K => by subst hc23; kernel_rfl) ?_
      cases c23 with
      | false =>
        replace h := br_f h
        refine WPI.run 6 ⟨#[TNode.val p1, vp b2 0, vb false, vp b2 0, vi p1.Acct, vb true, vb true, vp b2 0, vi p1.Acct, vb false, vb false, vb false, Z, Z, Z, Z, vb false], []⟩ w4 (fun K => by kernel_rfl) ?_
        refine WPI.done rfl ?_
        exact ⟨false, _, _, _, _, _, _, _, _, _, _, _, _, _, _, rfl, St.sel H5 [0] (by decide) rfl, h⟩
      | true =>
        replace h := br_t h
        refine WPI.run 1 ⟨#[TNode.val p1, vp b2 0, vb false, vp b2 0, vi p1.Acct, vb true, vb true, vp b2 0, vi p1.Acct, vb true, vb true, vb true, vp b2 1, Z, Z, Z, Z], []⟩ w4 (fun K => by kernel_rfl) ?_
        refine WPI.value (v := TRank.val p1.Rank) rfl (by kernel_rfl) (ev_loadBox H5 0 rfl 31 (.tmp 12) 1 (TRank.val p1.Rank) rfl (by kernel_rfl) (by kernel_rfl)) ?_
        obtain ⟨t24, ht24, h⟩ := bd_some h
        refine WPI.run 0 ⟨#[TNode.val p1, vp b2 0, vb false, vp b2 0, vi p1.Acct, vb true, vb true, vp b2 0, vi p1.Acct, vb true, vb true, vb true, vp b2 1, TRank.val p1.Rank, Z, Z, Z], []⟩ w4 (fun K => by kernel_rfl) ?_
        refine WPI.op rfl (Op1.call (by kernel_rfl) (by kernel_rfl) (g_rank_Check_w fuel p1.Rank t24 ht24 _) ?_)
        rintro _ w25 ⟨rfl, Hc26⟩
        have H27 := St.call0' H5 Hc26
        clear H5 Hc26
        obtain ⟨c28, hc28, h⟩ := lt_some h
        refine WPI.run 3 ⟨#[TNode.val p1, vp b2 0, vb c28, vp b2 0, vi p1.Acct, vb true, vb true, vp b2 0, vi p1.Acct, vb true, vb true, vb true, vp b2 1, TRank.val p1.Rank, vi t24, vb c28, vb c28], []⟩ w25 (fun K => by subst hc28; kernel_rfl) ?_
        refine WPI.done rfl ?_
        exact ⟨c28, _, _, _, _, _, _, _, _, _, _, _, _, _, _, rfl, St.sel H27 [0] (by decide) rfl, h⟩
  · rintro a w ⟨c6, g7, g8, g9, g10, g11, g12, g13, g14, g15, g16, g17, g18, g19, g20, rfl, H, h⟩
    subst hK21
    obtain ⟨w29, rfl⟩ : ∃ x, x = w := ⟨_, rfl⟩
    have H30 := H; clear H
    refine then_n ?_
    refine WP.ret ?_
    obtain rfl := Option.some.inj h
    exact post_r (vb c6) rfl (by kernel_rfl) ⟨rfl, St.sel H30 [] (by decide) rfl⟩
end Go.Proofs
