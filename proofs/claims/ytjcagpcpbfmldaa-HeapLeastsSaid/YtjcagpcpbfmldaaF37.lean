import Derived.Test.YtjcagpcpbfmldaaGw
import Derived.Test.YtjcagpcpbfmldaaProg
import Derived.Test.YtjcagpcpbfmldaaT
import Derived.Test.YtjcagpcpbfmldaaF51
set_option linter.unusedVariables false
set_option linter.unusedSimpArgs false
set_option maxRecDepth 100000
set_option maxHeartbeats 4000000
namespace Go.Proofs
open Gw Go.RowKit
/- tarn/heap.order -/
def g_heap_order (fuel : Nat) (p1 : TNode) (p2 : TNode) : Option Int :=
  bd (g_rank_Cmp fuel p1.Rank p2.Rank) fun t11 => lt (t11 != 0) fun c15 => br c15 (some t11) (lt (wr .i64 (p1.Acct - p2.Acct)) fun x16 => some x16)
theorem g_heap_order_w (fuel : Nat) (p1 : TNode) (p2 : TNode) (r : Int) (h : g_heap_order fuel p1 p2 = some r) (w0 : World) :
    Ret Try.prog 37 #[TNode.val p1, TNode.val p2] w0 (fun v w' => v = vi r ∧ St no w0 w' []) := by
  unfold g_heap_order at h
  refine ret_of_wp Try.func37 rfl #[TNode.val p1, TNode.val p2, Z, Z, Z, Z, Z, Z, Z, Z, Z, Z, Z, Z, Z, Z, Z, Z, Z] (by kernel_rfl) ?_
  have H0 := St.start w0
  refine WP.seq ?_
  refine WP.region ?_
  refine WPI.op rfl (Op1.box H0 (TNode.cs p1).toArray (by kernel_rfl) 33 (.tmp 0) rfl (by kernel_rfl) (fun b3 w5 H6 => ?_))
  refine WPI.run 0 ⟨#[TNode.val p1, TNode.val p2, vp b3 0, Z, Z, Z, Z, Z, Z, Z, Z, Z, Z, Z, Z, Z, Z, Z, Z], []⟩ w5 (fun K => by kernel_rfl) ?_
  refine WPI.op rfl (Op1.box H6 (TNode.cs p2).toArray (by kernel_rfl) 33 (.tmp 1) rfl (by kernel_rfl) (fun b7 w9 H10 => ?_))
  clear H6
  refine WPI.run 1 ⟨#[TNode.val p1, TNode.val p2, vp b3 0, vp b7 0, vi 0, Z, Z, Z, Z, Z, Z, Z, Z, Z, Z, Z, Z, Z, Z], []⟩ w9 (fun K => by kernel_rfl) ?_
  refine WPI.done rfl ?_
  refine then_n ?_
  refine WP.seq ?_
  refine WP.seq ?_
  refine WP.region ?_
  refine WPI.run 1 ⟨#[TNode.val p1, TNode.val p2, vp b3 0, vp b7 0, vi 0, Z, vp b3 1, Z, Z, Z, Z, Z, Z, Z, Z, Z, Z, Z, Z], []⟩ w9 (fun K => by kernel_rfl) ?_
  refine WPI.value (v := TRank.val p1.Rank) rfl (by kernel_rfl) (ev_loadBox H10 1 rfl 31 (.tmp 6) 1 (TRank.val p1.Rank) rfl (by kernel_rfl) (by kernel_rfl)) ?_
  refine WPI.run 1 ⟨#[TNode.val p1, TNode.val p2, vp b3 0, vp b7 0, vi 0, Z, vp b3 1, TRank.val p1.Rank, vp b7 1, Z, Z, Z, Z, Z, Z, Z, Z, Z, Z], []⟩ w9 (fun K => by kernel_rfl) ?_
  refine WPI.value (v := TRank.val p2.Rank) rfl (by kernel_rfl) (ev_loadBox H10 0 rfl 31 (.tmp 8) 1 (TRank.val p2.Rank) rfl (by kernel_rfl) (by kernel_rfl)) ?_
  obtain ⟨t11, ht11, h⟩ := bd_some h
  refine WPI.run 0 ⟨#[TNode.val p1, TNode.val p2, vp b3 0, vp b7 0, vi 0, Z, vp b3 1, TRank.val p1.Rank, vp b7 1, TRank.val p2.Rank, Z, Z, Z, Z, Z, Z, Z, Z, Z], []⟩ w9 (fun K => by kernel_rfl) ?_
  refine WPI.op rfl (Op1.call (by kernel_rfl) (by kernel_rfl) (g_rank_Cmp_w fuel p1.Rank p2.Rank t11 ht11 _) ?_)
  rintro _ w12 ⟨rfl, Hc13⟩
  have H14 := St.call0' H10 Hc13
  clear H10 Hc13
  refine WPI.run 1 ⟨#[TNode.val p1, TNode.val p2, vp b3 0, vp b7 0, vi 0, vi t11, vp b3 1, TRank.val p1.Rank, vp b7 1, TRank.val p2.Rank, vi t11, Z, Z, Z, Z, Z, Z, Z, Z], []⟩ w12 (fun K => by kernel_rfl) ?_
  refine WPI.done rfl ?_
  refine then_n ?_
  refine WP.seq ?_
  refine WP.region ?_
  obtain ⟨c15, hc15, h⟩ := lt_some h
  refine WPI.run 2 ⟨#[TNode.val p1, TNode.val p2, vp b3 0, vp b7 0, vi 0, vi t11, vp b3 1, TRank.val p1.Rank, vp b7 1, TRank.val p2.Rank, vi t11, vi t11, vb c15, Z, Z, Z, Z, Z, Z], []⟩ w12 (fun K => by subst hc15; kernel_rfl) ?_
  refine WPI.done rfl ?_
  refine then_n ?_
  cases c15 with
  | false =>
    replace h := br_f h
    refine WP.condF (by kernel_rfl) ?_
    refine WP.skip ?_
    refine then_n ?_
    refine WP.seq ?_
    refine WP.region ?_
    refine WPI.run 1 ⟨#[TNode.val p1, TNode.val p2, vp b3 0, vp b7 0, vi 0, vi t11, vp b3 1, TRank.val p1.Rank, vp b7 1, TRank.val p2.Rank, vi t11, vi t11, vb false, Z, vp b3 0, Z, Z, Z, Z], []⟩ w12 (fun K => by kernel_rfl) ?_
    refine WPI.value (v := vi p1.Acct) rfl (by kernel_rfl) (ev_loadBox H14 1 rfl 3 (.tmp 14) 0 (vi p1.Acct) rfl (by kernel_rfl) (by kernel_rfl)) ?_
    refine WPI.run 1 ⟨#[TNode.val p1, TNode.val p2, vp b3 0, vp b7 0, vi 0, vi t11, vp b3 1, TRank.val p1.Rank, vp b7 1, TRank.val p2.Rank, vi t11, vi t11, vb false, Z, vp b3 0, vi p1.Acct, vp b7 0, Z, Z], []⟩ w12 (fun K => by kernel_rfl) ?_
    refine WPI.value (v := vi p2.Acct) rfl (by kernel_rfl) (ev_loadBox H14 0 rfl 3 (.tmp 16) 0 (vi p2.Acct) rfl (by kernel_rfl) (by kernel_rfl)) ?_
    obtain ⟨x16, hx16, h⟩ := lt_some h
    refine WPI.run 2 ⟨#[TNode.val p1, TNode.val p2, vp b3 0, vp b7 0, vi x16, vi t11, vp b3 1, TRank.val p1.Rank, vp b7 1, TRank.val p2.Rank, vi t11, vi t11, vb false, Z, vp b3 0, vi p1.Acct, vp b7 0, vi p2.Acct, vi x16], []⟩ w12 (fun K => by subst hx16; kernel_rfl) ?_
    refine WPI.done rfl ?_
    refine then_n ?_
    refine WP.ret ?_
    obtain rfl := Option.some.inj h
    exact post_r (vi x16) rfl (by kernel_rfl) ⟨rfl, St.sel H14 [] (by decide) rfl⟩
  | true =>
    replace h := br_t h
    refine WP.condT (by kernel_rfl) ?_
    refine WP.seq ?_
    refine WP.region ?_
    refine WPI.run 2 ⟨#[TNode.val p1, TNode.val p2, vp b3 0, vp b7 0, vi t11, vi t11, vp b3 1, TRank.val p1.Rank, vp b7 1, TRank.val p2.Rank, vi t11, vi t11, vb true, vi t11, Z, Z, Z, Z, Z], []⟩ w12 (fun K => by kernel_rfl) ?_
    refine WPI.done rfl ?_
    refine then_n ?_
    refine WP.ret ?_
    obtain rfl := Option.some.inj h
    exact then_r (post_r (vi t11) rfl (by kernel_rfl) ⟨rfl, St.sel H14 [] (by decide) rfl⟩)
end Go.Proofs
