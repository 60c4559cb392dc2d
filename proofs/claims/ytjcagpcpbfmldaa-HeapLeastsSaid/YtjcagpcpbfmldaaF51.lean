import Derived.Test.YtjcagpcpbfmldaaGw
import Derived.Test.YtjcagpcpbfmldaaProg
import Derived.Test.YtjcagpcpbfmldaaT
import Derived.Test.YtjcagpcpbfmldaaF54
set_option linter.unusedVariables false
set_option linter.unusedSimpArgs false
set_option maxRecDepth 100000
set_option maxHeartbeats 4000000
namespace Go.Proofs
open Gw Go.RowKit
/- tarn/rank.Cmp -/
def g_rank_Cmp (fuel : Nat) (p1 : TRank) (p2 : TRank) : Option Int :=
  lt (decide (p1.Dist < p2.Dist)) fun c11 => br c11 (some ((-1))) (lt (decide (p1.Dist > p2.Dist)) fun c12 => br c12 (some 1) (bd (g_u256_Cmp fuel p1.Tip p2.Tip) fun t13 => some t13))
theorem g_rank_Cmp_w (fuel : Nat) (p1 : TRank) (p2 : TRank) (r : Int) (h : g_rank_Cmp fuel p1 p2 = some r) (w0 : World) :
    Ret Try.prog 51 #[TRank.val p1, TRank.val p2] w0 (fun v w' => v = vi r ∧ St no w0 w' []) := by
  unfold g_rank_Cmp at h
  refine ret_of_wp Try.func51 rfl #[TRank.val p1, TRank.val p2, Z, Z, Z, Z, Z, Z, Z, Z, Z, Z, Z, Z, Z, Z, Z, Z, Z, Z, Z, Z] (by kernel_rfl) ?_
  have H0 := St.start w0
  refine WP.seq ?_
  refine WP.region ?_
  refine WPI.op rfl (Op1.box H0 (TRank.cs p1).toArray (by kernel_rfl) 31 (.tmp 0) rfl (by kernel_rfl) (fun b3 w5 H6 => ?_))
  refine WPI.run 0 ⟨#[TRank.val p1, TRank.val p2, vp b3 0, Z, Z, Z, Z, Z, Z, Z, Z, Z, Z, Z, Z, Z, Z, Z, Z, Z, Z, Z], []⟩ w5 (fun K => by kernel_rfl) ?_
  refine WPI.op rfl (Op1.box H6 (TRank.cs p2).toArray (by kernel_rfl) 31 (.tmp 1) rfl (by kernel_rfl) (fun b7 w9 H10 => ?_))
  clear H6
  refine WPI.run 1 ⟨#[TRank.val p1, TRank.val p2, vp b3 0, vp b7 0, vi 0, Z, Z, Z, Z, Z, Z, Z, Z, Z, Z, Z, Z, Z, Z, Z, Z, Z], []⟩ w9 (fun K => by kernel_rfl) ?_
  refine WPI.done rfl ?_
  refine then_n ?_
  refine WP.seq ?_
  refine WP.block ?_
  refine WP.seq ?_
  refine WP.region ?_
  refine WPI.run 1 ⟨#[TRank.val p1, TRank.val p2, vp b3 0, vp b7 0, vi 0, Z, vp b3 0, Z, Z, Z, Z, Z, Z, Z, Z, Z, Z, Z, Z, Z, Z, Z], []⟩ w9 (fun K => by kernel_rfl) ?_
  refine WPI.value (v := vi p1.Dist) rfl (by kernel_rfl) (ev_loadBox H10 1 rfl 3 (.tmp 6) 0 (vi p1.Dist) rfl (by kernel_rfl) (by kernel_rfl)) ?_
  refine WPI.run 1 ⟨#[TRank.val p1, TRank.val p2, vp b3 0, vp b7 0, vi 0, Z, vp b3 0, vi p1.Dist, vp b7 0, Z, Z, Z, Z, Z, Z, Z, Z, Z, Z, Z, Z, Z], []⟩ w9 (fun K => by kernel_rfl) ?_
  refine WPI.value (v := vi p2.Dist) rfl (by kernel_rfl) (ev_loadBox H10 0 rfl 3 (.tmp 8) 0 (vi p2.Dist) rfl (by kernel_rfl) (by kernel_rfl)) ?_
  obtain ⟨c11, hc11, h⟩ := lt_some h
  refine WPI.run 2 ⟨#[TRank.val p1, TRank.val p2, vp b3 0, vp b7 0, vi 0, vb c11, vp b3 0, vi p1.Dist, vp b7 0, vi p2.Dist, vb c11, Z, Z, Z, Z, Z, Z, Z, Z, Z, Z, Z], []⟩ w9 (fun K => by subst hc11; kernel_rfl) ?_
  refine WPI.done rfl ?_
  refine then_n ?_
  cases c11 with
  | false =>
    replace h := br_f h
    refine WP.condF (by kernel_rfl) ?_
    refine WP.seq ?_
    refine WP.region ?_
    refine WPI.run 1 ⟨#[TRank.val p1, TRank.val p2, vp b3 0, vp b7 0, vi 0, vb false, vp b3 0, vi p1.Dist, vp b7 0, vi p2.Dist, vb false, Z, vp b3 0, Z, Z, Z, Z, Z, Z, Z, Z, Z], []⟩ w9 (fun K => by kernel_rfl) ?_
    refine WPI.value (v := vi p1.Dist) rfl (by kernel_rfl) (ev_loadBox H10 1 rfl 3 (.tmp 12) 0 (vi p1.Dist) rfl (by kernel_rfl) (by kernel_rfl)) ?_
    refine WPI.run 1 ⟨#[TRank.val p1, TRank.val p2, vp b3 0, vp b7 0, vi 0, vb false, vp b3 0, vi p1.Dist, vp b7 0, vi p2.Dist, vb false, Z, vp b3 0, vi p1.Dist, vp b7 0, Z, Z, Z, Z, Z, Z, Z], []⟩ w9 (fun K => by kernel_rfl) ?_
    refine WPI.value (v := vi p2.Dist) rfl (by kernel_rfl) (ev_loadBox H10 0 rfl 3 (.tmp 14) 0 (vi p2.Dist) rfl (by kernel_rfl) (by kernel_rfl)) ?_
    obtain ⟨c12, hc12, h⟩ := lt_some h
    refine WPI.run 2 ⟨#[TRank.val p1, TRank.val p2, vp b3 0, vp b7 0, vi 0, vb false, vp b3 0, vi p1.Dist, vp b7 0, vi p2.Dist, vb false, vb c12, vp b3 0, vi p1.Dist, vp b7 0, vi p2.Dist, vb c12, Z, Z, Z, Z, Z], []⟩ w9 (fun K => by subst hc12; kernel_rfl) ?_
    refine WPI.done rfl ?_
    refine then_n ?_
    cases c12 with
    | false =>
      replace h := br_f h
      refine WP.condF (by kernel_rfl) ?_
      refine WP.skip ?_
      refine inb_n (then_n ?_)
      refine WP.seq ?_
      refine WP.region ?_
      refine WPI.run 1 ⟨#[TRank.val p1, TRank.val p2, vp b3 0, vp b7 0, vi 0, vb false, vp b3 0, vi p1.Dist, vp b7 0, vi p2.Dist, vb false, vb false, vp b3 0, vi p1.Dist, vp b7 0, vi p2.Dist, vb false, vp b3 1, Z, Z, Z, Z], []⟩ w9 (fun K => by kernel_rfl) ?_
      refine WPI.value (v := TU256.val p1.Tip) rfl (by kernel_rfl) (ev_loadBox H10 1 rfl 29 (.tmp 17) 1 (TU256.val p1.Tip) rfl (by kernel_rfl) (by kernel_rfl)) ?_
      refine WPI.run 1 ⟨#[TRank.val p1, TRank.val p2, vp b3 0, vp b7 0, vi 0, vb false, vp b3 0, vi p1.Dist, vp b7 0, vi p2.Dist, vb false, vb false, vp b3 0, vi p1.Dist, vp b7 0, vi p2.Dist, vb false, vp b3 1, TU256.val p1.Tip, vp b7 1, Z, Z], []⟩ w9 (fun K => by kernel_rfl) ?_
      refine WPI.value (v := TU256.val p2.Tip) rfl (by kernel_rfl) (ev_loadBox H10 0 rfl 29 (.tmp 19) 1 (TU256.val p2.Tip) rfl (by kernel_rfl) (by kernel_rfl)) ?_
      obtain ⟨t13, ht13, h⟩ := bd_some h
      refine WPI.run 0 ⟨#[TRank.val p1, TRank.val p2, vp b3 0, vp b7 0, vi 0, vb false, vp b3 0, vi p1.Dist, vp b7 0, vi p2.Dist, vb false, vb false, vp b3 0, vi p1.Dist, vp b7 0, vi p2.Dist, vb false, vp b3 1, TU256.val p1.Tip, vp b7 1, TU256.val p2.Tip, Z], []⟩ w9 (fun K => by kernel_rfl) ?_
      refine WPI.op rfl (Op1.call (by kernel_rfl) (by kernel_rfl) (g_u256_Cmp_w fuel p1.Tip p2.Tip t13 ht13 _) ?_)
      rintro _ w14 ⟨rfl, Hc15⟩
      have H16 := St.call0' H10 Hc15
      clear H10 Hc15
      refine WPI.run 1 ⟨#[TRank.val p1, TRank.val p2, vp b3 0, vp b7 0, vi t13, vb false, vp b3 0, vi p1.Dist, vp b7 0, vi p2.Dist, vb false, vb false, vp b3 0, vi p1.Dist, vp b7 0, vi p2.Dist, vb false, vp b3 1, TU256.val p1.Tip, vp b7 1, TU256.val p2.Tip, vi t13], []⟩ w14 (fun K => by kernel_rfl) ?_
      refine WPI.done rfl ?_
      refine then_n ?_
      refine WP.ret ?_
      obtain rfl := Option.some.inj h
      exact post_r (vi t13) rfl (by kernel_rfl) ⟨rfl, St.sel H16 [] (by decide) rfl⟩
    | true =>
      replace h := br_t h
      refine WP.condT (by kernel_rfl) ?_
      refine WP.seq ?_
      refine WP.region ?_
      refine WPI.run 1 ⟨#[TRank.val p1, TRank.val p2, vp b3 0, vp b7 0, vi 1, vb false, vp b3 0, vi p1.Dist, vp b7 0, vi p2.Dist, vb false, vb true, vp b3 0, vi p1.Dist, vp b7 0, vi p2.Dist, vb true, Z, Z, Z, Z, Z], []⟩ w9 (fun K => by kernel_rfl) ?_
      refine WPI.done rfl ?_
      refine then_n ?_
      refine WP.ret ?_
      obtain rfl := Option.some.inj h
      exact inb_r (then_r (post_r (vi 1) rfl (by kernel_rfl) ⟨rfl, St.sel H10 [] (by decide) rfl⟩))
  | true =>
    replace h := br_t h
    refine WP.condT (by kernel_rfl) ?_
    refine WP.seq ?_
    refine WP.region ?_
    refine WPI.run 1 ⟨#[TRank.val p1, TRank.val p2, vp b3 0, vp b7 0, vi ((-1)), vb true, vp b3 0, vi p1.Dist, vp b7 0, vi p2.Dist, vb true, Z, Z, Z, Z, Z, Z, Z, Z, Z, Z, Z], []⟩ w9 (fun K => by kernel_rfl) ?_
    refine WPI.done rfl ?_
    refine then_n ?_
    refine WP.ret ?_
    obtain rfl := Option.some.inj h
    exact inb_r (then_r (post_r (vi ((-1))) rfl (by kernel_rfl) ⟨rfl, St.sel H10 [] (by decide) rfl⟩))
end Go.Proofs
