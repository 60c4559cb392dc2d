import Derived.Test.YtjcagpcpbfmldaaGw
import Derived.Test.YtjcagpcpbfmldaaProg
import Derived.Test.YtjcagpcpbfmldaaT
import Derived.Test.YtjcagpcpbfmldaaF29
import Derived.Test.YtjcagpcpbfmldaaF25
import Derived.Test.YtjcagpcpbfmldaaF53
set_option linter.unusedVariables false
set_option linter.unusedSimpArgs false
set_option maxRecDepth 100000
set_option maxHeartbeats 4000000
namespace Go.Proofs
open Gw Go.RowKit
/- tarn/tarnref12.Set -/
def g_tarnref12_Set (fuel : Nat) (l2 : List TNode) (p3 : TNode) : Option ((List TNode) × Int) :=
  bd (g_tarnref12_Find fuel l2 p3.Acct) fun t8 => lt (decide (t8 < 0)) fun c12 => br c12 (some ([], 3)) (bd (g_tarnref0_CopyNodes fuel l2) fun t13 => gd ((0 : Int) ≤ t8 ∧ t8 < ((List.length t13 : Nat) : Int)) <| lt (List.set t13 (Int.toNat t8) p3) fun l21 => bd (g_tarnref12_moves fuel l21 t8) fun t24 => some (t24, 0))
theorem g_tarnref12_Set_w (fuel : Nat) (s1 : Value) (l2 : List TNode) (p3 : TNode) (r : (List TNode) × Int) (h : g_tarnref12_Set fuel l2 p3 = some r) (w0 : World) (hs1 : Rd fTNode (hp no w0) s1 l2) :
    Ret Try.prog 39 #[s1, TNode.val p3] w0 (fun v w' => ∃ q0 : Value, v = .tuple #[q0, vi r.2] ∧ St no w0 w' [Own fTNode 33 q0 r.1]) := by
  unfold g_tarnref12_Set at h
  refine ret_of_wp Try.func39 rfl #[s1, TNode.val p3, Z, Z, Z, Z, Z, Z, Z, Z, Z, Z, Z, Z, Z, Z, Z, Z, Z, Z, Z, Z, Z, Z] (by kernel_rfl) ?_
  have H0 := St.start w0
  refine WP.seq ?_
  refine WP.region ?_
  refine WPI.op rfl (Op1.box H0 (TNode.cs p3).toArray (by kernel_rfl) 33 (.tmp 1) rfl (by kernel_rfl) (fun b4 w6 H7 => ?_))
  refine WPI.run 2 ⟨#[s1, TNode.val p3, Z, vp b4 0, vn, vi 0, Z, Z, Z, Z, Z, Z, Z, Z, Z, Z, Z, Z, Z, Z, Z, Z, Z, Z], []⟩ w6 (fun K => by kernel_rfl) ?_
  refine WPI.done rfl ?_
  refine then_n ?_
  refine WP.seq ?_
  refine WP.region ?_
  refine WPI.run 2 ⟨#[s1, TNode.val p3, Z, vp b4 0, vn, vi 0, Z, Z, s1, vp b4 0, Z, Z, Z, Z, Z, Z, Z, Z, Z, Z, Z, Z, Z, Z], []⟩ w6 (fun K => by kernel_rfl) ?_
  refine WPI.value (v := vi p3.Acct) rfl (by kernel_rfl) (ev_loadBox H7 0 rfl 3 (.tmp 9) 0 (vi p3.Acct) rfl (by kernel_rfl) (by kernel_rfl)) ?_
  obtain ⟨t8, ht8, h⟩ := bd_some h
  refine WPI.run 0 ⟨#[s1, TNode.val p3, Z, vp b4 0, vn, vi 0, Z, Z, s1, vp b4 0, vi p3.Acct, Z, Z, Z, Z, Z, Z, Z, Z, Z, Z, Z, Z, Z], []⟩ w6 (fun K => by kernel_rfl) ?_
  refine WPI.op rfl (Op1.call (by kernel_rfl) (by kernel_rfl) (g_tarnref12_Find_w fuel s1 l2 p3.Acct t8 ht8 _ (Rd.arg0 hs1 H7)) ?_)
  rintro _ w9 ⟨rfl, Hc10⟩
  have H11 := St.call0' H7 Hc10
  clear H7 Hc10
  refine WPI.run 1 ⟨#[s1, TNode.val p3, Z, vp b4 0, vn, vi 0, vi t8, Z, s1, vp b4 0, vi p3.Acct, vi t8, Z, Z, Z, Z, Z, Z, Z, Z, Z, Z, Z, Z], []⟩ w9 (fun K => by kernel_rfl) ?_
  refine WPI.done rfl ?_
  refine then_n ?_
  refine WP.seq ?_
  refine WP.seq ?_
  refine WP.region ?_
  obtain ⟨c12, hc12, h⟩ := lt_some h
  refine WPI.run 2 ⟨#[s1, TNode.val p3, Z, vp b4 0, vn, vi 0, vi t8, Z, s1, vp b4 0, vi p3.Acct, vi t8, vi t8, vb c12, Z, Z, Z, Z, Z, Z, Z, Z, Z, Z], []⟩ w9 (fun K => by subst hc12; kernel_rfl) ?_
  refine WPI.done rfl ?_
  refine then_n ?_
  cases c12 with
  | false =>
    replace h := br_f h
    refine WP.condF (by kernel_rfl) ?_
    refine WP.skip ?_
    refine then_n ?_
    refine WP.seq ?_
    refine WP.region ?_
    obtain ⟨t13, ht13, h⟩ := bd_some h
    refine WPI.run 1 ⟨#[s1, TNode.val p3, Z, vp b4 0, vn, vi 0, vi t8, Z, s1, vp b4 0, vi p3.Acct, vi t8, vi t8, vb false, s1, Z, Z, Z, Z, Z, Z, Z, Z, Z], []⟩ w9 (fun K => by kernel_rfl) ?_
    refine WPI.op rfl (Op1.call (by kernel_rfl) (by kernel_rfl) (g_tarnref0_CopyNodes_w fuel s1 l2 t13 ht13 _ (Rd.arg0 hs1 H11)) ?_)
    rintro s14 w17 ⟨_, rfl, Hc18⟩
    have H19 := St.call0 H11 Hc18
    clear H11 Hc18
    have sf16 := Own.isSl (St.get H19 0 rfl)
    refine WPI.run 1 ⟨#[s1, TNode.val p3, Z, vp b4 0, vn, vi 0, vi t8, s14, s1, vp b4 0, vi p3.Acct, vi t8, vi t8, vb false, s1, s14, Z, Z, Z, Z, Z, Z, Z, Z], []⟩ w17 (fun K => by kernel_rfl) ?_
    refine WPI.done rfl ?_
    refine then_n ?_
    refine WP.seq ?_
    refine WP.region ?_
    refine WPI.run 2 ⟨#[s1, TNode.val p3, Z, vp b4 0, vn, vi 0, vi t8, s14, s1, vp b4 0, vi p3.Acct, vi t8, vi t8, vb false, s1, s14, s14, vi t8, Z, Z, Z, Z, Z, Z], []⟩ w17 (fun K => by kernel_rfl) ?_
    refine WPI.value (v := TNode.val p3) rfl (by kernel_rfl) (ev_loadBox H19 1 rfl 33 (.tmp 3) 0 (TNode.val p3) rfl (by kernel_rfl) (by kernel_rfl)) ?_
    obtain ⟨hg20, h⟩ := gd_some h
    refine WPI.run 0 ⟨#[s1, TNode.val p3, Z, vp b4 0, vn, vi 0, vi t8, s14, s1, vp b4 0, vi p3.Acct, vi t8, vi t8, vb false, s1, s14, s14, vi t8, TNode.val p3, Z, Z, Z, Z, Z], []⟩ w17 (fun K => by kernel_rfl) ?_
    refine WPI.value (v := va (slAt s14 6 (Int.toNat t8))) rfl (by kernel_rfl) (ev_index sf16 22 (.tmp 16) (.tmp 17) 33 6 48 .i64 t8 rfl (by kernel_rfl) (by kernel_rfl) (by kernel_rfl) hg20) ?_
    obtain ⟨l21, hl21, h⟩ := lt_some h
    refine WPI.run 0 ⟨#[s1, TNode.val p3, Z, vp b4 0, vn, vi 0, vi t8, s14, s1, vp b4 0, vi p3.Acct, vi t8, vi t8, vb false, s1, s14, s14, vi t8, TNode.val p3, va (slAt s14 6 (Int.toNat t8)), Z, Z, Z, Z], []⟩ w17 (fun K => by kernel_rfl) ?_
    refine WPI.op rfl (Op1.storeOwn H19 0 rfl (by kernel_rfl) 33 (.tmp 19) (.tmp 18) (Int.toNat t8) p3 true rfl (by kernel_rfl) (by kernel_rfl) (by kernel_rfl) (idx_lt hg20) (fun w22 H23 => ?_))
    rw [← hl21] at H23
    clear H19
    refine WPI.run 0 ⟨#[s1, TNode.val p3, Z, vp b4 0, vn, vi 0, vi t8, s14, s1, vp b4 0, vi p3.Acct, vi t8, vi t8, vb false, s1, s14, s14, vi t8, TNode.val p3, va (slAt s14 6 (Int.toNat t8)), Z, Z, Z, Z], []⟩ w22 (fun K => by kernel_rfl) ?_
    refine WPI.done rfl ?_
    refine then_n ?_
    refine WP.seq ?_
    refine WP.region ?_
    obtain ⟨t24, ht24, h⟩ := bd_some h
    refine WPI.run 2 ⟨#[s1, TNode.val p3, Z, vp b4 0, vn, vi 0, vi t8, s14, s1, vp b4 0, vi p3.Acct, vi t8, vi t8, vb false, s1, s14, s14, vi t8, TNode.val p3, va (slAt s14 6 (Int.toNat t8)), s14, vi t8, Z, Z], []⟩ w22 (fun K => by kernel_rfl) ?_
    refine WPI.op rfl (Op1.call (by kernel_rfl) (by kernel_rfl) (g_tarnref12_moves_w fuel s14 l21 t8 t24 ht24 _ (St.get H23 0 rfl)) ?_)
    rintro _ w26 ⟨rfl, Hc27⟩
    have H28 := St.call1 H23 0 rfl Hc27
    clear H23 Hc27
    have sf25 := Own.isSl (St.get H28 0 rfl)
    refine WPI.run 0 ⟨#[s1, TNode.val p3, Z, vp b4 0, vn, vi 0, vi t8, s14, s1, vp b4 0, vi p3.Acct, vi t8, vi t8, vb false, s1, s14, s14, vi t8, TNode.val p3, va (slAt s14 6 (Int.toNat t8)), s14, vi t8, .tuple #[], Z], []⟩ w26 (fun K => by kernel_rfl) ?_
    refine WPI.done rfl ?_
    refine then_n ?_
    refine WP.seq ?_
    refine WP.region ?_
    refine WPI.run 3 ⟨#[s1, TNode.val p3, Z, vp b4 0, s14, vi 0, vi t8, s14, s1, vp b4 0, vi p3.Acct, vi t8, vi t8, vb false, s1, s14, s14, vi t8, TNode.val p3, va (slAt s14 6 (Int.toNat t8)), s14, vi t8, .tuple #[], s14], []⟩ w26 (fun K => by kernel_rfl) ?_
    refine WPI.done rfl ?_
    refine then_n ?_
    refine WP.ret ?_
    obtain rfl := Option.some.inj h
    exact post_r (.tuple #[s14, vi 0]) rfl (by kernel_rfl) ⟨s14, rfl, St.sel H28 [0] (by decide) rfl⟩
  | true =>
    replace h := br_t h
    refine WP.condT (by kernel_rfl) ?_
    refine WP.seq ?_
    refine WP.region ?_
    refine WPI.run 2 ⟨#[s1, TNode.val p3, Z, vp b4 0, vn, vi 3, vi t8, Z, s1, vp b4 0, vi p3.Acct, vi t8, vi t8, vb true, Z, Z, Z, Z, Z, Z, Z, Z, Z, Z], []⟩ w9 (fun K => by kernel_rfl) ?_
    refine WPI.done rfl ?_
    refine then_n ?_
    refine WP.ret ?_
    obtain rfl := Option.some.inj h
    exact then_r (post_r (.tuple #[vn, vi 3]) rfl (by kernel_rfl) ⟨vn, rfl, St.sel (St.nil H11 fTNode 33) [0] (by decide) rfl⟩)
end Go.Proofs
