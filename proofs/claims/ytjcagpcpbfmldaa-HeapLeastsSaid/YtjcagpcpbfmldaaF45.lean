import Derived.Test.YtjcagpcpbfmldaaGw
import Derived.Test.YtjcagpcpbfmldaaProg
import Derived.Test.YtjcagpcpbfmldaaT
set_option linter.unusedVariables false
set_option linter.unusedSimpArgs false
set_option maxRecDepth 100000
set_option maxHeartbeats 4000000
namespace Go.Proofs
open Gw Go.RowKit
/- tarn/heap.place$1 -/
def g_heap_place_1 (fuel : Nat) (p1 : TNode) (p3 : Int) : Option Bool :=
  lt (p1.Acct == p3) fun c8 => some c8
theorem g_heap_place_1_w (fuel : Nat) (p1 : TNode) (b2 : Nat) (p3 : Int) (r : Bool) (h : g_heap_place_1 fuel p1 p3 = some r) (w0 : World) (hbb2 : CellsAt (hp no w0) ⟨b2, 0, none⟩ ([vi p3])) :
    Ret Try.prog 45 #[TNode.val p1, vp b2 0] w0 (fun v w' => v = vb r ∧ St no w0 w' []) := by
  unfold g_heap_place_1 at h
  refine ret_of_wp Try.func45 rfl #[TNode.val p1, vp b2 0, Z, Z, Z, Z, Z, Z] (by kernel_rfl) ?_
  have H0 := St.start w0
  refine WP.seq ?_
  refine WP.region ?_
  refine WPI.op rfl (Op1.box H0 (TNode.cs p1).toArray (by kernel_rfl) 33 (.tmp 0) rfl (by kernel_rfl) (fun b4 w6 H7 => ?_))
  refine WPI.run 1 ⟨#[TNode.val p1, vp b2 0, vp b4 0, vb false, Z, Z, Z, Z], []⟩ w6 (fun K => by kernel_rfl) ?_
  refine WPI.done rfl ?_
  refine then_n ?_
  refine WP.seq ?_
  refine WP.region ?_
  refine WPI.run 1 ⟨#[TNode.val p1, vp b2 0, vp b4 0, vb false, vp b4 0, Z, Z, Z], []⟩ w6 (fun K => by kernel_rfl) ?_
  refine WPI.value (v := vi p1.Acct) rfl (by kernel_rfl) (ev_loadBox H7 0 rfl 3 (.tmp 4) 0 (vi p1.Acct) rfl (by kernel_rfl) (by kernel_rfl)) ?_
  refine WPI.run 0 ⟨#[TNode.val p1, vp b2 0, vp b4 0, vb false, vp b4 0, vi p1.Acct, Z, Z], []⟩ w6 (fun K => by kernel_rfl) ?_
  refine WPI.value (v := vi p3) rfl (by kernel_rfl) (ev_load 3 (.tmp 1) 0 (vi p3) hbb2 (St.hp_le H7) rfl (by kernel_rfl) (by kernel_rfl)) ?_
  obtain ⟨c8, hc8, h⟩ := lt_some h
  refine WPI.run 2 ⟨#[TNode.val p1, vp b2 0, vp b4 0, vb c8, vp b4 0, vi p1.Acct, vi p3, vb c8], []⟩ w6 (fun K => by subst hc8; kernel_rfl) ?_
  refine WPI.done rfl ?_
  refine then_n ?_
  refine WP.ret ?_
  obtain rfl := Option.some.inj h
  exact post_r (vb c8) rfl (by kernel_rfl) ⟨rfl, St.sel H7 [] (by decide) rfl⟩
end Go.Proofs
