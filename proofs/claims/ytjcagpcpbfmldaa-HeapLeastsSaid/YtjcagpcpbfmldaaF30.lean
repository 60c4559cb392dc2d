import Derived.Test.YtjcagpcpbfmldaaGw
import Derived.Test.YtjcagpcpbfmldaaProg
import Derived.Test.YtjcagpcpbfmldaaT
import Derived.Test.YtjcagpcpbfmldaaF44
import Derived.Test.YtjcagpcpbfmldaaF45
set_option linter.unusedVariables false
set_option linter.unusedSimpArgs false
set_option maxRecDepth 100000
set_option maxHeartbeats 4000000
namespace Go.Proofs
open Gw Go.RowKit
/- tarn/heap.place -/
def g_heap_place (fuel : Nat) (l2 : List TNode) (p3 : Int) : Option Int :=
  bd (g_slices_IndexFunc_api_Node_api_Node fuel l2 (fun x => g_heap_place_1 fuel x p3)) fun t8 => some t8
theorem g_heap_place_w (fuel : Nat) (s1 : Value) (l2 : List TNode) (p3 : Int) (r : Int) (h : g_heap_place fuel l2 p3 = some r) (w0 : World) (hs1 : Rd fTNode (hp no w0) s1 l2) :
    Ret Try.prog 30 #[s1, vi p3] w0 (fun v w' => v = vi r ∧ St no w0 w' []) := by
  unfold g_heap_place at h
  refine ret_of_wp Try.func30 rfl #[s1, vi p3, Z, Z, Z, Z, Z, Z] (by kernel_rfl) ?_
  have H0 := St.start w0
  refine WP.seq ?_
  refine WP.region ?_
  refine WPI.op rfl (Op1.box H0 #[vi p3] (by kernel_rfl) 3 (.tmp 1) rfl (by kernel_rfl) (fun b4 w6 H7 => ?_))
  refine WPI.run 1 ⟨#[s1, vi p3, Z, vp b4 0, vi 0, Z, Z, Z], []⟩ w6 (fun K => by kernel_rfl) ?_
  refine WPI.done rfl ?_
  refine then_n ?_
  refine WP.seq ?_
  refine WP.region ?_
  obtain ⟨t8, ht8, h⟩ := bd_some h
  refine WPI.run 2 ⟨#[s1, vi p3, Z, vp b4 0, vi 0, s1, Value.func (.func 45) #[] #[vp b4 0], Z], []⟩ w6 (fun K => by kernel_rfl) ?_
  refine WPI.op rfl (Op1.call (by kernel_rfl) (by kernel_rfl) (g_slices_IndexFunc_api_Node_api_Node_w fuel s1 l2 (Value.func (.func 45) #[] #[vp b4 0]) (fun x => g_heap_place_1 fuel x p3) (fun w : World => CellsAt (fun b => w.heap[b]?) ⟨b4, 0, none⟩ ([vi p3])) t8 ht8 _ (Rd.arg0 hs1 H7) (fnOk_mk 45 (fun args w => by kernel_rfl) (fun w w1 hc hb => CellsAt.below hc hb) (fun w x y hc hy => g_heap_place_1_w fuel x b4 p3 y hy w (by rw [hp_no]; exact hc))) (St.boxAt H7 0 rfl)) ?_)
  rintro _ w9 ⟨rfl, Hc10⟩
  have H11 := St.call0' H7 Hc10
  clear H7 Hc10
  refine WPI.run 1 ⟨#[s1, vi p3, Z, vp b4 0, vi t8, s1, Value.func (.func 45) #[] #[vp b4 0], vi t8], []⟩ w9 (fun K => by kernel_rfl) ?_
  refine WPI.done rfl ?_
  refine then_n ?_
  refine WP.ret ?_
  obtain rfl := Option.some.inj h
  exact post_r (vi t8) rfl (by kernel_rfl) ⟨rfl, St.sel H11 [] (by decide) rfl⟩
end Go.Proofs
