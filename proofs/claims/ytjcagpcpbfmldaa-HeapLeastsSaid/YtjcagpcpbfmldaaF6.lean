import Derived.Test.YtjcagpcpbfmldaaGw
import Derived.Test.YtjcagpcpbfmldaaProg
import Derived.Test.YtjcagpcpbfmldaaT
import Derived.Test.YtjcagpcpbfmldaaF17
set_option linter.unusedVariables false
set_option linter.unusedSimpArgs false
set_option maxRecDepth 100000
set_option maxHeartbeats 4000000
namespace Go.Proofs
open Gw Go.RowKit
/- tarn/tarnlaw13.HeapDrops -/
def g_tarnlaw13_HeapDrops (fuel : Nat) (l2 : List TNode) (l4 : List Ttarnlaw13_Act) : Option Bool :=
  bd (g_tarnlaw13_only fuel l2 l4 4) fun t9 => some t9
theorem g_tarnlaw13_HeapDrops_w (fuel : Nat) (s1 : Value) (l2 : List TNode) (s3 : Value) (l4 : List Ttarnlaw13_Act) (r : Bool) (h : g_tarnlaw13_HeapDrops fuel l2 l4 = some r) (w0 : World) (hs1 : Rd fTNode (hp no w0) s1 l2) (hs3 : Rd fTtarnlaw13_Act (hp no w0) s3 l4) :
    Ret Try.prog 6 #[.agg #[s1, s3]] w0 (fun v w' => v = vb r ∧ St no w0 w' []) := by
  unfold g_tarnlaw13_HeapDrops at h
  refine ret_of_wp Try.func6 rfl #[.agg #[s1, s3], Z, Z, Z, Z] (by kernel_rfl) ?_
  have H0 := St.start w0
  refine WP.seq ?_
  refine WP.region ?_
  refine WPI.op rfl (Op1.box H0 #[s1, s3] (by kernel_rfl) 25 (.tmp 0) rfl (by kernel_rfl) (fun b5 w7 H8 => ?_))
  refine WPI.run 1 ⟨#[.agg #[s1, s3], vp b5 0, vb false, Z, Z], []⟩ w7 (fun K => by kernel_rfl) ?_
  refine WPI.done rfl ?_
  refine then_n ?_
  refine WP.seq ?_
  refine WP.region ?_
  refine WPI.value (v := .agg #[s1, s3]) rfl (by kernel_rfl) (ev_loadBox H8 0 rfl 25 (.tmp 1) 0 (.agg #[s1, s3]) rfl (by kernel_rfl) (by kernel_rfl)) ?_
  obtain ⟨t9, ht9, h⟩ := bd_some h
  refine WPI.run 0 ⟨#[.agg #[s1, s3], vp b5 0, vb false, .agg #[s1, s3], Z], []⟩ w7 (fun K => by kernel_rfl) ?_
  refine WPI.op rfl (Op1.call (by kernel_rfl) (by kernel_rfl) (g_tarnlaw13_only_w fuel s1 l2 s3 l4 4 t9 ht9 _ (Rd.arg0 hs1 H8) (Rd.arg0 hs3 H8)) ?_)
  rintro _ w10 ⟨rfl, Hc11⟩
  have H12 := St.call0' H8 Hc11
  clear H8 Hc11
  refine WPI.run 1 ⟨#[.agg #[s1, s3], vp b5 0, vb t9, .agg #[s1, s3], vb t9], []⟩ w10 (fun K => by kernel_rfl) ?_
  refine WPI.done rfl ?_
  refine then_n ?_
  refine WP.ret ?_
  obtain rfl := Option.some.inj h
  exact post_r (vb t9) rfl (by kernel_rfl) ⟨rfl, St.sel H12 [] (by decide) rfl⟩
end Go.Proofs
