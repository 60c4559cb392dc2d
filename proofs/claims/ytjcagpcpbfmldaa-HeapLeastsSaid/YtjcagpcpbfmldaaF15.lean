import Derived.Test.YtjcagpcpbfmldaaGw
import Derived.Test.YtjcagpcpbfmldaaProg
import Derived.Test.YtjcagpcpbfmldaaT
set_option linter.unusedVariables false
set_option linter.unusedSimpArgs false
set_option maxRecDepth 100000
set_option maxHeartbeats 4000000
namespace Go.Proofs
open Gw Go.RowKit
/- tarn/tarnlaw13.num -/
def g_tarnlaw13_num (fuel : Nat) (p1 : Int) : Option Int :=
  some p1
theorem g_tarnlaw13_num_w (fuel : Nat) (p1 : Int) (r : Int) (h : g_tarnlaw13_num fuel p1 = some r) (w0 : World) :
    Ret Try.prog 15 #[vi p1] w0 (fun v w' => v = vi r ∧ St no w0 w' []) := by
  unfold g_tarnlaw13_num at h
  refine ret_of_wp Try.func15 rfl #[vi p1, Z, Z, Z] (by kernel_rfl) ?_
  have H0 := St.start w0
  refine WP.seq ?_
  refine WP.region ?_
  refine WPI.run 1 ⟨#[vi p1, Z, vi 0, Z], []⟩ w0 (fun K => by kernel_rfl) ?_
  refine WPI.done rfl ?_
  refine then_n ?_
  refine WP.seq ?_
  refine WP.region ?_
  refine WPI.run 2 ⟨#[vi p1, Z, vi p1, vi p1], []⟩ w0 (fun K => by kernel_rfl) ?_
  refine WPI.done rfl ?_
  refine then_n ?_
  refine WP.ret ?_
  obtain rfl := Option.some.inj h
  exact post_r (vi p1) rfl (by kernel_rfl) ⟨rfl, St.sel H0 [] (by decide) rfl⟩
end Go.Proofs
