import Derived.Test.YtcbjobfklcefpaaGwit
import Derived.Test.YtcbjobfklcefpaaProg
import Derived.Test.YtcbjobfklcefpaaT
set_option linter.unusedVariables false
set_option linter.unusedSimpArgs false
set_option maxRecDepth 100000
set_option maxHeartbeats 0
namespace Go.Proofs
open Gw Go.RowKit
attribute [local irreducible] Gw.WP Gw.WPI Gw.WPL Gw.WA Gw.WQ Gw.PX Gw.PY Gw.WI Gw.PZ Gw.Op1 Gw.Ret Go.Exit.then Go.Exit.inBlock Go.wpOpIn Gw.Rnd Gw.Aft Gw.Begun
/- tarn/tarnlaw27.num -/
def g_tarnlaw27_num (fuel : Nat) (p1 : Int) : Option Int :=
  some p1
theorem g_tarnlaw27_num_w (fuel : Nat) (p1 : Int) (r : Int) (h : g_tarnlaw27_num fuel p1 = some r) (w0 : World) :
    Ret Try.prog 8 #[vi p1] w0 (fun v w' => v = vi r ∧ St no w0 w' []) := by
  unfold g_tarnlaw27_num at h
  refine ret_of_wpS Try.func8 rfl 4 rfl [(0, vi p1)] (by kernel_rfl) (fun G => ?_)
  have H0 := St.start w0
  refine WP.seq ?_
  refine WP.region ?_
  refine WPI.runS 1 1 [(2, vi 0)] rfl (fun K => by kernel_rfl) ?_
  refine WPI.done rfl ?_
  refine then_n ?_
  refine WP.seq ?_
  refine WP.region ?_
  refine WPI.runS 2 2 [(2, vi p1), (3, vi p1)] rfl (fun K => by kernel_rfl) ?_
  refine WPI.done rfl ?_
  refine then_n ?_
  refine WP.ret ?_
  obtain rfl := Option.some.inj h
  exact post_r (vi p1) rfl (by kernel_rfl) ⟨rfl, St.sel H0 [] (by decide) rfl⟩
end Go.Proofs
