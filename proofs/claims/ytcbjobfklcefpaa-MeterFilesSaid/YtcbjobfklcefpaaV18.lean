import Derived.Test.YtcbjobfklcefpaaGwit
import Derived.Test.YtcbjobfklcefpaaProg
import Derived.Test.YtcbjobfklcefpaaT
set_option linter.unusedVariables false
set_option linter.unusedSimpArgs false
set_option maxRecDepth 100000
set_option maxHeartbeats 0
namespace Go.Proofs
open Gw Go.RowKit
attribute [local irreducible] Gw.WP Gw.WPI Gw.WPL Gw.WA Gw.WQ Gw.PX Gw.PY Gw.WI Gw.PZ Gw.Op1 Gw.Ret Go.Exit.then Go.Exit.inBlock Go.wpOpIn Gw.Rnd Gw.Aft Gw.Begun
/- tarn/disk.New$1 -/
def g_disk_New_1 (fuel : Nat) (l2 : List Int) : Option Bool :=
  lt (decide ((((List.length l2 : Nat) : Int)) > 131072)) fun c3 => some c3
theorem g_disk_New_1_w (fuel : Nat) (s1 : Value) (l2 : List Int) (r : Bool) (h : g_disk_New_1 fuel l2 = some r) (w0 : World) (hs1 : Rd fU8 (hp no w0) s1 l2) :
    Ret Try.prog 18 #[s1] w0 (fun v w' => v = vb r ∧ St no w0 w' []) := by
  unfold g_disk_New_1 at h
  refine ret_of_wpS Try.func18 rfl 6 rfl [(0, s1)] (by kernel_rfl) (fun G => ?_)
  have H0 := St.start w0
  refine WP.seq ?_
  refine WP.region ?_
  refine WPI.runS 1 1 [(2, vb false)] rfl (fun K => by kernel_rfl) ?_
  refine WPI.done rfl ?_
  refine then_n ?_
  refine WP.seq ?_
  refine WP.region ?_
  refine WPI.runS 1 1 [(3, s1)] rfl (fun K => by kernel_rfl) ?_
  refine WPI.valueS (vi (((List.length l2 : Nat) : Int))) 4 rfl rfl (by kernel_rfl) (ev_len (Rd.sl hs1) 25 (.tmp 3) 5 1 1 rfl (by kernel_rfl) (by kernel_rfl)) ?_
  obtain ⟨c3, hc3, h⟩ := lt_some h
  refine WPI.runS 2 4 [(2, vb c3), (5, vb c3)] rfl (fun K => by subst hc3; kernel_rfl) ?_
  refine WPI.done rfl ?_
  refine then_n ?_
  refine WP.ret ?_
  obtain rfl := Option.some.inj h
  exact post_r (vb c3) rfl (by kernel_rfl) ⟨rfl, St.sel H0 [] (by decide) rfl⟩
end Go.Proofs
