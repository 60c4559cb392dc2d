import Derived.Test.YtjcagpcpbfmldaaGw
import Derived.Test.YtjcagpcpbfmldaaProg
import Derived.Test.YtjcagpcpbfmldaaT
set_option linter.unusedVariables false
set_option linter.unusedSimpArgs false
set_option maxRecDepth 100000
set_option maxHeartbeats 4000000
namespace Go.Proofs
open Gw Go.RowKit
/- tarn/tarnlaw0.Within -/
def g_tarnlaw0_Within (fuel : Nat) (p1 : Int) (p2 : Int) : Option Int :=
  lt (wr .u64 p1) fun x3 => lt (wr .u64 p2) fun x4 => gd (x4 ≠ 0) <| lt (Int.tmod x3 x4) fun x6 => lt (wr .i64 x6) fun x7 => some x7
theorem g_tarnlaw0_Within_w (fuel : Nat) (p1 : Int) (p2 : Int) (r : Int) (h : g_tarnlaw0_Within fuel p1 p2 = some r) (w0 : World) :
    Ret Try.prog 18 #[vi p1, vi p2] w0 (fun v w' => v = vi r ∧ St no w0 w' []) := by
  unfold g_tarnlaw0_Within at h
  refine ret_of_wp Try.func18 rfl #[vi p1, vi p2, Z, Z, Z, Z, Z, Z, Z, Z, Z] (by kernel_rfl) ?_
  have H0 := St.start w0
  refine WP.seq ?_
  refine WP.region ?_
  refine WPI.run 1 ⟨#[vi p1, vi p2, Z, Z, vi 0, Z, Z, Z, Z, Z, Z], []⟩ w0 (fun K => by kernel_rfl) ?_
  refine WPI.done rfl ?_
  refine then_n ?_
  refine WP.seq ?_
  refine WP.region ?_
  obtain ⟨x3, hx3, h⟩ := lt_some h
  obtain ⟨x4, hx4, h⟩ := lt_some h
  obtain ⟨hg5, h⟩ := gd_some h
  obtain ⟨x6, hx6, h⟩ := lt_some h
  refine WPI.run 4 ⟨#[vi p1, vi p2, Z, Z, vi 0, vi p1, vu x3, vi p2, vu x4, Z, Z], []⟩ w0 (fun K => by subst hx4 hx3; kernel_rfl) ?_
  refine WPI.value (v := vu x6) rfl (by kernel_rfl) (by subst hx6; exact ev_rem .u64 x3 x4 59 59 (.tmp 6) (.tmp 8) rfl (by kernel_rfl) (by kernel_rfl) hg5) ?_
  obtain ⟨x7, hx7, h⟩ := lt_some h
  refine WPI.run 2 ⟨#[vi p1, vi p2, Z, Z, vi x7, vi p1, vu x3, vi p2, vu x4, vu x6, vi x7], []⟩ w0 (fun K => by subst hx7; kernel_rfl) ?_
  refine WPI.done rfl ?_
  refine then_n ?_
  refine WP.ret ?_
  obtain rfl := Option.some.inj h
  exact post_r (vi x7) rfl (by kernel_rfl) ⟨rfl, St.sel H0 [] (by decide) rfl⟩
end Go.Proofs
