import Derived.Test.YtjcagpcpbfmldaaGw
import Derived.Test.YtjcagpcpbfmldaaProg
import Derived.Test.YtjcagpcpbfmldaaT
set_option linter.unusedVariables false
set_option linter.unusedSimpArgs false
set_option maxRecDepth 100000
set_option maxHeartbeats 4000000
namespace Go.Proofs
open Gw Go.RowKit
/- tarn/tarnref0.Num -/
def g_tarnref0_Num (fuel : Nat) (p1 : Int) (p2 : Int) : Option Bool :=
  jn (fun (c3 : Bool) => some c3) fun K11 => lt (decide (p1 ≥ 0)) fun c12 => br c12 (lt (decide (p1 ≤ p2)) fun c13 => K11 c13) (K11 false)
theorem g_tarnref0_Num_w (fuel : Nat) (p1 : Int) (p2 : Int) (r : Bool) (h : g_tarnref0_Num fuel p1 p2 = some r) (w0 : World) :
    Ret Try.prog 42 #[vi p1, vi p2] w0 (fun v w' => v = vb r ∧ St no w0 w' []) := by
  unfold g_tarnref0_Num at h
  refine ret_of_wp Try.func42 rfl #[vi p1, vi p2, Z, Z, Z, Z, Z, Z, Z, Z, Z, Z] (by kernel_rfl) ?_
  have H0 := St.start w0
  refine WP.seq ?_
  refine WP.region ?_
  refine WPI.run 1 ⟨#[vi p1, vi p2, Z, Z, vb false, Z, Z, Z, Z, Z, Z, Z], []⟩ w0 (fun K => by kernel_rfl) ?_
  refine WPI.done rfl ?_
  refine then_n ?_
  refine WP.seq ?_
  obtain ⟨K11, hK11, h⟩ := jn_some h
  refine WP.onlyN (fun a w => ∃ (c3 : Bool) (g4 g5 g6 g7 g8 g9 g10 : Value), a = ⟨#[vi p1, vi p2, Z, Z, vb c3, g4, g5, g6, g7, g8, g9, g10], []⟩ ∧ St no w0 w [] ∧ K11 c3 = some r) ?_ ?_
  · skip
    refine WP.region ?_
    obtain ⟨c12, hc12, h⟩ := lt_some h
    refine WPI.run 3 ⟨#[vi p1, vi p2, Z, Z, vb false, vi p1, vb c12, vb c12, Z, Z, Z, Z], []⟩ w0 (fun K => by subst hc12; kernel_rfl) ?_
    cases c12 with
    | false =>
      replace h := br_f h
      refine WPI.run 5 ⟨#[vi p1, vi p2, Z, Z, vb false, vi p1, vb false, vb false, Z, Z, Z, vb false], []⟩ w0 (fun K => by kernel_rfl) ?_
      refine WPI.done rfl ?_
      exact ⟨false, _, _, _, _, _, _, _, rfl, St.sel H0 [] (by decide) rfl, h⟩
    | true =>
      replace h := br_t h
      obtain ⟨c13, hc13, h⟩ := lt_some h
      refine WPI.run 5 ⟨#[vi p1, vi p2, Z, Z, vb c13, vi p1, vb true, vb true, vi p1, vi p2, vb c13, vb c13], []⟩ w0 (fun K => by subst hc13; kernel_rfl) ?_
      refine WPI.done rfl ?_
      exact ⟨c13, _, _, _, _, _, _, _, rfl, St.sel H0 [] (by decide) rfl, h⟩
  · rintro a w ⟨c3, g4, g5, g6, g7, g8, g9, g10, rfl, H, h⟩
    subst hK11
    obtain ⟨w14, rfl⟩ : ∃ x, x = w := ⟨_, rfl⟩
    have H15 := H; clear H
    refine then_n ?_
    refine WP.ret ?_
    obtain rfl := Option.some.inj h
    exact post_r (vb c3) rfl (by kernel_rfl) ⟨rfl, St.sel H15 [] (by decide) rfl⟩
end Go.Proofs
