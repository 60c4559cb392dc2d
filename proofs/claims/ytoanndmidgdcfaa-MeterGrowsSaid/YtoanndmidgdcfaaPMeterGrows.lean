/- What the law MeterGrows says of the given program holds: whatever it is asked with, it answers true, and what it was asked with reads behind the call as before it. Conditions: none. -/
import Derived.Test.YtoanndmidgdcfaaRows
import Derived.Test.YtoanndmidgdcfaaRunMeterGrows0
import Derived.ProofKit
import Derived.Lib.SmallJoins
set_option linter.unusedVariables false
namespace Go.Proofs.Ytoanndmidgdcfaa
open Gw Go.ChangeShapes Go.WideShapes Go.ChangeAt Go.RowKit Go.Joins

theorem Try.ownMeterGrows : ownKnob Try.prog.godebug = none := by kernel_rfl
theorem Try.laidMeterGrows : laidOutB Try.prog = true := by kernel_rfl

theorem meterGrows_runs : ∀ r, r < 1 → Ax.isTrue (Ax.run Try.prog (Ax.known 10 (.bool true)) rk 40 100000 3 [.agg ⟨Ax.gh 10 1 r 1⟩]) = true
  | 0, _ => runMeterGrows0
  | r + 1, h => absurd h (by omega)

set_option maxRecDepth 100000 in
theorem meterGrows_lifted (os : Os) (started : os.Started) (H : Type) (enc : TypeId × Value → H) :
    ReturnsInHanded {} Try.checked os 3 .any (Rows.meterGrowsSpec.pre6 enc Try.prog Try.f3 Rows.meterGrowsRow.domain false) (Rows.meterGrowsSpec.post enc Try.prog Try.f3 false true false false) := by
  refine returnsInHanded_of_change (C := Try.checked) Try.ownMeterGrows started (by kernel_rfl) Try.func3
    (ChangeSpec.witness6 (enc := enc) (C := Try.checked) false ⟨#[], #[.agg #[.int .i64 0, .int .i64 0, .int .u64 0, .int .u64 0, .int .u64 0, .int .u64 0, .int .i64 0, .slice none 0 0, .slice none 0 0, .slice none 0 0, .slice none 0 0, .slice none 0 0]], []⟩ 8 (by kernel_rfl) (by kernel_rfl) (by kernel_rfl) (by kernel_rfl)) ?_
  intro W base args ds gs before hval0 hW hcnd _
  have hval : ∀ (j : Nat) t v, Try.f3.params[j]? = some t → args[j]? = some v → Value.okWide Try.prog W .any base t v := hval0
  have hW' := hW
  obtain ⟨p, q, hA0, hV, rfl, hfz, hnd⟩ := hW
  have hA : DataW.TrodAll enc Try.prog W 0 (fun _ => true) true Try.f3.params.toList args.toList ds p := hA0
  rw [Try.params3] at hA hval
  obtain ⟨v0, d0, rfl, rfl, h0⟩ := trodAll_one hA
  obtain ⟨rfl, rfl⟩ := trodVars_none hV
  have h0k := h0
  have hv0 := hval 0 34 v0 rfl rfl
  obtain ⟨cs, m, rfl, hl⟩ := Ax.args_sh (μ := fun _ => (0, 0, 0)) (D := fun _ => False) Try.underlying34 (show Ax.shapeOk Try.prog 34 10 1 = true from by kernel_rfl) hv0
  clear hA0 hval0
  simp only [List.append_nil] at hW'
  have hret := Ax.ret_gh wakes10_ok (w := W) (by decide) (fun r hr => hl 1 r hr) meterGrows_runs
  refine Calls.mono hret fun e W' ⟨v, he, hv, hb⟩ => ?_
  subst he; subst hv
  exact ⟨_, rfl, _, _, _, [], _, [], hW', trodAll_mk1 (shut_bool Try.underlying4 _), trodAll_mk1 (Below.trod Try.laidMeterGrows (by kernel_rfl) (of_decide_eq_true (by kernel_rfl)) h0k hb (fun x hx => by simpa using hW'.lt x hx)), rfl, hb.frame _, fun h => by cases h⟩

theorem meterGrows_holds : Rows.MeterGrowsSaid :=
  OpenClaim.holds_of_wide 3 Try.f3 rfl rfl rfl rfl rfl rfl rfl ⟨rfl, rfl, rfl, rfl, rfl⟩ rfl rfl rfl rfl rfl (by kernel_rfl) Try.func3 (by kernel_rfl)
    (of_decide_eq_true (by kernel_rfl)) (by unfold Func.isWrapper; rw [if_neg (by decide +kernel)]; exact ⟨rfl, rfl⟩)
    (fun os started H enc _ => meterGrows_lifted os started H enc)

end Go.Proofs.Ytoanndmidgdcfaa
