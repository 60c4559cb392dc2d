/- What the law ResetPoor says of the given program holds: whatever it is asked with, it answers true, and what it was asked with reads behind the call as before it. Conditions: none. -/
import Derived.Test.YtoanndmidgdcfaaGreatRows
import Derived.Test.YtoanndmidgdcfaaGreatRunResetPoor0
import Derived.ProofKit
import Derived.Lib.SmallJoins
set_option linter.unusedVariables false
namespace Go.Proofs.YtoanndmidgdcfaaGreat
open Gw Go.ChangeShapes Go.WideShapes Go.ChangeAt Go.RowKit Go.Joins

theorem Tryz.ownResetPoor : ownKnob Tryz.prog.godebug = none := by kernel_rfl
theorem Tryz.laidResetPoor : laidOutB Tryz.prog = true := by kernel_rfl

theorem resetPoor_runs : ∀ r, r < 1 → Ax.isTrue (Ax.run Tryz.prog (Ax.known 25 (.bool true)) rk 40 100000 7 [.agg ⟨Ax.gh 10 1 r 0⟩]) = true
  | 0, _ => runResetPoor0
  | r + 1, h => absurd h (by omega)

set_option maxRecDepth 100000 in
theorem resetPoor_lifted (os : Os) (started : os.Started) (H : Type) (enc : TypeId × Value → H) :
    ReturnsInHanded {} Tryz.checked os 7 .any (Rows.resetPoorSpec.pre6 enc Tryz.prog Tryz.f7 Rows.resetPoorRow.domain false) (Rows.resetPoorSpec.post enc Tryz.prog Tryz.f7 false true false false) := by
  refine returnsInHanded_of_change (C := Tryz.checked) Tryz.ownResetPoor started (by kernel_rfl) Tryz.func7
    (ChangeSpec.witness6 (enc := enc) (C := Tryz.checked) false ⟨#[], #[.agg #[.int .i64 0, .int .i64 0, .int .u64 0, .int .u64 0, .int .u64 0, .int .u64 0, .int .i64 0, .slice none 0 0, .slice none 0 0, .slice none 0 0, .slice none 0 0]], []⟩ 8 (by kernel_rfl) (by kernel_rfl) (by kernel_rfl) (by kernel_rfl)) ?_
  intro W base args ds gs before hval0 hW hcnd _
  have hval : ∀ (j : Nat) t v, Tryz.f7.params[j]? = some t → args[j]? = some v → Value.okWide Tryz.prog W .any base t v := hval0
  have hW' := hW
  obtain ⟨p, q, hA0, hV, rfl, hfz, hnd⟩ := hW
  have hA : DataW.TrodAll enc Tryz.prog W 0 (fun _ => true) true Tryz.f7.params.toList args.toList ds p := hA0
  rw [Tryz.params7] at hA hval
  obtain ⟨v0, d0, rfl, rfl, h0⟩ := trodAll_one hA
  obtain ⟨rfl, rfl⟩ := trodVars_none hV
  have h0k := h0
  have hv0 := hval 0 57 v0 rfl rfl
  obtain ⟨cs, m, rfl, hl⟩ := Ax.args_sh (μ := fun _ => (0, 0, 0)) (D := fun _ => False) Tryz.underlying57 (show Ax.shapeOk Tryz.prog 57 10 0 = true from by kernel_rfl) hv0
  clear hA0 hval0
  simp only [List.append_nil] at hW'
  have hret := Ax.ret_gh wakes25_ok (w := W) (by decide) (fun r hr => hl 1 r hr) resetPoor_runs
  refine Calls.mono hret fun e W' ⟨v, he, hv, hb⟩ => ?_
  subst he; subst hv
  exact ⟨_, rfl, _, _, _, [], _, [], hW', trodAll_mk1 (shut_bool Tryz.underlying4 _), trodAll_mk1 (Below.trod Tryz.laidResetPoor (by kernel_rfl) (of_decide_eq_true (by kernel_rfl)) h0k hb (fun x hx => by simpa using hW'.lt x hx)), rfl, hb.frame _, fun h => by cases h⟩

theorem resetPoor_holds : Rows.ResetPoorSaid :=
  OpenClaim.holds_of_wide 7 Tryz.f7 rfl rfl rfl rfl rfl rfl rfl ⟨rfl, rfl, rfl, rfl, rfl⟩ rfl rfl rfl rfl rfl (by kernel_rfl) Tryz.func7 (by kernel_rfl)
    (of_decide_eq_true (by kernel_rfl)) (by unfold Func.isWrapper; rw [if_neg (by decide +kernel)]; exact ⟨rfl, rfl⟩)
    (fun os started H enc _ => resetPoor_lifted os started H enc)

end Go.Proofs.YtoanndmidgdcfaaGreat
