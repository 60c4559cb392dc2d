/- What the law ResetTwo says of the given program holds: whatever it is asked with, it answers true, and what it was asked with reads behind the call as before it. Conditions: none. -/
import Derived.Test.YtoanndmidgdcfaaGreatRows
import Derived.Test.YtoanndmidgdcfaaGreatRunResetTwo4
import Derived.ProofKit
import Derived.Lib.SmallJoins
set_option linter.unusedVariables false
namespace Go.Proofs.YtoanndmidgdcfaaGreat
open Gw Go.ChangeShapes Go.WideShapes Go.ChangeAt Go.RowKit Go.Joins

theorem Tryz.ownResetTwo : ownKnob Tryz.prog.godebug = none := by kernel_rfl
theorem Tryz.laidResetTwo : laidOutB Tryz.prog = true := by kernel_rfl

theorem resetTwo_runs : ∀ r, r < 5 → Ax.isTrue (Ax.run Tryz.prog (Ax.known 25 (.bool true)) rk 40 100000 8 [.agg ⟨Ax.gh 10 5 r 0⟩]) = true
  | 0, _ => runResetTwo0
  | 1, _ => runResetTwo1
  | 2, _ => runResetTwo2
  | 3, _ => runResetTwo3
  | 4, _ => runResetTwo4
  | r + 5, h => absurd h (by omega)

set_option maxRecDepth 100000 in
theorem resetTwo_lifted (os : Os) (started : os.Started) (H : Type) (enc : TypeId × Value → H) :
    ReturnsInHanded {} Tryz.checked os 8 .any (Rows.resetTwoSpec.pre6 enc Tryz.prog Tryz.f8 Rows.resetTwoRow.domain false) (Rows.resetTwoSpec.post enc Tryz.prog Tryz.f8 false true false false) := by
  refine returnsInHanded_of_change (C := Tryz.checked) Tryz.ownResetTwo started (by kernel_rfl) Tryz.func8
    (ChangeSpec.witness6 (enc := enc) (C := Tryz.checked) false ⟨#[], #[.agg #[.int .i64 0, .int .i64 0, .int .u64 0, .int .u64 0, .int .u64 0, .int .u64 0, .int .i64 0, .slice none 0 0, .slice none 0 0, .slice none 0 0, .slice none 0 0]], []⟩ 8 (by kernel_rfl) (by kernel_rfl) (by kernel_rfl) (by kernel_rfl)) ?_
  intro W base args ds gs before hval0 hW hcnd _
  have hval : ∀ (j : Nat) t v, Tryz.f8.params[j]? = some t → args[j]? = some v → Value.okWide Tryz.prog W .any base t v := hval0
  have hW' := hW
  obtain ⟨p, q, hA0, hV, rfl, hfz, hnd⟩ := hW
  have hA : DataW.TrodAll enc Tryz.prog W 0 (fun _ => true) true Tryz.f8.params.toList args.toList ds p := hA0
  rw [Tryz.params8] at hA hval
  obtain ⟨v0, d0, rfl, rfl, h0⟩ := trodAll_one hA
  obtain ⟨rfl, rfl⟩ := trodVars_none hV
  have h0k := h0
  have hv0 := hval 0 57 v0 rfl rfl
  obtain ⟨cs, m, rfl, hl⟩ := Ax.args_sh (μ := fun _ => (0, 0, 0)) (D := fun _ => False) Tryz.underlying57 (show Ax.shapeOk Tryz.prog 57 10 0 = true from by kernel_rfl) hv0
  clear hA0 hval0
  simp only [List.append_nil] at hW'
  have hret := Ax.ret_gh wakes25_ok (w := W) (by decide) (fun r hr => hl 5 r hr) resetTwo_runs
  refine Calls.mono hret fun e W' ⟨v, he, hv, hb⟩ => ?_
  subst he; subst hv
  exact ⟨_, rfl, _, _, _, [], _, [], hW', trodAll_mk1 (shut_bool Tryz.underlying4 _), trodAll_mk1 (Below.trod Tryz.laidResetTwo (by kernel_rfl) (of_decide_eq_true (by kernel_rfl)) h0k hb (fun x hx => by simpa using hW'.lt x hx)), rfl, hb.frame _, fun h => by cases h⟩

theorem resetTwo_holds : Rows.ResetTwoSaid :=
  OpenClaim.holds_of_wide 8 Tryz.f8 rfl rfl rfl rfl rfl rfl rfl ⟨rfl, rfl, rfl, rfl, rfl⟩ rfl rfl rfl rfl rfl (by kernel_rfl) Tryz.func8 (by kernel_rfl)
    (of_decide_eq_true (by kernel_rfl)) (by unfold Func.isWrapper; rw [if_neg (by decide +kernel)]; exact ⟨rfl, rfl⟩)
    (fun os started H enc _ => resetTwo_lifted os started H enc)

end Go.Proofs.YtoanndmidgdcfaaGreat
