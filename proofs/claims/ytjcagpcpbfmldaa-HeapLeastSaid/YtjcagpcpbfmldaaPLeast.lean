/- What the law HeapLeast says of the given program holds: whatever the script, it answers true, and the script reads behind the call as before it. Conditions: none. -/
import Derived.Test.YtjcagpcpbfmldaaRows
import Derived.Test.YtjcagpcpbfmldaaX7
import Derived.Test.YtjcagpcpbfmldaaLawK
import Derived.Test.YtjcagpcpbfmldaaOps
import Derived.ProofKit
import Derived.Lib.SmallJoins
set_option linter.unusedVariables false
namespace Go.Proofs.Ytjcagpcpbfmldaa
open Gw Go.ChangeShapes Go.WideShapes Go.ChangeAt Go.RowKit Go.Joins

theorem Try.ownHeapLeast : ownKnob Try.prog.godebug = none := by kernel_rfl
theorem Try.laidHeapLeast : laidOutB Try.prog = true := by kernel_rfl

set_option maxRecDepth 100000 in
theorem heapLeast_lifted (os : Os) (started : os.Started) (H : Type) (enc : TypeId × Value → H) :
    ReturnsInHanded {} Try.checked os 7 .any (Rows.heapLeastSpec.pre6 enc Try.prog Try.f7 Rows.heapLeastRow.domain false) (Rows.heapLeastSpec.post enc Try.prog Try.f7 false true false false) := by
  refine returnsInHanded_of_change (C := Try.checked) Try.ownHeapLeast started (by kernel_rfl) Try.func7
    (ChangeSpec.witness6 (enc := enc) (C := Try.checked) false ⟨#[], #[.agg #[.slice none 0 0, .slice none 0 0]], []⟩ 8 (by kernel_rfl) (by kernel_rfl) (by kernel_rfl) (by kernel_rfl)) ?_
  intro W base args ds gs before hval0 hW hcnd _
  have hval : ∀ (j : Nat) t v, Try.f7.params[j]? = some t → args[j]? = some v → Value.okWide Try.prog W .any base t v := hval0
  have hW' := hW
  obtain ⟨p, q, hA0, hV, rfl, hfz, hnd⟩ := hW
  have hA : DataW.TrodAll enc Try.prog W 0 (fun _ => true) true Try.f7.params.toList args.toList ds p := hA0
  rw [Try.params7] at hA hval
  obtain ⟨v0, d0, rfl, rfl, h0⟩ := trodAll_one hA
  obtain ⟨rfl, rfl⟩ := trodVars_none hV
  have h0k := h0
  have hv0 := hval 0 25 v0 rfl rfl
  obtain ⟨c0, c1, y0, y1, m, rfl, rfl, rfl, hy0, hy1⟩ := open_agg2 Try.underlying25 (by kernel_rfl) (show Try.prog.cellsOf 25 = 2 from by kernel_rfl) hv0 h0
  have k0 := okWide_cell Try.underlying25 (show Try.prog.cellTypes Try.prog.depth 25 = some [22, 23] from by kernel_rfl) hv0 0 22 c0 rfl rfl
  have k1 := okWide_cell Try.underlying25 (show Try.prog.cellTypes Try.prog.depth 25 = some [22, 23] from by kernel_rfl) hv0 1 23 c1 rfl rfl
  obtain ⟨l0, r0, f0⟩ := rd_of_trod (F := fTNode) (show Try.prog.underlying 22 = some (.slice 33) from by kernel_rfl) op_33 (by kernel_rfl) hy0 k0
  obtain ⟨l1, r1, f1⟩ := rd_of_trod (F := fTtarnlaw13_Act) (show Try.prog.underlying 23 = some (.slice 45) from by kernel_rfl) op_45 (by kernel_rfl) hy1 k1
  clear hA0 hval0
  simp only [List.append_nil] at hW'
  have hret := g_tarnlaw13_HeapLeast_w 4000 c0 l0 c1 l1 true (least_law l0 l1) W r0 r1
  refine Calls.mono hret fun e W' ⟨v, he, hv, hst⟩ => ?_
  subst he; subst hv
  have hb := hst.below
  exact ⟨_, rfl, _, _, _, [], _, [], hW', trodAll_mk1 (shut_bool Try.underlying4 _), trodAll_mk1 (Below.trod Try.laidHeapLeast (by kernel_rfl) (of_decide_eq_true (by kernel_rfl)) h0k hb (fun x hx => by simpa using hW'.lt x hx)), rfl, hb.frame _, fun h => by cases h⟩

theorem heapLeast_holds : Rows.HeapLeastSaid :=
  OpenClaim.holds_of_wide 7 Try.f7 rfl rfl rfl rfl rfl rfl rfl ⟨rfl, rfl, rfl, rfl, rfl⟩ rfl rfl rfl rfl rfl (by kernel_rfl) Try.func7 (by kernel_rfl)
    (of_decide_eq_true (by kernel_rfl)) (by unfold Func.isWrapper; rw [if_neg (by decide +kernel)]; exact ⟨rfl, rfl⟩)
    (fun os started H enc _ => heapLeast_lifted os started H enc)

end Go.Proofs.Ytjcagpcpbfmldaa
