/- What the law MeterFiles says of the given program holds: whatever it is asked with, it answers true, and what it was asked with reads behind the call as before it. Conditions: none. -/
import Derived.Test.YtcbjobfklcefpaaRows
import Derived.Test.YtcbjobfklcefpaaLawM
import Derived.Test.YtcbjobfklcefpaaGwo
import Derived.Test.YtcbjobfklcefpaaWakes11
import Derived.SizedLaws
import Derived.ProofKit
import Derived.Lib.SmallJoins
set_option linter.unusedVariables false
namespace Go.Proofs.Ytcbjobfklcefpaa
open Gw Go.ChangeShapes Go.WideShapes Go.ChangeAt Go.RowKit Go.Joins

theorem Try.ownMeterFiles : ownKnob Try.prog.godebug = none := by kernel_rfl
theorem Try.laidMeterFiles : laidOutB Try.prog = true := by kernel_rfl
theorem op25 : OpensW Try.prog 25 dS5.rel (fun l => l.length ≤ 140737488355328) := by
  intro H enc w base held n c x h hx
  obtain ⟨v, l, rfl, r, -, hl⟩ := rdF_of_trod (F := fU8) (show Try.prog.underlying 25 = some (.slice 5) from by kernel_rfl) (OpensW.of (opens_int (k := .u8) (show Try.prog.underlying 5 = some (.int .u8) from by kernel_rfl))) (show Try.prog.cellsOf 5 = 1 from by kernel_rfl) h hx
  have hb : Try.prog.bytesOf 5 = 1 := by kernel_rfl
  rw [hb] at hl
  exact ⟨l, ⟨v, rfl, r⟩, by simp only [reachBytes] at hl; omega⟩

set_option maxRecDepth 100000 in
theorem meterFiles_lifted (os : Os) (started : os.Started) (H : Type) (enc : TypeId × Value → H) :
    ReturnsInHanded {} Try.checked os 3 .any (Rows.meterFilesSpec.pre6 enc Try.prog Try.f3 Rows.meterFilesRow.domain false) (Rows.meterFilesSpec.post enc Try.prog Try.f3 false true false false) := by
  refine returnsInHanded_of_change_sized (C := Try.checked) Try.ownMeterFiles started (by kernel_rfl) Try.func3
    (ChangeSpec.witness6 (enc := enc) (C := Try.checked) false ⟨#[], #[.slice none 0 0], []⟩ 8 (by kernel_rfl) (by kernel_rfl) (by kernel_rfl) (by kernel_rfl)) ?_
  intro W base args ds gs before hval0 hW hcnd hsz _
  have hval : ∀ (j : Nat) t v, Try.f3.params[j]? = some t → args[j]? = some v → Value.okWide Try.prog W .any base t v := hval0
  have hW' := hW
  obtain ⟨p, q, hA0, hV, rfl, hfz, hnd⟩ := hW
  have hA : DataW.TrodAll enc Try.prog W 0 (fun _ => true) true Try.f3.params.toList args.toList ds p := hA0
  rw [Try.params3] at hA hval
  obtain ⟨v0, d0, rfl, rfl, h0⟩ := trodAll_one hA
  obtain ⟨rfl, rfl⟩ := trodVars_none hV
  have h0k := h0
  have hv0 := hval 0 22 v0 rfl rfl
  obtain ⟨fuel, h0'⟩ := h0
  have hu : Try.prog.underlying 22 = some (.slice 25) := by kernel_rfl
  have hli : light Try.prog 22 d0 := fun n hn => by
    have hm := DataW.weights_mem_each (P := Try.prog) (ts := [22]) (ds := [d0]) (j := 0) rfl rfl n hn
    have hs := List.all_eq_true.1 hsz n (by rw [Try.params3]; exact hm)
    exact of_decide_eq_true hs
  obtain ⟨v, l, hc, r, hwf, hl⟩ := rdD_of_trod (D := dS5) hu op25 (show Try.prog.cellsOf 25 = 1 from by kernel_rfl) h0' hli
  have hv : v0 = v := by
    simp only [Value.okWide, hu, Cell.okWide, Cell.ok] at hv0
    cases v0 <;> first | exact hv0.elim | (simp only [Value.cells, List.cons.injEq, and_true] at hc; exact hc)
  subst hv
  have hb : Try.prog.bytesOf 25 = 24 := by kernel_rfl
  rw [hb] at hl
  clear hA0 hval0
  simp only [List.append_nil] at hW'
  have hret := g_tarnlaw27_MeterFiles_w (l.length + 6001) v0 l true (meterFiles_law l (by simp only [reachBytes] at hl; omega) hwf) W r wakes11_ok
  refine Calls.mono hret fun e W' ⟨v, he, hv, hst⟩ => ?_
  subst he; subst hv
  have hb := hst.below
  exact ⟨_, rfl, _, _, _, [], _, [], hW', trodAll_mk1 (shut_bool Try.underlying4 _), trodAll_mk1 (Below.trod Try.laidMeterFiles (by kernel_rfl) (of_decide_eq_true (by kernel_rfl)) h0k hb (fun x hx => by simpa using hW'.lt x hx)), rfl, hb.frame _, fun h => by cases h⟩

theorem meterFiles_holds : Rows.MeterFilesSaid :=
  OpenClaim.holds_of_wide 3 Try.f3 rfl rfl rfl rfl rfl rfl rfl ⟨rfl, rfl, rfl, rfl, rfl⟩ rfl rfl rfl rfl rfl (by kernel_rfl) Try.func3 (by kernel_rfl)
    (of_decide_eq_true (by kernel_rfl)) (by unfold Func.isWrapper; rw [if_neg (by decide +kernel)]; exact ⟨rfl, rfl⟩)
    (fun os started H enc _ => meterFiles_lifted os started H enc)

end Go.Proofs.Ytcbjobfklcefpaa
