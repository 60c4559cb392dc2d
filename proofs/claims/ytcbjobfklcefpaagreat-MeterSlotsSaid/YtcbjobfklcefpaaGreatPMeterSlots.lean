/- What the law MeterSlots says of the given program holds: whatever book it is asked with, it answers true, and what it was asked with reads behind the call as before it. Conditions: none. -/
import Derived.Test.YtcbjobfklcefpaaGreatRows
import Derived.Test.YtcbjobfklcefpaaGreatLZb
import Derived.Test.YtcbjobfklcefpaaGreatOp
import Derived.SizedLaws
import Derived.ProofKit
import Derived.Lib.SmallJoins
set_option linter.unusedVariables false
set_option linter.unusedSimpArgs false
namespace Go.Proofs.YtcbjobfklcefpaaGreat
open Gw Go.ChangeShapes Go.WideShapes Go.ChangeAt Go.RowKit Go.Joins

theorem Tryz.ownMeterSlots : ownKnob Tryz.prog.godebug = none := by kernel_rfl
theorem Tryz.laidMeterSlots : laidOutB Tryz.prog = true := by kernel_rfl
theorem wfI {x : Int} (h : (Lit.int .i64 x).wf = true) : I1 x := by
  simp only [Lit.wf, Bool.and_eq_true, decide_eq_true_eq] at h
  have h1 : IntKind.i64.min = -9223372036854775808 := by decide
  have h2 : IntKind.i64.max = 9223372036854775807 := by decide
  rw [h1, h2] at h
  unfold I1; omega
theorem wfU {x : Int} (h : (Lit.int .u64 x).wf = true) : U1 x := by
  simp only [Lit.wf, Bool.and_eq_true, decide_eq_true_eq] at h
  have h1 : IntKind.u64.min = 0 := by decide
  have h2 : IntKind.u64.max = 18446744073709551615 := by decide
  rw [h1, h2] at h
  unfold U1; omega
theorem wf_U {a : TU256} (h : wf_U256 a) : U a := by
  obtain ⟨h0, h1, h2, h3⟩ := h
  exact ⟨wfU h0, wfU h1, wfU h2, wfU h3⟩
theorem wf_T {t : TTx} (h : wf_Tx t) : UT t ∧ LtT t := by
  obtain ⟨h0, h1, h2, h3, h4, h5, h6, ⟨h7, h8⟩, ⟨h9, h10⟩⟩ := h
  exact ⟨⟨wf_U h2, wf_U h3, wf_U h4, wf_U h5, wfI h0, wfI h1, wfI h6, fun x hx => wfU (h7 x hx)⟩, h8, h10, h9⟩
theorem wf_B {b : TBook} (h : wf_Book b) : Lt b := by
  obtain ⟨h0, h1, ⟨h2, h3⟩, ⟨h4, h5⟩, ⟨h6, h7⟩⟩ := h
  exact ⟨fun t ht => (wf_T (h4 t ht)).1, fun x hx => ⟨(wf_T (h6 x hx).1).1, wfI (h6 x hx).2⟩, fun a ha => ⟨wf_U (h2 a ha).2, wfI (h2 a ha).1⟩, wfI h0, h5, h7, h3, fun t ht => (wf_T (h4 t ht)).2, fun x hx => (wf_T (h6 x hx).1).2⟩

set_option maxRecDepth 100000 in
theorem meterSlots_lifted (os : Os) (started : os.Started) (H : Type) (enc : TypeId × Value → H) :
    ReturnsInHanded {} Tryz.checked os 3 .any (Rows.meterSlotsSpec.pre6 enc Tryz.prog Tryz.f3 Rows.meterSlotsRow.domain false) (Rows.meterSlotsSpec.post enc Tryz.prog Tryz.f3 false true false false) := by
  refine returnsInHanded_of_change_sized (C := Tryz.checked) Tryz.ownMeterSlots started (by kernel_rfl) Tryz.func3
    (ChangeSpec.witness6 (enc := enc) (C := Tryz.checked) false ⟨#[], #[.agg #[.int .i64 0, .int .i64 0, .int .u64 0, .int .u64 0, .int .u64 0, .int .u64 0, .int .i64 0, .slice none 0 0, .slice none 0 0, .slice none 0 0, .slice none 0 0, .slice none 0 0]], []⟩ 8 (by kernel_rfl) (by kernel_rfl) (by kernel_rfl) (by kernel_rfl)) ?_
  intro W base args ds gs before hval0 hW hcnd hsz _
  have hval : ∀ (j : Nat) t v, Tryz.f3.params[j]? = some t → args[j]? = some v → Value.okWide Tryz.prog W .any base t v := hval0
  have hW' := hW
  obtain ⟨p, q, hA0, hV, rfl, hfz, hnd⟩ := hW
  have hA : DataW.TrodAll enc Tryz.prog W 0 (fun _ => true) true Tryz.f3.params.toList args.toList ds p := hA0
  rw [Tryz.params3] at hA hval
  obtain ⟨v0, d0, rfl, rfl, h0⟩ := trodAll_one hA
  obtain ⟨rfl, rfl⟩ := trodVars_none hV
  have h0k := h0
  have hv0 := hval 0 34 v0 rfl rfl
  obtain ⟨fuel, h0'⟩ := h0
  have hu : Tryz.prog.underlying 34 = some (.struct (Tryz.prog.fieldsOf 34)) := by kernel_rfl
  have hli : light Tryz.prog 34 d0 := fun n hn => by
    have hm := DataW.weights_mem_each (P := Tryz.prog) (ts := [34]) (ds := [d0]) (j := 0) rfl rfl n hn
    have hs := List.all_eq_true.1 hsz n (by rw [Tryz.params3]; exact hm)
    exact of_decide_eq_true hs
  obtain ⟨a, ⟨s1, s2, s3, s4, s5, hc, r1, r2, r3, r4, r5⟩, hwf⟩ := opw_34 H enc W 0 true fuel _ _ h0' hli
  have hv : v0 = .agg #[vi a.B.Room, vi a.B.Head.Number, vu a.B.Head.Base.e0, vu a.B.Head.Base.e1, vu a.B.Head.Base.e2, vu a.B.Head.Base.e3, vi a.B.Head.Excess, s1, s2, s3, s4, s5] := by
    simp only [Value.okWide, hu] at hv0
    obtain ⟨cs', e, _⟩ := hv0
    subst e
    have hc' : cs'.toList = [vi a.B.Room, vi a.B.Head.Number, vu a.B.Head.Base.e0, vu a.B.Head.Base.e1, vu a.B.Head.Base.e2, vu a.B.Head.Base.e3, vi a.B.Head.Excess, s1, s2, s3, s4, s5] := hc
    rw [show cs' = #[vi a.B.Room, vi a.B.Head.Number, vu a.B.Head.Base.e0, vu a.B.Head.Base.e1, vu a.B.Head.Base.e2, vu a.B.Head.Base.e3, vi a.B.Head.Excess, s1, s2, s3, s4, s5] from Array.toList_inj.1 hc']
  subst hv
  clear hA0 hval0
  simp only [List.append_nil] at hW'
  obtain ⟨N, hN⟩ := meterSlots_law a (wf_B hwf.1)
  have hret := g_tarnlaw27_MeterSlots_w N s1 s2 s3 s4 s5 a true (hN N (Nat.le_refl _)) W r1 r2 r3 r4 r5
  refine Calls.mono hret fun e W' ⟨v, he, hv, hst⟩ => ?_
  subst he; subst hv
  have hb := hst.below
  exact ⟨_, rfl, _, _, _, [], _, [], hW', trodAll_mk1 (shut_bool Tryz.underlying4 _), trodAll_mk1 (Below.trod Tryz.laidMeterSlots (by kernel_rfl) (of_decide_eq_true (by kernel_rfl)) h0k hb (fun x hx => by simpa using hW'.lt x hx)), rfl, hb.frame _, fun h => by cases h⟩

theorem meterSlots_holds : Rows.MeterSlotsSaid :=
  OpenClaim.holds_of_wide 3 Tryz.f3 rfl rfl rfl rfl rfl rfl rfl ⟨rfl, rfl, rfl, rfl, rfl⟩ rfl rfl rfl rfl rfl (by kernel_rfl) Tryz.func3 (by kernel_rfl)
    (of_decide_eq_true (by kernel_rfl)) (by unfold Func.isWrapper; rw [if_neg (by decide +kernel)]; exact ⟨rfl, rfl⟩)
    (fun os started H enc _ => meterSlots_lifted os started H enc)

end Go.Proofs.YtcbjobfklcefpaaGreat
