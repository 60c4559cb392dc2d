import Derived.Test.YtjcagpcpbfmldaaOpen
import Derived.Test.YtjcagpcpbfmldaaT
import Derived.Test.YtjcagpcpbfmldaaProg
set_option linter.unusedVariables false
set_option linter.unusedSimpArgs false
set_option maxRecDepth 100000
namespace Go.Proofs
open Gw Go.RowKit Go.ChangeShapes Go.WideShapes
theorem op_3 : Opens Try.prog 3 (fun n => [.int .i64 n]) (fun n => (Lit.int .i64 n).wf = true) := opens_int (by kernel_rfl)
theorem op_27 : Opens Try.prog 27 (fun n => [.int .u64 n]) (fun n => (Lit.int .u64 n).wf = true) := opens_int (by kernel_rfl)
def TU256.wf (x : TU256) : Prop := (Lit.int .u64 x.e0).wf = true ∧ (Lit.int .u64 x.e1).wf = true ∧ (Lit.int .u64 x.e2).wf = true ∧ (Lit.int .u64 x.e3).wf = true
theorem op_29 : Opens Try.prog 29 TU256.cs TU256.wf := by
  intro H enc w base sp held n c x h
  obtain ⟨xs, m, _, _, hl, hxs, hf⟩ := DataW.trod_array (show Try.prog.underlying 29 = some (.array 4 27) from by kernel_rfl) h
  obtain ⟨c0, c1, c2, c3, rfl⟩ := len4 (hl.trans (show Try.prog.cellsOf 29 = 4 from by kernel_rfl))
  obtain ⟨y0, g0⟩ := elem_at (k := 0) hf hxs 0 1 (by kernel_rfl) (by decide)
  obtain ⟨a0, e0, w0⟩ := op_27 _ _ _ _ _ _ _ _ _ g0
  have d0 : [c0] = [vu a0] := e0
  simp only [List.cons.injEq, and_true] at d0
  obtain rfl := d0
  obtain ⟨y1, g1⟩ := elem_at (k := 0) hf hxs 1 1 (by kernel_rfl) (by decide)
  obtain ⟨a1, e1, w1⟩ := op_27 _ _ _ _ _ _ _ _ _ g1
  have d1 : [c1] = [vu a1] := e1
  simp only [List.cons.injEq, and_true] at d1
  obtain rfl := d1
  obtain ⟨y2, g2⟩ := elem_at (k := 0) hf hxs 2 1 (by kernel_rfl) (by decide)
  obtain ⟨a2, e2, w2⟩ := op_27 _ _ _ _ _ _ _ _ _ g2
  have d2 : [c2] = [vu a2] := e2
  simp only [List.cons.injEq, and_true] at d2
  obtain rfl := d2
  obtain ⟨y3, g3⟩ := elem_at (k := 0) hf hxs 3 1 (by kernel_rfl) (by decide)
  obtain ⟨a3, e3, w3⟩ := op_27 _ _ _ _ _ _ _ _ _ g3
  have d3 : [c3] = [vu a3] := e3
  simp only [List.cons.injEq, and_true] at d3
  obtain rfl := d3
  exact ⟨⟨a0, a1, a2, a3⟩, rfl, w0, w1, w2, w3⟩
def TRank.wf (x : TRank) : Prop := (Lit.int .i64 x.Dist).wf = true ∧ TU256.wf x.Tip
theorem op_31 : Opens Try.prog 31 TRank.cs TRank.wf := by
  intro H enc w base sp held n c x h
  obtain ⟨xs, m, _, _, hl, hxs, hf⟩ := DataW.trod_struct (show Try.prog.underlying 31 = some (.struct (Try.prog.fieldsOf 31)) from by kernel_rfl) h
  obtain ⟨c0, c1, c2, c3, c4, rfl⟩ := len5 (hl.trans (show Try.prog.cellsOf 31 = 5 from by kernel_rfl))
  obtain ⟨y0, g0, _⟩ := field_at hf hxs 0 3 0 1 (by kernel_rfl) (by kernel_rfl)
  obtain ⟨a0, e0, w0⟩ := op_3 _ _ _ _ _ _ _ _ _ g0
  have d0 : [c0] = [vi a0] := e0
  simp only [List.cons.injEq, and_true] at d0
  obtain rfl := d0
  obtain ⟨y1, g1, _⟩ := field_at hf hxs 1 29 1 4 (by kernel_rfl) (by kernel_rfl)
  obtain ⟨a1, e1, w1⟩ := op_29 _ _ _ _ _ _ _ _ _ g1
  have d1 : [c1, c2, c3, c4] = TU256.cs a1 := e1
  simp only [TU256.cs, List.cons.injEq, and_true] at d1
  obtain ⟨rfl, rfl, rfl, rfl⟩ := d1
  exact ⟨⟨a0, a1⟩, rfl, w0, w1⟩
def TNode.wf (x : TNode) : Prop := (Lit.int .i64 x.Acct).wf = true ∧ TRank.wf x.Rank
theorem op_33 : Opens Try.prog 33 TNode.cs TNode.wf := by
  intro H enc w base sp held n c x h
  obtain ⟨xs, m, _, _, hl, hxs, hf⟩ := DataW.trod_struct (show Try.prog.underlying 33 = some (.struct (Try.prog.fieldsOf 33)) from by kernel_rfl) h
  obtain ⟨c0, c1, c2, c3, c4, c5, rfl⟩ := len6 (hl.trans (show Try.prog.cellsOf 33 = 6 from by kernel_rfl))
  obtain ⟨y0, g0, _⟩ := field_at hf hxs 0 3 0 1 (by kernel_rfl) (by kernel_rfl)
  obtain ⟨a0, e0, w0⟩ := op_3 _ _ _ _ _ _ _ _ _ g0
  have d0 : [c0] = [vi a0] := e0
  simp only [List.cons.injEq, and_true] at d0
  obtain rfl := d0
  obtain ⟨y1, g1, _⟩ := field_at hf hxs 1 31 1 5 (by kernel_rfl) (by kernel_rfl)
  obtain ⟨a1, e1, w1⟩ := op_31 _ _ _ _ _ _ _ _ _ g1
  have d1 : [c1, c2, c3, c4, c5] = TRank.cs a1 := e1
  simp only [TRank.cs, List.cons.injEq, and_true] at d1
  obtain ⟨rfl, rfl, rfl, rfl, rfl⟩ := d1
  exact ⟨⟨a0, a1⟩, rfl, w0, w1⟩
def Ttarnlaw13_Act.wf (x : Ttarnlaw13_Act) : Prop := (Lit.int .i64 x.Do).wf = true ∧ TNode.wf x.N
theorem op_45 : Opens Try.prog 45 Ttarnlaw13_Act.cs Ttarnlaw13_Act.wf := by
  intro H enc w base sp held n c x h
  obtain ⟨xs, m, _, _, hl, hxs, hf⟩ := DataW.trod_struct (show Try.prog.underlying 45 = some (.struct (Try.prog.fieldsOf 45)) from by kernel_rfl) h
  obtain ⟨c0, c1, c2, c3, c4, c5, c6, rfl⟩ := len7 (hl.trans (show Try.prog.cellsOf 45 = 7 from by kernel_rfl))
  obtain ⟨y0, g0, _⟩ := field_at hf hxs 0 3 0 1 (by kernel_rfl) (by kernel_rfl)
  obtain ⟨a0, e0, w0⟩ := op_3 _ _ _ _ _ _ _ _ _ g0
  have d0 : [c0] = [vi a0] := e0
  simp only [List.cons.injEq, and_true] at d0
  obtain rfl := d0
  obtain ⟨y1, g1, _⟩ := field_at hf hxs 1 33 1 6 (by kernel_rfl) (by kernel_rfl)
  obtain ⟨a1, e1, w1⟩ := op_33 _ _ _ _ _ _ _ _ _ g1
  have d1 : [c1, c2, c3, c4, c5, c6] = TNode.cs a1 := e1
  simp only [TNode.cs, List.cons.injEq, and_true] at d1
  obtain ⟨rfl, rfl, rfl, rfl, rfl, rfl⟩ := d1
  exact ⟨⟨a0, a1⟩, rfl, w0, w1⟩
end Go.Proofs
