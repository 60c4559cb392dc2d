/- How what comes in is read. -/
import Derived.Test.YtcbjobfklcefpaaGreatT
import Derived.Test.YtcbjobfklcefpaaGreatGwp
import Derived.SizedLaws
set_option linter.unusedVariables false
set_option maxRecDepth 100000
namespace Go.Proofs
open Gw Go Go.RowKit
theorem opw_3 : OpensW Tryz.prog 3 (fun _ a c => c = [vi a]) (fun a => (Lit.int .i64 a).wf = true) := OpensW.of (opens_int (by kernel_rfl))
theorem opw_22 : OpensW Tryz.prog 22 (fun _ a c => c = [vu a]) (fun a => (Lit.int .u64 a).wf = true) := OpensW.of (opens_int (by kernel_rfl))
theorem opl_4 {l : List Value} (h : l.length = 4) : ∃ c0 c1 c2 c3, l = [c0, c1, c2, c3] := by
  match l, h with
  | [c0, c1, c2, c3], _ => exact ⟨_, _, _, _, rfl⟩
def wf_U256 (x : TU256) : Prop := (Lit.int .u64 x.e0).wf = true ∧ (Lit.int .u64 x.e1).wf = true ∧ (Lit.int .u64 x.e2).wf = true ∧ (Lit.int .u64 x.e3).wf = true
theorem opw_24 : OpensW Tryz.prog 24 (fun _ a c => c = TU256.cs a) wf_U256 := by
  intro H enc w base held n c x h hx
  have hu : Tryz.prog.underlying 24 = some (.array 4 22) := by kernel_rfl
  obtain ⟨xs, m, _, hxe, hl, hxs, hf⟩ := DataW.trod_array hu h
  have hx2 : light Tryz.prog 24 (.agg (xs.map (·.1))) := by rw [hxe] at hx; exact hx
  obtain ⟨c0, c1, c2, c3, rfl⟩ := opl_4 (hl.trans (show Tryz.prog.cellsOf 24 = 4 from by kernel_rfl))
  obtain ⟨y0, g0, l0⟩ := elemW hu hf hxs hx2 0 1 (by kernel_rfl) (by decide)
  obtain ⟨a0, e0, w0⟩ := opw_22 _ _ _ _ _ _ _ _ g0 l0
  have d0 : [c0] = [vu a0] := e0
  simp only [List.cons.injEq, and_true] at d0
  obtain rfl := d0
  obtain ⟨y1, g1, l1⟩ := elemW hu hf hxs hx2 1 1 (by kernel_rfl) (by decide)
  obtain ⟨a1, e1, w1⟩ := opw_22 _ _ _ _ _ _ _ _ g1 l1
  have d1 : [c1] = [vu a1] := e1
  simp only [List.cons.injEq, and_true] at d1
  obtain rfl := d1
  obtain ⟨y2, g2, l2⟩ := elemW hu hf hxs hx2 2 1 (by kernel_rfl) (by decide)
  obtain ⟨a2, e2, w2⟩ := opw_22 _ _ _ _ _ _ _ _ g2 l2
  have d2 : [c2] = [vu a2] := e2
  simp only [List.cons.injEq, and_true] at d2
  obtain rfl := d2
  obtain ⟨y3, g3, l3⟩ := elemW hu hf hxs hx2 3 1 (by kernel_rfl) (by decide)
  obtain ⟨a3, e3, w3⟩ := opw_22 _ _ _ _ _ _ _ _ g3 l3
  have d3 : [c3] = [vu a3] := e3
  simp only [List.cons.injEq, and_true] at d3
  obtain rfl := d3
  exact ⟨⟨a0, a1, a2, a3⟩, rfl, ⟨w0, w1, w2, w3⟩⟩
theorem opl_6 {l : List Value} (h : l.length = 6) : ∃ c0 c1 c2 c3 c4 c5, l = [c0, c1, c2, c3, c4, c5] := by
  match l, h with
  | [c0, c1, c2, c3, c4, c5], _ => exact ⟨_, _, _, _, _, _, rfl⟩
def wf_Head (x : THead) : Prop := (Lit.int .i64 x.Number).wf = true ∧ wf_U256 x.Base ∧ (Lit.int .i64 x.Excess).wf = true
theorem opw_26 : OpensW Tryz.prog 26 (fun _ a c => c = THead.cs a) wf_Head := by
  intro H enc w base held n c x h hx
  have hu : Tryz.prog.underlying 26 = some (.struct (Tryz.prog.fieldsOf 26)) := by kernel_rfl
  obtain ⟨xs, m, _, hxe, hl, hxs, hf⟩ := DataW.trod_struct hu h
  have hx2 : light Tryz.prog 26 (.agg (xs.map (·.1))) := by rw [hxe] at hx; exact hx
  obtain ⟨c0, c1, c2, c3, c4, c5, rfl⟩ := opl_6 (hl.trans (show Tryz.prog.cellsOf 26 = 6 from by kernel_rfl))
  obtain ⟨y0, g0, l0⟩ := fieldW hu hf hxs hx2 0 3 0 1 (by kernel_rfl) (by kernel_rfl)
  obtain ⟨a0, e0, w0⟩ := opw_3 _ _ _ _ _ _ _ _ g0 l0
  have d0 : [c0] = [vi a0] := e0
  simp only [List.cons.injEq, and_true] at d0
  obtain rfl := d0
  obtain ⟨y1, g1, l1⟩ := fieldW hu hf hxs hx2 1 24 1 4 (by kernel_rfl) (by kernel_rfl)
  obtain ⟨a1, e1, w1⟩ := opw_24 _ _ _ _ _ _ _ _ g1 l1
  have d1 : [c1, c2, c3, c4] = TU256.cs a1 := e1
  simp only [TU256.cs, List.cons.injEq, and_true] at d1
  obtain ⟨rfl, rfl, rfl, rfl⟩ := d1
  obtain ⟨y2, g2, l2⟩ := fieldW hu hf hxs hx2 2 3 5 1 (by kernel_rfl) (by kernel_rfl)
  obtain ⟨a2, e2, w2⟩ := opw_3 _ _ _ _ _ _ _ _ g2 l2
  have d2 : [c5] = [vi a2] := e2
  simp only [List.cons.injEq, and_true] at d2
  obtain rfl := d2
  exact ⟨⟨a0, a1, a2⟩, rfl, ⟨w0, w1, w2⟩⟩
theorem opl_5 {l : List Value} (h : l.length = 5) : ∃ c0 c1 c2 c3 c4, l = [c0, c1, c2, c3, c4] := by
  match l, h with
  | [c0, c1, c2, c3, c4], _ => exact ⟨_, _, _, _, _, rfl⟩
def wf_Acct (x : TAcct) : Prop := (Lit.int .i64 x.Nonce).wf = true ∧ wf_U256 x.Balance
theorem opw_71 : OpensW Tryz.prog 71 (fun _ a c => c = TAcct.cs a) wf_Acct := by
  intro H enc w base held n c x h hx
  have hu : Tryz.prog.underlying 71 = some (.struct (Tryz.prog.fieldsOf 71)) := by kernel_rfl
  obtain ⟨xs, m, _, hxe, hl, hxs, hf⟩ := DataW.trod_struct hu h
  have hx2 : light Tryz.prog 71 (.agg (xs.map (·.1))) := by rw [hxe] at hx; exact hx
  obtain ⟨c0, c1, c2, c3, c4, rfl⟩ := opl_5 (hl.trans (show Tryz.prog.cellsOf 71 = 5 from by kernel_rfl))
  obtain ⟨y0, g0, l0⟩ := fieldW hu hf hxs hx2 0 3 0 1 (by kernel_rfl) (by kernel_rfl)
  obtain ⟨a0, e0, w0⟩ := opw_3 _ _ _ _ _ _ _ _ g0 l0
  have d0 : [c0] = [vi a0] := e0
  simp only [List.cons.injEq, and_true] at d0
  obtain rfl := d0
  obtain ⟨y1, g1, l1⟩ := fieldW hu hf hxs hx2 1 24 1 4 (by kernel_rfl) (by kernel_rfl)
  obtain ⟨a1, e1, w1⟩ := opw_24 _ _ _ _ _ _ _ _ g1 l1
  have d1 : [c1, c2, c3, c4] = TU256.cs a1 := e1
  simp only [TU256.cs, List.cons.injEq, and_true] at d1
  obtain ⟨rfl, rfl, rfl, rfl⟩ := d1
  exact ⟨⟨a0, a1⟩, rfl, ⟨w0, w1⟩⟩
theorem opw_9 : OpensW Tryz.prog 9 (fun _ a c => c = [.string a]) (fun a => slen a ≤ 140737488355328) := opens_strW (by kernel_rfl)
theorem opl_21 {l : List Value} (h : l.length = 21) : ∃ c0 c1 c2 c3 c4 c5 c6 c7 c8 c9 c10 c11 c12 c13 c14 c15 c16 c17 c18 c19 c20, l = [c0, c1, c2, c3, c4, c5, c6, c7, c8, c9, c10, c11, c12, c13, c14, c15, c16, c17, c18, c19, c20] := by
  match l, h with
  | [c0, c1, c2, c3, c4, c5, c6, c7, c8, c9, c10, c11, c12, c13, c14, c15, c16, c17, c18, c19, c20], _ => exact ⟨_, _, _, _, _, _, _, _, _, _, _, _, _, _, _, _, _, _, _, _, _, rfl⟩
def wf_Tx (x : TTx) : Prop := (Lit.int .i64 x.From).wf = true ∧ (Lit.int .i64 x.Nonce).wf = true ∧ wf_U256 x.Tip ∧ wf_U256 x.Cap ∧ wf_U256 x.BlobCap ∧ wf_U256 x.Value_ ∧ (Lit.int .i64 x.Gas).wf = true ∧ ((∀ y ∈ x.Hashes, (Lit.int .u64 y).wf = true) ∧ x.Hashes.length ≤ 140737488355328) ∧ ((∀ y ∈ x.Blobs, slen y ≤ 140737488355328) ∧ x.Blobs.length ≤ 140737488355328)
theorem opw_44 : OpensW Tryz.prog 44 dTTx.rel wf_Tx := by
  intro H enc w base held n c x h hx
  have hu : Tryz.prog.underlying 44 = some (.struct (Tryz.prog.fieldsOf 44)) := by kernel_rfl
  obtain ⟨xs, m, _, hxe, hl, hxs, hf⟩ := DataW.trod_struct hu h
  have hx2 : light Tryz.prog 44 (.agg (xs.map (·.1))) := by rw [hxe] at hx; exact hx
  obtain ⟨c0, c1, c2, c3, c4, c5, c6, c7, c8, c9, c10, c11, c12, c13, c14, c15, c16, c17, c18, c19, c20, rfl⟩ := opl_21 (hl.trans (show Tryz.prog.cellsOf 44 = 21 from by kernel_rfl))
  obtain ⟨y0, g0, l0⟩ := fieldW hu hf hxs hx2 0 3 0 1 (by kernel_rfl) (by kernel_rfl)
  obtain ⟨a0, e0, w0⟩ := opw_3 _ _ _ _ _ _ _ _ g0 l0
  have d0 : [c0] = [vi a0] := e0
  simp only [List.cons.injEq, and_true] at d0
  obtain rfl := d0
  obtain ⟨y1, g1, l1⟩ := fieldW hu hf hxs hx2 1 3 1 1 (by kernel_rfl) (by kernel_rfl)
  obtain ⟨a1, e1, w1⟩ := opw_3 _ _ _ _ _ _ _ _ g1 l1
  have d1 : [c1] = [vi a1] := e1
  simp only [List.cons.injEq, and_true] at d1
  obtain rfl := d1
  obtain ⟨y2, g2, l2⟩ := fieldW hu hf hxs hx2 2 24 2 4 (by kernel_rfl) (by kernel_rfl)
  obtain ⟨a2, e2, w2⟩ := opw_24 _ _ _ _ _ _ _ _ g2 l2
  have d2 : [c2, c3, c4, c5] = TU256.cs a2 := e2
  simp only [TU256.cs, List.cons.injEq, and_true] at d2
  obtain ⟨rfl, rfl, rfl, rfl⟩ := d2
  obtain ⟨y3, g3, l3⟩ := fieldW hu hf hxs hx2 3 24 6 4 (by kernel_rfl) (by kernel_rfl)
  obtain ⟨a3, e3, w3⟩ := opw_24 _ _ _ _ _ _ _ _ g3 l3
  have d3 : [c6, c7, c8, c9] = TU256.cs a3 := e3
  simp only [TU256.cs, List.cons.injEq, and_true] at d3
  obtain ⟨rfl, rfl, rfl, rfl⟩ := d3
  obtain ⟨y4, g4, l4⟩ := fieldW hu hf hxs hx2 4 24 10 4 (by kernel_rfl) (by kernel_rfl)
  obtain ⟨a4, e4, w4⟩ := opw_24 _ _ _ _ _ _ _ _ g4 l4
  have d4 : [c10, c11, c12, c13] = TU256.cs a4 := e4
  simp only [TU256.cs, List.cons.injEq, and_true] at d4
  obtain ⟨rfl, rfl, rfl, rfl⟩ := d4
  obtain ⟨y5, g5, l5⟩ := fieldW hu hf hxs hx2 5 24 14 4 (by kernel_rfl) (by kernel_rfl)
  obtain ⟨a5, e5, w5⟩ := opw_24 _ _ _ _ _ _ _ _ g5 l5
  have d5 : [c14, c15, c16, c17] = TU256.cs a5 := e5
  simp only [TU256.cs, List.cons.injEq, and_true] at d5
  obtain ⟨rfl, rfl, rfl, rfl⟩ := d5
  obtain ⟨y6, g6, l6⟩ := fieldW hu hf hxs hx2 6 3 18 1 (by kernel_rfl) (by kernel_rfl)
  obtain ⟨a6, e6, w6⟩ := opw_3 _ _ _ _ _ _ _ _ g6 l6
  have d6 : [c18] = [vi a6] := e6
  simp only [List.cons.injEq, and_true] at d6
  obtain rfl := d6
  obtain ⟨y7, g7, l7⟩ := fieldW hu hf hxs hx2 7 41 19 1 (by kernel_rfl) (by kernel_rfl)
  obtain ⟨v7, a7, e7, r7, w7, k7⟩ := rdF_of_trod (F := fU64) (show Tryz.prog.underlying 41 = some (.slice 22) from by kernel_rfl) opw_22 (show Tryz.prog.cellsOf 22 = 1 from by kernel_rfl) g7 l7
  have d7 : [c19] = [v7] := e7
  obtain rfl := (List.cons.inj d7).1
  obtain ⟨y8, g8, l8⟩ := fieldW hu hf hxs hx2 8 42 20 1 (by kernel_rfl) (by kernel_rfl)
  obtain ⟨v8, a8, e8, r8, w8, k8⟩ := rdF_of_trod (F := fStr) (show Tryz.prog.underlying 42 = some (.slice 9) from by kernel_rfl) opw_9 (show Tryz.prog.cellsOf 9 = 1 from by kernel_rfl) g8 l8
  have d8 : [c20] = [v8] := e8
  obtain rfl := (List.cons.inj d8).1
  exact ⟨⟨a0, a1, a2, a3, a4, a5, a6, a7, a8⟩, ⟨_, _, rfl, r7, r8⟩, ⟨w0, w1, w2, w3, w4, w5, w6, ⟨w7, few k7 (show 0 < Tryz.prog.bytesOf 22 from of_decide_eq_true (by kernel_rfl))⟩, ⟨w8, few k8 (show 0 < Tryz.prog.bytesOf 9 from of_decide_eq_true (by kernel_rfl))⟩⟩⟩
theorem opl_22 {l : List Value} (h : l.length = 22) : ∃ c0 c1 c2 c3 c4 c5 c6 c7 c8 c9 c10 c11 c12 c13 c14 c15 c16 c17 c18 c19 c20 c21, l = [c0, c1, c2, c3, c4, c5, c6, c7, c8, c9, c10, c11, c12, c13, c14, c15, c16, c17, c18, c19, c20, c21] := by
  match l, h with
  | [c0, c1, c2, c3, c4, c5, c6, c7, c8, c9, c10, c11, c12, c13, c14, c15, c16, c17, c18, c19, c20, c21], _ => exact ⟨_, _, _, _, _, _, _, _, _, _, _, _, _, _, _, _, _, _, _, _, _, _, rfl⟩
def wf_Held (x : THeld) : Prop := wf_Tx x.Tx ∧ (Lit.int .i64 x.Block).wf = true
theorem opw_46 : OpensW Tryz.prog 46 dTHeld.rel wf_Held := by
  intro H enc w base held n c x h hx
  have hu : Tryz.prog.underlying 46 = some (.struct (Tryz.prog.fieldsOf 46)) := by kernel_rfl
  obtain ⟨xs, m, _, hxe, hl, hxs, hf⟩ := DataW.trod_struct hu h
  have hx2 : light Tryz.prog 46 (.agg (xs.map (·.1))) := by rw [hxe] at hx; exact hx
  obtain ⟨c0, c1, c2, c3, c4, c5, c6, c7, c8, c9, c10, c11, c12, c13, c14, c15, c16, c17, c18, c19, c20, c21, rfl⟩ := opl_22 (hl.trans (show Tryz.prog.cellsOf 46 = 22 from by kernel_rfl))
  obtain ⟨y0, g0, l0⟩ := fieldW hu hf hxs hx2 0 44 0 21 (by kernel_rfl) (by kernel_rfl)
  obtain ⟨a0, e0, w0⟩ := opw_44 _ _ _ _ _ _ _ _ g0 l0
  obtain ⟨s0_0, s0_1, e0, f0_0, f0_1⟩ := e0
  have d0 : [c0, c1, c2, c3, c4, c5, c6, c7, c8, c9, c10, c11, c12, c13, c14, c15, c16, c17, c18, c19, c20] = [vi a0.From, vi a0.Nonce, vu a0.Tip.e0, vu a0.Tip.e1, vu a0.Tip.e2, vu a0.Tip.e3, vu a0.Cap.e0, vu a0.Cap.e1, vu a0.Cap.e2, vu a0.Cap.e3, vu a0.BlobCap.e0, vu a0.BlobCap.e1, vu a0.BlobCap.e2, vu a0.BlobCap.e3, vu a0.Value_.e0, vu a0.Value_.e1, vu a0.Value_.e2, vu a0.Value_.e3, vi a0.Gas, s0_0, s0_1] := e0
  simp only [List.cons.injEq, and_true] at d0
  obtain ⟨rfl, rfl, rfl, rfl, rfl, rfl, rfl, rfl, rfl, rfl, rfl, rfl, rfl, rfl, rfl, rfl, rfl, rfl, rfl, rfl, rfl⟩ := d0
  obtain ⟨y1, g1, l1⟩ := fieldW hu hf hxs hx2 1 3 21 1 (by kernel_rfl) (by kernel_rfl)
  obtain ⟨a1, e1, w1⟩ := opw_3 _ _ _ _ _ _ _ _ g1 l1
  have d1 : [c21] = [vi a1] := e1
  simp only [List.cons.injEq, and_true] at d1
  obtain rfl := d1
  exact ⟨⟨a0, a1⟩, ⟨_, _, rfl, f0_0, f0_1⟩, ⟨w0, w1⟩⟩
theorem opl_10 {l : List Value} (h : l.length = 10) : ∃ c0 c1 c2 c3 c4 c5 c6 c7 c8 c9, l = [c0, c1, c2, c3, c4, c5, c6, c7, c8, c9] := by
  match l, h with
  | [c0, c1, c2, c3, c4, c5, c6, c7, c8, c9], _ => exact ⟨_, _, _, _, _, _, _, _, _, _, rfl⟩
def wf_Book (x : TBook) : Prop := (Lit.int .i64 x.Room).wf = true ∧ wf_Head x.Head ∧ ((∀ y ∈ x.Accts, wf_Acct y) ∧ x.Accts.length ≤ 140737488355328) ∧ ((∀ y ∈ x.Txs, wf_Tx y) ∧ x.Txs.length ≤ 140737488355328) ∧ ((∀ y ∈ x.Limbo, wf_Held y) ∧ x.Limbo.length ≤ 140737488355328)
theorem opw_31 : OpensW Tryz.prog 31 dTBook.rel wf_Book := by
  intro H enc w base held n c x h hx
  have hu : Tryz.prog.underlying 31 = some (.struct (Tryz.prog.fieldsOf 31)) := by kernel_rfl
  obtain ⟨xs, m, _, hxe, hl, hxs, hf⟩ := DataW.trod_struct hu h
  have hx2 : light Tryz.prog 31 (.agg (xs.map (·.1))) := by rw [hxe] at hx; exact hx
  obtain ⟨c0, c1, c2, c3, c4, c5, c6, c7, c8, c9, rfl⟩ := opl_10 (hl.trans (show Tryz.prog.cellsOf 31 = 10 from by kernel_rfl))
  obtain ⟨y0, g0, l0⟩ := fieldW hu hf hxs hx2 0 3 0 1 (by kernel_rfl) (by kernel_rfl)
  obtain ⟨a0, e0, w0⟩ := opw_3 _ _ _ _ _ _ _ _ g0 l0
  have d0 : [c0] = [vi a0] := e0
  simp only [List.cons.injEq, and_true] at d0
  obtain rfl := d0
  obtain ⟨y1, g1, l1⟩ := fieldW hu hf hxs hx2 1 26 1 6 (by kernel_rfl) (by kernel_rfl)
  obtain ⟨a1, e1, w1⟩ := opw_26 _ _ _ _ _ _ _ _ g1 l1
  have d1 : [c1, c2, c3, c4, c5, c6] = THead.cs a1 := e1
  simp only [THead.cs, List.cons.injEq, and_true] at d1
  obtain ⟨rfl, rfl, rfl, rfl, rfl, rfl⟩ := d1
  obtain ⟨y2, g2, l2⟩ := fieldW hu hf hxs hx2 2 27 7 1 (by kernel_rfl) (by kernel_rfl)
  obtain ⟨v2, a2, e2, r2, w2, k2⟩ := rdF_of_trod (F := fTAcct) (show Tryz.prog.underlying 27 = some (.slice 71) from by kernel_rfl) opw_71 (show Tryz.prog.cellsOf 71 = 5 from by kernel_rfl) g2 l2
  have d2 : [c7] = [v2] := e2
  obtain rfl := (List.cons.inj d2).1
  obtain ⟨y3, g3, l3⟩ := fieldW hu hf hxs hx2 3 28 8 1 (by kernel_rfl) (by kernel_rfl)
  obtain ⟨v3, a3, e3, r3, w3, k3⟩ := rdD_of_trod (D := dTTx) (show Tryz.prog.underlying 28 = some (.slice 44) from by kernel_rfl) opw_44 (show Tryz.prog.cellsOf 44 = 21 from by kernel_rfl) g3 l3
  have d3 : [c8] = [v3] := e3
  obtain rfl := (List.cons.inj d3).1
  obtain ⟨y4, g4, l4⟩ := fieldW hu hf hxs hx2 4 29 9 1 (by kernel_rfl) (by kernel_rfl)
  obtain ⟨v4, a4, e4, r4, w4, k4⟩ := rdD_of_trod (D := dTHeld) (show Tryz.prog.underlying 29 = some (.slice 46) from by kernel_rfl) opw_46 (show Tryz.prog.cellsOf 46 = 22 from by kernel_rfl) g4 l4
  have d4 : [c9] = [v4] := e4
  obtain rfl := (List.cons.inj d4).1
  exact ⟨⟨a0, a1, a2, a3, a4⟩, ⟨_, _, _, rfl, r2, r3, r4⟩, ⟨w0, w1, ⟨w2, few k2 (show 0 < Tryz.prog.bytesOf 71 from of_decide_eq_true (by kernel_rfl))⟩, ⟨w3, few k3 (show 0 < Tryz.prog.bytesOf 44 from of_decide_eq_true (by kernel_rfl))⟩, ⟨w4, few k4 (show 0 < Tryz.prog.bytesOf 46 from of_decide_eq_true (by kernel_rfl))⟩⟩⟩
theorem opl_12 {l : List Value} (h : l.length = 12) : ∃ c0 c1 c2 c3 c4 c5 c6 c7 c8 c9 c10 c11, l = [c0, c1, c2, c3, c4, c5, c6, c7, c8, c9, c10, c11] := by
  match l, h with
  | [c0, c1, c2, c3, c4, c5, c6, c7, c8, c9, c10, c11], _ => exact ⟨_, _, _, _, _, _, _, _, _, _, _, _, rfl⟩
def wf_tarnlaw16_Ask (x : Ttarnlaw16_Ask) : Prop := wf_Book x.B ∧ ((∀ y ∈ x.L, wf_Tx y) ∧ x.L.length ≤ 140737488355328) ∧ ((∀ y ∈ x.N, (Lit.int .i64 y).wf = true) ∧ x.N.length ≤ 140737488355328)
theorem opw_34 : OpensW Tryz.prog 34 dTtarnlaw16_Ask.rel wf_tarnlaw16_Ask := by
  intro H enc w base held n c x h hx
  have hu : Tryz.prog.underlying 34 = some (.struct (Tryz.prog.fieldsOf 34)) := by kernel_rfl
  obtain ⟨xs, m, _, hxe, hl, hxs, hf⟩ := DataW.trod_struct hu h
  have hx2 : light Tryz.prog 34 (.agg (xs.map (·.1))) := by rw [hxe] at hx; exact hx
  obtain ⟨c0, c1, c2, c3, c4, c5, c6, c7, c8, c9, c10, c11, rfl⟩ := opl_12 (hl.trans (show Tryz.prog.cellsOf 34 = 12 from by kernel_rfl))
  obtain ⟨y0, g0, l0⟩ := fieldW hu hf hxs hx2 0 31 0 10 (by kernel_rfl) (by kernel_rfl)
  obtain ⟨a0, e0, w0⟩ := opw_31 _ _ _ _ _ _ _ _ g0 l0
  obtain ⟨s0_0, s0_1, s0_2, e0, f0_0, f0_1, f0_2⟩ := e0
  have d0 : [c0, c1, c2, c3, c4, c5, c6, c7, c8, c9] = [vi a0.Room, vi a0.Head.Number, vu a0.Head.Base.e0, vu a0.Head.Base.e1, vu a0.Head.Base.e2, vu a0.Head.Base.e3, vi a0.Head.Excess, s0_0, s0_1, s0_2] := e0
  simp only [List.cons.injEq, and_true] at d0
  obtain ⟨rfl, rfl, rfl, rfl, rfl, rfl, rfl, rfl, rfl, rfl⟩ := d0
  obtain ⟨y1, g1, l1⟩ := fieldW hu hf hxs hx2 1 28 10 1 (by kernel_rfl) (by kernel_rfl)
  obtain ⟨v1, a1, e1, r1, w1, k1⟩ := rdD_of_trod (D := dTTx) (show Tryz.prog.underlying 28 = some (.slice 44) from by kernel_rfl) opw_44 (show Tryz.prog.cellsOf 44 = 21 from by kernel_rfl) g1 l1
  have d1 : [c10] = [v1] := e1
  obtain rfl := (List.cons.inj d1).1
  obtain ⟨y2, g2, l2⟩ := fieldW hu hf hxs hx2 2 32 11 1 (by kernel_rfl) (by kernel_rfl)
  obtain ⟨v2, a2, e2, r2, w2, k2⟩ := rdF_of_trod (F := fI64) (show Tryz.prog.underlying 32 = some (.slice 3) from by kernel_rfl) opw_3 (show Tryz.prog.cellsOf 3 = 1 from by kernel_rfl) g2 l2
  have d2 : [c11] = [v2] := e2
  obtain rfl := (List.cons.inj d2).1
  exact ⟨⟨a0, a1, a2⟩, ⟨_, _, _, _, _, rfl, f0_0, f0_1, f0_2, r1, r2⟩, ⟨w0, ⟨w1, few k1 (show 0 < Tryz.prog.bytesOf 44 from of_decide_eq_true (by kernel_rfl))⟩, ⟨w2, few k2 (show 0 < Tryz.prog.bytesOf 3 from of_decide_eq_true (by kernel_rfl))⟩⟩⟩
end Go.Proofs
