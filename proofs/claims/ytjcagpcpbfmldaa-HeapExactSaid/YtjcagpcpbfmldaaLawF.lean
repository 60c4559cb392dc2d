import Derived.Test.YtjcagpcpbfmldaaLawE
import Derived.Test.YtjcagpcpbfmldaaX10
/- All that is told of a heap, act by act. -/
set_option linter.unusedVariables false
set_option linter.unusedSimpArgs false
set_option maxRecDepth 100000
set_option maxHeartbeats 4000000
namespace Go.Proofs
open Gw Go.RowKit Go.IntWalk

theorem half_a {i : Nat} (h : i < 100000) : wr .i64 (Int.tdiv ((i : Nat) : Int) 2) = ((i / 2 : Nat) : Int) := par_b h

theorem exact_l1 (m : List Ttarnlaw13_Act) (hm : m.length ≤ 500) : ∀ n i (l : List TNode), l.length ≤ 500 → i ≤ m.length → m.length < n + i →
    g_tarnlaw13_HeapExact_l1 4000 m (some true) n l (i : Int) = some true := by
  intro n
  induction n with
  | zero => intro i l _ h1 h2; omega
  | succ n ih =>
    intro i l hl h1 h2
    rw [g_tarnlaw13_HeapExact_l1]
    by_cases h : i < m.length
    · have c0 : decide ((i : Int) < ((m.length : Nat) : Int)) = true := by simpa using h
      have ci : (0 : Int) ≤ (i : Int) ∧ (i : Int) < ((m.length : Nat) : Int) := by omega
      obtain ⟨y, hy, hs⟩ := step_is 1000 l m[i] hl
      have hs : g_tarnlaw13_step 4000 l m[i] = some (y, true) := hs
      have hc : g_tarnref0_CopyNodes 4000 y = some y := copy_is y 2000 (by omega)
      have e0 : g_tarnlaw13_order 4000 l 1000 = some (if isH l = true then (srt [] l).take 1000 else []) := order_is_take 1000 1000 l hl
      by_cases h25 : (i : Int) < 25
      · have K := ih (i + 1) y hy (by omega) (by omega)
        have S1 : bd (g_tarnlaw13_step 4000 l m[i]) (fun t612 => lt (!t612.2) fun c618 => br c618 (some false) (bd (g_tarnref0_CopyNodes 4000 t612.1) fun t619 => lt (wr .i64 ((i : Int) + 1)) fun x634 => g_tarnlaw13_HeapExact_l1 4000 m (some true) n t619 x634)) = some true := by
          rw [hs, p_bd, p_lt]
          simp only [Bool.not_true, p_brf, hc, p_bd, p_lt, inc_a (show i < 100000 by omega)]
          exact K
        have hh8 : heap_is l 3900 = heap_is l 3900 := rfl
        have hc1 : g_heap_Check 4000 l = some (if isH l = true then 0 else 1) := check_is l 3900
        have hc2 : g_tarnref12_Heap 4000 l = some (isH l) := heap_is l 3900
        by_cases hH : isH l = true
        · obtain ⟨h8, _, _, _⟩ := isH_all hH
          have hsl : (srt [] l).length = l.length := by rw [srt_len]; simp
          have e1 : (srt [] l).take 1000 = srt [] l := List.take_of_length_le (by omega)
          rw [if_pos hH, e1] at e0
          rw [if_pos hH] at hc1
          rw [hH] at hc2
          have hq : g_tarnref0_EqNodes 4000 (srt [] l) (srt [] l) = some true := eq_is _ 2000 (by omega)
          have e2 : g_tarnlaw13_order 4000 l (((srt [] l).length / 2 : Nat) : Int) = some ((srt [] l).take ((srt [] l).length / 2)) := by
            have := order_is_take 1000 ((srt [] l).length / 2) l hl
            rw [if_pos hH] at this
            exact this
          have hq2 : g_tarnref0_EqNodes 4000 ((srt [] l).take ((srt [] l).length / 2)) ((srt [] l).take ((srt [] l).length / 2)) = some true := eq_is _ 2000 (by simp; omega)
          have cg : (0 : Int) ≤ 0 ∧ 0 ≤ (((srt [] l).length / 2 : Nat) : Int) ∧ (((srt [] l).length / 2 : Nat) : Int) ≤ (((srt [] l).length : Nat) : Int) := by omega
          have hh := half_a (show (srt [] l).length < 100000 by omega)
          have oa : g_tarnref12_Order 4000 l = some (srt [] l) := order_all l 1000 hl
          have L : ∃ x z, g_heap_Least 4000 l = some (x, z) ∧ ∀ (K : TNode → Int → List TNode → Option Bool), (lt (decide ((((List.length l : Nat) : Int)) > 0)) fun c489 => br c489 (jn (fun (x490 : TNode) => K x490 0 (srt [] l)) fun K494 => gd ((0 : Int) ≤ 0 ∧ 0 < ((List.length l : Nat) : Int)) <| bd (l[Int.toNat 0]?) fun x497 => K494 x497) (K (TNode.mk 0 (TRank.mk 0 (TU256.mk 0 0 0 0))) 3 (srt [] l))) = K x z (srt [] l) := by
            simp only [g_heap_Least, hc1, p_bd, p_lt, bne_self_eq_false, p_brf]
            cases l with
            | nil => exact ⟨_, _, rfl, fun K => rfl⟩
            | cons x r =>
              have d0 : ((((x :: r).length : Nat) : Int) == 0) = false := by simp only [List.length_cons, beq_eq_false_iff_ne]; omega
              have d1 : decide ((((x :: r).length : Nat) : Int) > 0) = true := decide_eq_true (by simp only [List.length_cons]; omega)
              have d2 : (0 : Int) ≤ 0 ∧ 0 < (((x :: r).length : Nat) : Int) := ⟨by omega, by simp only [List.length_cons]; omega⟩
              simp only [d0, d1, p_brf, p_brt, p_gd d2, show Int.toNat 0 = 0 from rfl, List.getElem?_cons_zero, p_bd, p_jn]
              exact ⟨_, _, rfl, fun K => rfl⟩
          obtain ⟨x, z, L1, L2⟩ := L
          simp only [c0, h25, decide_true, p_lt, p_brt, p_brf, hc1, hc2, p_bd, g_tarnlaw13_num, L1, oa, beq_self_eq_true, bne_self_eq_false, Bool.not_true]
          simp only [p_lt] at L2
          simp only [L2, bne_self_eq_false, p_brf, p_brt, decide_true, Bool.not_true, e0, p_bd, hq, hh, p_gd cg, Int.toNat_natCast, e2, hq2]
          simp only [p_jn, p_brt, p_brf, p_gd ci, Int.toNat_natCast, List.getElem?_eq_getElem h, p_bd, bne_self_eq_false, decide_true, Bool.not_true, hq, hh, p_gd cg, e2, hq2]
          simpa only [p_lt] using S1
        · rw [Bool.not_eq_true] at hH
          have e2 : g_tarnlaw13_order 4000 l 0 = some [] := by
            have := order_is_take 1000 0 l hl
            simpa [hH] using this
          have hq : g_tarnref0_EqNodes 4000 [] [] = some true := eq_is _ 2000 (by simp)
          rw [hH] at hc2
          rw [if_neg (by simp [hH])] at hc1 e0
          have L1 : g_heap_Least 4000 l = some (TNode.mk 0 (TRank.mk 0 (TU256.mk 0 0 0 0)), 1) := by
            simp only [g_heap_Least, hc1, p_bd, p_lt, show ((1 : Int) != 0) = true from rfl, p_brt]
          simp only [c0, h25, decide_true, p_lt, p_brt, p_brf, hc1, hc2, p_bd, g_tarnlaw13_num, L1, show ((1 : Int) == 0) = false from rfl, bne_self_eq_false, Bool.not_true, Bool.not_false]
          simp only [p_jn, p_brf, p_brt, bne_self_eq_false, decide_true, Bool.not_true, e0, p_bd, hq, List.length_nil, show wr .i64 (Int.tdiv (((0 : Nat) : Int)) 2) = 0 from by kernel_rfl, e2, p_gd (show (0 : Int) ≤ 0 ∧ (0 : Int) ≤ 0 ∧ (0 : Int) ≤ ((0 : Nat) : Int) by decide), Int.toNat_zero, List.take_nil, p_gd ci, Int.toNat_natCast, List.getElem?_eq_getElem h]
          simpa only [p_lt] using S1
      · simp only [c0, p_brt, h25, decide_false, p_lt, p_brf]
        simp only [p_jn, p_brf]
    · have c0 : decide ((i : Int) < ((m.length : Nat) : Int)) = false := by simpa using h
      simp only [c0, p_brf, p_lt]
      simp only [p_jn, p_brf]

theorem exact_law (l : List TNode) (m : List Ttarnlaw13_Act) : g_tarnlaw13_HeapExact 4000 l m = some true := by
  simp only [g_tarnlaw13_HeapExact, heavy_is, p_bd]
  by_cases h1 : l.length ≤ 500
  · by_cases h2 : m.length ≤ 500
    · simp only [h1, h2, decide_true, Bool.and_self, Bool.not_true, p_brf, p_jn, wakes_is, p_bd, show g_tarnref0_CopyNodes 4000 l = some l from copy_is l 2000 (by omega)]
      exact exact_l1 m h2 4000 0 l h1 (by omega) (by omega)
    · simp only [h2, decide_false, Bool.and_false, Bool.not_false, p_brt]
  · simp only [h1, decide_false, Bool.false_and, Bool.not_false, p_brt]
end Go.Proofs
