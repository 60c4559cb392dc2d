/- What a transaction costs, whether it may be. -/
import Derived.Test.YtcbjobfklcefpaaGreatLG
set_option linter.unusedVariables false
set_option linter.unusedSimpArgs false
set_option maxRecDepth 100000
set_option maxHeartbeats 1000000
namespace Go.Proofs
open Gw
def I1 (x : Int) : Prop := -9223372036854775808 ≤ x ∧ x < 9223372036854775808
/-- what the machine's words let a transaction be -/
def UT (t : TTx) : Prop := U t.Tip ∧ U t.Cap ∧ U t.BlobCap ∧ U t.Value_ ∧ I1 t.From ∧ I1 t.Nonce ∧ I1 t.Gas ∧ ∀ x ∈ t.Hashes, U1 x
def gasU (x : Int) : TU256 := ⟨wr .u64 x, 0, 0, 0⟩
theorem gasU_U (x : Int) : U (gasU x) := by
  simp only [U, U1, gasU, wr_u]; omega
def costS (t : TTx) : TU256 × Bool :=
  if (mulS t.Cap (gasU t.Gas)).2 = 0 ∧ (mulS t.BlobCap (gasU (131072 * ((t.Blobs.length : Nat) : Int)))).2 = 0 ∧ (addS (mulS t.Cap (gasU t.Gas)).1 (mulS t.BlobCap (gasU (131072 * ((t.Blobs.length : Nat) : Int)))).1).2 = 0 then
    okB (addS (addS (mulS t.Cap (gasU t.Gas)).1 (mulS t.BlobCap (gasU (131072 * ((t.Blobs.length : Nat) : Int)))).1).1 t.Value_)
  else (oU, false)
theorem costS_U (t : TTx) : U (costS t).1 := by
  unfold costS
  split
  · exact addS_U _ _
  · simp only [U, U1, oU]; omega
def n4 (t : TTx) : Prop := 1 ≤ t.Blobs.length ∧ t.Blobs.length ≤ 4
theorem okB_f {a b : TU256} (h : (addS a b).2 ≠ 0) : okB (addS a b) = (oU, false) := by
  unfold addS at *
  split
  · rename_i h'; simp [h'] at h
  · rfl
theorem cost_l1 (a b c d : TU256 × Int) (K) (f n : Nat) : g_tx_cost_l1 a b c d K f (n + 5) 0 = if a.2 = 0 ∧ b.2 = 0 ∧ c.2 = 0 ∧ d.2 = 0 then K else some (oU, false) := by
  have k4 : wr .i64 1 = 1 := wr_i _ (by omega) (by omega)
  have k5 : wr .i64 2 = 2 := wr_i _ (by omega) (by omega)
  have k6 : wr .i64 3 = 3 := wr_i _ (by omega) (by omega)
  have k7 : wr .i64 4 = 4 := wr_i _ (by omega) (by omega)
  simp [g_tx_cost_l1, p_lt, p_br, p_gd, p_bd, k4, k5, k6, k7]
  by_cases h1 : a.2 = 0 <;> by_cases h2 : b.2 = 0 <;> by_cases h3 : c.2 = 0 <;> by_cases h4 : d.2 = 0 <;> simp [h1, h2, h3, h4, oU]
theorem tx_cost {t : TTx} (h : UT t) (f : Nat) (hf : 10 ≤ f) : g_tx_cost f t = some (if 1 ≤ t.Blobs.length ∧ t.Blobs.length ≤ 4 then costS t else (oU, false)) := by
  obtain ⟨k, rfl⟩ : ∃ k, f = k + 5 := ⟨f - 5, by omega⟩
  obtain ⟨h1, h2, h3, h4, h5, h6, h7, h8⟩ := h
  simp only [g_tx_cost, g_blob_Gas, p_lt, p_jn, p_br, decide_eq_true_eq]
  by_cases n1 : 1 ≤ t.Blobs.length ∧ t.Blobs.length ≤ 4
  · rw [if_neg (by omega), if_neg (by omega), p_bd]
    have e1 : wr .i64 (((t.Blobs.length : Nat) : Int) * 131072) = 131072 * ((t.Blobs.length : Nat) : Int) := by rw [wr_i _ (by omega) (by omega)]; omega
    rw [if_pos n1, e1]
    show (if (((0 : Int) != 0) = true) then _ else _) = _
    rw [if_neg (by simp)]
    have m1 := u256_Mul h2 (gasU_U t.Gas) k
    have m2 := u256_Mul h3 (gasU_U (131072 * ((t.Blobs.length : Nat) : Int))) k
    have m3 := u256_Add' (mulS_U t.Cap (gasU t.Gas)) (mulS_U t.BlobCap (gasU (131072 * ((t.Blobs.length : Nat) : Int)))) k
    have m4 := u256_Add' (addS_U (mulS t.Cap (gasU t.Gas)).1 (mulS t.BlobCap (gasU (131072 * ((t.Blobs.length : Nat) : Int)))).1) h4 k
    unfold gasU at m1 m2 m3 m4
    rw [m1, p_bd, m2, p_bd, m3, p_bd, m4, p_bd, cost_l1]
    unfold costS gasU
    generalize mulS t.Cap _ = a
    generalize mulS t.BlobCap _ = b
    generalize addS a.1 b.1 = c
    by_cases g1 : a.2 = 0 <;> by_cases g2 : b.2 = 0 <;> by_cases g3 : c.2 = 0 <;> simp only [g1, g2, g3, true_and, false_and, if_true, if_false]
    by_cases g4 : (addS c.1 t.Value_).2 = 0
    · rw [if_pos g4]; simp [okB, g4]
    · rw [if_neg g4, okB_f g4]
  · rw [if_neg n1]
    by_cases n2 : ((t.Blobs.length : Nat) : Int) < 1
    · rw [if_pos n2, if_pos trivial, p_bd]; rfl
    · rw [if_neg n2, if_pos (by omega), p_bd]; rfl
theorem ref1_Of (x : Int) (f : Nat) : g_tarnref1_Of f x = some (gasU x) := by simp only [g_tarnref1_Of, p_lt]; rfl
theorem ref7_Cost {t : TTx} (h : UT t) (hn : n4 t) (f : Nat) (hf : 10 ≤ f) : g_tarnref7_Cost f t = some (costS t) := by
  obtain ⟨k, rfl⟩ : ∃ k, f = k + 9 := ⟨f - 9, by omega⟩
  obtain ⟨h1, h2, h3, h4, h5, h6, h7, h8⟩ := h
  unfold n4 at hn
  simp only [g_tarnref7_Cost, p_lt, p_jn, p_br, ref1_Of, p_bd]
  have e1 : wr .i64 (131072 * ((t.Blobs.length : Nat) : Int)) = 131072 * ((t.Blobs.length : Nat) : Int) := wr_i _ (by omega) (by omega)
  have m1 := ref1_Mul h2 (gasU_U t.Gas) k
  have m2 := ref1_Mul h3 (gasU_U (131072 * ((t.Blobs.length : Nat) : Int))) k
  have m3 := ref1_Add (mulS_U t.Cap (gasU t.Gas)) (mulS_U t.BlobCap (gasU (131072 * ((t.Blobs.length : Nat) : Int)))) (k + 4)
  have m4 := ref1_Add (addS_U (mulS t.Cap (gasU t.Gas)).1 (mulS t.BlobCap (gasU (131072 * ((t.Blobs.length : Nat) : Int)))).1) h4 (k + 4)
  rw [m1, p_bd, e1, m2, p_bd]
  unfold costS
  generalize mulS t.Cap (gasU t.Gas) = a at *
  generalize mulS t.BlobCap (gasU (131072 * ((t.Blobs.length : Nat) : Int))) = b at *
  by_cases g1 : a.2 = 0 <;> by_cases g2 : b.2 = 0
  all_goals simp only [okB, g1, g2, beq_self_eq_true, Bool.not_true, Bool.false_eq_true, if_false, true_and, false_and, if_true, beq_iff_eq, Bool.not_eq_true', beq_eq_false_iff_ne, ne_eq, not_true_eq_false, not_false_eq_true, and_false]
  · rw [show k + 9 = k + 4 + 5 by omega, m3, p_bd]
    simp only [okB] at *
    by_cases g3 : (addS a.1 b.1).2 = 0
    · simp only [g3, beq_self_eq_true, not_true_eq_false, if_false, if_true]
      have m4' : g_tarnref1_Add (k + 4 + 5) (addS a.fst b.fst).fst t.Value_ = some (okB (addS (addS a.fst b.fst).fst t.Value_)) := m4
      simp only [Bool.true_eq_false, if_false]
      rw [m4', p_bd]; rfl
    · simp [g3, oU]
  · rfl
  · rfl
  · rfl
def txOK (t : TTx) : Bool := decide ((0 ≤ t.From ∧ t.From < 8) ∧ (0 ≤ t.Nonce ∧ t.Nonce ≤ 1099511627776) ∧ (0 ≤ t.Gas ∧ t.Gas ≤ 1073741824) ∧ cU t.Tip t.Cap ≤ 0 ∧ fitsS t.Hashes t.Blobs = 0 ∧ (costS t).2 = true)
theorem fits_n4 {t : TTx} (h : fitsS t.Hashes t.Blobs = 0) : n4 t := by
  unfold fitsS at h
  unfold n4
  split at h
  · omega
  · omega
theorem tx_Check {t : TTx} (h : UT t) (f : Nat) (hf : 100 ≤ f) : g_tx_Check f t = some (if txOK t then 0 else 1) := by
  simp only [g_tx_Check, p_lt, p_jn, p_br, decide_eq_true_eq, bne_iff_ne]
  obtain ⟨k, rfl⟩ : ∃ k, f = k + 5 := ⟨f - 5, by omega⟩
  have hno : ∀ p : Prop, ¬ p → (txOK t = true → p) → (if txOK t = true then (0 : Int) else 1) = 1 := fun p hp hq => by rw [if_neg (fun g => hp (hq g))]
  unfold txOK at *
  simp only [decide_eq_true_eq] at *
  by_cases c1 : t.From < 0
  · rw [if_pos c1, hno _ (show ¬ (0 ≤ t.From) by omega) fun g => g.1.1] <;> try simp
  rw [if_neg c1]
  by_cases c2 : t.From ≥ 8
  · rw [if_pos c2, hno _ (show ¬ (t.From < 8) by omega) fun g => g.1.2] <;> try simp
  rw [if_neg c2]
  by_cases c3 : t.Nonce < 0
  · rw [if_pos c3, hno _ (show ¬ (0 ≤ t.Nonce) by omega) fun g => g.2.1.1] <;> try simp
  rw [if_neg c3]
  by_cases c4 : t.Nonce > 1099511627776
  · rw [if_pos c4, hno _ (show ¬ (t.Nonce ≤ 1099511627776) by omega) fun g => g.2.1.2] <;> try simp
  rw [if_neg c4]
  by_cases c5 : t.Gas < 0
  · rw [if_pos c5, hno _ (show ¬ (0 ≤ t.Gas) by omega) fun g => g.2.2.1.1] <;> try simp
  rw [if_neg c5]
  by_cases c6 : t.Gas > 1073741824
  · rw [if_pos c6, hno _ (show ¬ (t.Gas ≤ 1073741824) by omega) fun g => g.2.2.1.2] <;> try simp
  rw [if_neg c6, u256_Cmp, p_bd]
  by_cases c7 : cU t.Tip t.Cap > 0
  · rw [if_pos c7, hno _ (show ¬ (cU t.Tip t.Cap ≤ 0) by omega) fun g => g.2.2.2.1] <;> try simp
  rw [if_neg c7, blob_Fits _ _ _ (by omega), p_bd]
  by_cases c8 : fitsS t.Hashes t.Blobs ≠ 0
  · rw [if_pos c8, hno _ c8 fun g => g.2.2.2.2.1] <;> try simp
  rw [if_neg c8, tx_cost h _ (by omega), p_bd]
  have c8' : fitsS t.Hashes t.Blobs = 0 := by omega
  have hn := fits_n4 c8'
  unfold n4 at hn
  rw [if_pos hn]
  by_cases c9 : (costS t).2 = true
  · rw [c9]; simp only [Bool.not_true, Bool.false_eq_true, if_false]
    rw [if_pos ⟨⟨by omega, by omega⟩, ⟨by omega, by omega⟩, ⟨by omega, by omega⟩, by omega, c8', trivial⟩]
  · rw [hno _ c9 fun g => g.2.2.2.2.2]
    simp [c9]
theorem ref0_Num (x m : Int) (f : Nat) : g_tarnref0_Num f x m = some (decide (0 ≤ x ∧ x ≤ m)) := by
  simp only [g_tarnref0_Num, p_lt, p_jn, p_br, decide_eq_true_eq]
  by_cases h1 : 0 ≤ x
  · rw [if_pos (by omega)]; simp [h1]
  · rw [if_neg (by omega)]; simp [h1]
theorem ref7_Tx {t : TTx} (h : UT t) (f : Nat) (hf : 100 ≤ f) : g_tarnref7_Tx f t = some (txOK t) := by
  simp only [g_tarnref7_Tx, p_lt, p_jn, p_br, decide_eq_true_eq, bne_iff_ne, ref0_Num, p_bd, Bool.not_eq_true', decide_eq_false_iff_not]
  obtain ⟨k, rfl⟩ : ∃ k, f = k + 5 := ⟨f - 5, by omega⟩
  have hno : ∀ p : Prop, ¬ p → (txOK t = true → p) → txOK t = false := fun p hp hq => by
    cases hb : txOK t
    · rfl
    · exact absurd (hq hb) hp
  unfold txOK at *
  simp only [decide_eq_true_eq] at *
  by_cases c1 : 0 ≤ t.From ∧ t.From ≤ 7
  rotate_left
  · rw [if_pos c1, hno _ c1 fun g => ⟨g.1.1, by omega⟩] <;> try simp
  rw [if_neg (by simpa using c1)]
  by_cases c3 : 0 ≤ t.Nonce ∧ t.Nonce ≤ 1099511627776
  rotate_left
  · rw [if_pos c3, hno _ c3 fun g => g.2.1] <;> try simp
  rw [if_neg (by simpa using c3)]
  by_cases c5 : 0 ≤ t.Gas ∧ t.Gas ≤ 1073741824
  rotate_left
  · rw [if_pos c5, hno _ c5 fun g => g.2.2.1] <;> try simp
  rw [if_neg (by simpa using c5), ref1_Cmp, p_bd]
  by_cases c7 : cU t.Tip t.Cap > 0
  · rw [if_pos c7, hno _ (show ¬ (cU t.Tip t.Cap ≤ 0) by omega) fun g => g.2.2.2.1] <;> try simp
  rw [if_neg c7, ref4_Fits _ _ _ (by omega), p_bd]
  by_cases c8 : fitsS t.Hashes t.Blobs ≠ 0
  · rw [if_pos c8, hno _ c8 fun g => g.2.2.2.2.1] <;> try simp
  rw [if_neg c8]
  have c8' : fitsS t.Hashes t.Blobs = 0 := by omega
  rw [ref7_Cost h (fits_n4 c8') _ (by omega), p_bd]
  by_cases c9 : (costS t).2 = true
  · rw [c9, dec_t ⟨⟨by omega, by omega⟩, c3, c5, by omega, c8', rfl⟩]
  · rw [hno _ c9 fun g => g.2.2.2.2.2]
    simp [c9]
theorem tx_Cost {t : TTx} (h : UT t) (f : Nat) (hf : 100 ≤ f) : g_tx_Cost f t = some (if txOK t then ((costS t).1, 0) else (oU, 1)) := by
  simp only [g_tx_Cost, tx_Check h f hf, p_bd, p_lt, p_br]
  by_cases c : txOK t = true
  · have c' := c
    unfold txOK at c'
    have hn := fits_n4 (of_decide_eq_true c').2.2.2.2.1
    unfold n4 at hn
    rw [if_pos c, if_pos c, tx_cost h f (by omega), if_pos hn]
    simp [p_bd]
  · rw [if_neg c, if_neg c]; simp [oU]
end Go.Proofs
