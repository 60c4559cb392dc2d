/- The page's sum; marks, hashes, what a transaction costs, whether it may be. -/
import Derived.Test.YtcbjobfklcefpaaGreatLE
import Derived.Test.YtcbjobfklcefpaaGreatY4
set_option linter.unusedVariables false
set_option linter.unusedSimpArgs false
set_option maxRecDepth 100000
set_option maxHeartbeats 1000000
namespace Go.Proofs
open Gw
theorem radd_step (a b : TU256) (K) (f n : Nat) (x0 x1 x2 x3 c : Int) (ha : U a) (hb : U b) (hc : 0 ≤ c ∧ c ≤ 1) :
    g_tarnref1_Add_l1 a b K f (n + 1) x0 x1 x2 x3 c 0 = g_tarnref1_Add_l1 a b K f n ((a.e0 + b.e0 + c) % 18446744073709551616) x1 x2 x3 ((a.e0 + b.e0 + c) / 18446744073709551616) 1 ∧
    g_tarnref1_Add_l1 a b K f (n + 1) x0 x1 x2 x3 c 1 = g_tarnref1_Add_l1 a b K f n x0 ((a.e1 + b.e1 + c) % 18446744073709551616) x2 x3 ((a.e1 + b.e1 + c) / 18446744073709551616) 2 ∧
    g_tarnref1_Add_l1 a b K f (n + 1) x0 x1 x2 x3 c 2 = g_tarnref1_Add_l1 a b K f n x0 x1 ((a.e2 + b.e2 + c) % 18446744073709551616) x3 ((a.e2 + b.e2 + c) / 18446744073709551616) 3 ∧
    g_tarnref1_Add_l1 a b K f (n + 1) x0 x1 x2 x3 c 3 = g_tarnref1_Add_l1 a b K f n x0 x1 x2 ((a.e3 + b.e3 + c) % 18446744073709551616) ((a.e3 + b.e3 + c) / 18446744073709551616) 4 := by
  obtain ⟨⟨_, _⟩, ⟨_, _⟩, ⟨_, _⟩, ⟨_, _⟩⟩ := ha
  obtain ⟨⟨_, _⟩, ⟨_, _⟩, ⟨_, _⟩, ⟨_, _⟩⟩ := hb
  have k4 : wr .i64 (0 + 1) = 1 := wr_i _ (by omega) (by omega)
  have k5 : wr .i64 (1 + 1) = 2 := wr_i _ (by omega) (by omega)
  have k6 : wr .i64 (2 + 1) = 3 := wr_i _ (by omega) (by omega)
  have k7 : wr .i64 (3 + 1) = 4 := wr_i _ (by omega) (by omega)
  have key : ∀ (x y : Int) (F : Int → Int → Option (TU256 × Bool)), 0 ≤ x → x < 18446744073709551616 → 0 ≤ y → y < 18446744073709551616 →
      (if decide ((x + y) % 18446744073709551616 < x) = true then if decide (((x + y) % 18446744073709551616 + c) % 18446744073709551616 < (x + y) % 18446744073709551616) = true then F (((x + y) % 18446744073709551616 + c) % 18446744073709551616) 1 else F (((x + y) % 18446744073709551616 + c) % 18446744073709551616) 1
       else if decide (((x + y) % 18446744073709551616 + c) % 18446744073709551616 < (x + y) % 18446744073709551616) = true then F (((x + y) % 18446744073709551616 + c) % 18446744073709551616) 1 else F (((x + y) % 18446744073709551616 + c) % 18446744073709551616) 0) =
      F ((x + y + c) % 18446744073709551616) ((x + y + c) / 18446744073709551616) := by
    intro x y F h1 h2 h3 h4
    have e : ((x + y) % 18446744073709551616 + c) % 18446744073709551616 = (x + y + c) % 18446744073709551616 := by omega
    simp only [decide_eq_true_eq, e]
    (repeat' split) <;> (congr 1; omega)
  simp only [g_tarnref1_Add_l1, p_lt, p_jn, dec_t (show (0 : Int) < 4 by omega), dec_t (show (1 : Int) < 4 by omega), dec_t (show (2 : Int) < 4 by omega), dec_t (show (3 : Int) < 4 by omega), p_brt, k4, k5, k6, k7]
  refine ⟨?_, ?_, ?_, ?_⟩
  · rw [p_gd (by omega)]
    show bd (some _) _ = _
    rw [p_bd, p_gd (by omega)]
    show bd (some _) _ = _
    rw [p_bd, p_gd (by omega)]
    show bd (some _) _ = _
    simp only [p_bd, p_br, wr_u, p_gd (show (0 : Int) ≤ 0 ∧ (0 : Int) < 4 by omega)]
    exact key a.e0 b.e0 (fun s c => g_tarnref1_Add_l1 a b K f n s x1 x2 x3 c 1) (by omega) (by omega) (by omega) (by omega)
  · rw [p_gd (by omega)]
    show bd (some _) _ = _
    rw [p_bd, p_gd (by omega)]
    show bd (some _) _ = _
    rw [p_bd, p_gd (by omega)]
    show bd (some _) _ = _
    simp only [p_bd, p_br, wr_u, p_gd (show (0 : Int) ≤ 1 ∧ (1 : Int) < 4 by omega)]
    exact key a.e1 b.e1 (fun s c => g_tarnref1_Add_l1 a b K f n x0 s x2 x3 c 2) (by omega) (by omega) (by omega) (by omega)
  · rw [p_gd (by omega)]
    show bd (some _) _ = _
    rw [p_bd, p_gd (by omega)]
    show bd (some _) _ = _
    rw [p_bd, p_gd (by omega)]
    show bd (some _) _ = _
    simp only [p_bd, p_br, wr_u, p_gd (show (0 : Int) ≤ 2 ∧ (2 : Int) < 4 by omega)]
    exact key a.e2 b.e2 (fun s c => g_tarnref1_Add_l1 a b K f n x0 x1 s x3 c 3) (by omega) (by omega) (by omega) (by omega)
  · rw [p_gd (by omega)]
    show bd (some _) _ = _
    rw [p_bd, p_gd (by omega)]
    show bd (some _) _ = _
    rw [p_bd, p_gd (by omega)]
    show bd (some _) _ = _
    simp only [p_bd, p_br, wr_u, p_gd (show (0 : Int) ≤ 3 ∧ (3 : Int) < 4 by omega)]
    exact key a.e3 b.e3 (fun s c => g_tarnref1_Add_l1 a b K f n x0 x1 x2 s c 4) (by omega) (by omega) (by omega) (by omega)
theorem radd_end (a b : TU256) (K) (f n : Nat) (x0 x1 x2 x3 c : Int) : g_tarnref1_Add_l1 a b K f (n + 1) x0 x1 x2 x3 c 4 = K x0 x1 x2 x3 c := by
  rw [g_tarnref1_Add_l1]
  simp only [p_lt]
  rw [dec_f (by omega), p_brf]
def addS (a b : TU256) : TU256 × Int := if iv a + iv b < M4 then (mkU (iv a + iv b), 0) else (oU, 8)
theorem u256_Add' {a b : TU256} (ha : U a) (hb : U b) (k : Nat) : g_u256_Add (k + 5) a b = some (addS a b) := u256_Add ha hb k
theorem ref1_Add {a b : TU256} (ha : U a) (hb : U b) (k : Nat) : g_tarnref1_Add (k + 5) a b = some (okB (addS a b)) := by
  have ha' := ha
  have hb' := hb
  obtain ⟨⟨_, _⟩, ⟨_, _⟩, ⟨_, _⟩, ⟨_, _⟩⟩ := ha'
  obtain ⟨⟨_, _⟩, ⟨_, _⟩, ⟨_, _⟩, ⟨_, _⟩⟩ := hb'
  simp only [g_tarnref1_Add, p_jn]
  rw [(radd_step a b _ _ _ _ _ _ _ _ ha hb (by omega)).1, (radd_step a b _ _ _ _ _ _ _ _ ha hb (by omega)).2.1, (radd_step a b _ _ _ _ _ _ _ _ ha hb (by omega)).2.2.1,
    (radd_step a b _ _ _ _ _ _ _ _ ha hb (by omega)).2.2.2, radd_end]
  simp only [p_lt, p_br, decide_eq_true_eq]
  unfold addS
  by_cases h : iv a + iv b < M4
  · rw [if_pos h, if_neg (by simp only [iv, M4] at h; omega)]
    simp only [okB, mkU, iv, Option.some.injEq, Prod.mk.injEq, TU256.mk.injEq] at *
    refine ⟨?_, rfl⟩
    omega
  · rw [if_neg h, if_pos (by simp only [iv, M4] at h; omega)]
    rfl
theorem addS_U (a b : TU256) : U (addS a b).1 := by
  unfold addS; split
  · exact mkU_U _
  · simp only [U, U1, oU]; omega
theorem mulS_U (a b : TU256) : U (mulS a b).1 := by
  unfold mulS; split
  · exact mkU_U _
  · simp only [U, U1, oU]; omega
end Go.Proofs
