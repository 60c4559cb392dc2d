/- Numbers of 256 bits: what the program's and the page's functions compute. -/
import Derived.Test.YtcbjobfklcefpaaGreatLA
import Derived.Test.YtcbjobfklcefpaaGreatY4
set_option linter.unusedVariables false
set_option linter.unusedSimpArgs false
set_option maxRecDepth 100000
set_option maxHeartbeats 1000000
namespace Go.Proofs
open Gw
def U1 (x : Int) : Prop := 0 ≤ x ∧ x < 18446744073709551616
def U (a : TU256) : Prop := U1 a.e0 ∧ U1 a.e1 ∧ U1 a.e2 ∧ U1 a.e3
def iv (a : TU256) : Int := a.e0 + a.e1 * 18446744073709551616 + a.e2 * 340282366920938463463374607431768211456 + a.e3 * 6277101735386680763835789423207666416102355444464034512896
def mkU (v : Int) : TU256 := ⟨v % 18446744073709551616, v / 18446744073709551616 % 18446744073709551616, v / 340282366920938463463374607431768211456 % 18446744073709551616, v / 6277101735386680763835789423207666416102355444464034512896 % 18446744073709551616⟩
def M4 : Int := 115792089237316195423570985008687907853269984665640564039457584007913129639936
def oU : TU256 := ⟨0, 0, 0, 0⟩
theorem mkU_U (v : Int) : U (mkU v) := by
  simp only [U, U1, mkU]
  omega
/-! comparing -/
def cU (a b : TU256) : Int :=
  if a.e3 < b.e3 then -1 else if b.e3 < a.e3 then 1 else
  if a.e2 < b.e2 then -1 else if b.e2 < a.e2 then 1 else
  if a.e1 < b.e1 then -1 else if b.e1 < a.e1 then 1 else
  if a.e0 < b.e0 then -1 else if b.e0 < a.e0 then 1 else 0
theorem ite_some {α : Type} {c : Prop} [Decidable c] {a b : α} : (if c then some a else some b) = some (if c then a else b) := by split <;> rfl
theorem k3 : wr .i64 2 = 2 := wr_i _ (by omega) (by omega)
theorem k2 : wr .i64 1 = 1 := wr_i _ (by omega) (by omega)
theorem k1 : wr .i64 0 = 0 := wr_i _ (by omega) (by omega)
theorem k0 : wr .i64 (-1) = -1 := wr_i _ (by omega) (by omega)
theorem u256_Cmp (a b : TU256) (k : Nat) : g_u256_Cmp (k + 5) a b = some (cU a b) := by
  simp [g_u256_Cmp, g_u256_Cmp_l1, p_lt, p_jn, p_br, p_gd, p_bd, k3, k2, k1, k0, cU, ite_some]
theorem ref1_Cmp (a b : TU256) (k : Nat) : g_tarnref1_Cmp (k + 5) a b = some (cU a b) := by
  simp [g_tarnref1_Cmp, g_tarnref1_Cmp_l1, p_lt, p_jn, p_br, p_gd, p_bd, k3, k2, k1, k0, cU, ite_some]
/-! adding -/
theorem add_step (a b : TU256) (K) (f n : Nat) (x0 x1 x2 x3 c : Int) (ha : U a) (hb : U b) (hc : 0 ≤ c ∧ c ≤ 1) :
    g_u256_Add_l1 a b K f (n + 1) x0 x1 x2 x3 c 0 = g_u256_Add_l1 a b K f n ((a.e0 + b.e0 + c) % 18446744073709551616) x1 x2 x3 ((a.e0 + b.e0 + c) / 18446744073709551616) 1 ∧
    g_u256_Add_l1 a b K f (n + 1) x0 x1 x2 x3 c 1 = g_u256_Add_l1 a b K f n x0 ((a.e1 + b.e1 + c) % 18446744073709551616) x2 x3 ((a.e1 + b.e1 + c) / 18446744073709551616) 2 ∧
    g_u256_Add_l1 a b K f (n + 1) x0 x1 x2 x3 c 2 = g_u256_Add_l1 a b K f n x0 x1 ((a.e2 + b.e2 + c) % 18446744073709551616) x3 ((a.e2 + b.e2 + c) / 18446744073709551616) 3 ∧
    g_u256_Add_l1 a b K f (n + 1) x0 x1 x2 x3 c 3 = g_u256_Add_l1 a b K f n x0 x1 x2 ((a.e3 + b.e3 + c) % 18446744073709551616) ((a.e3 + b.e3 + c) / 18446744073709551616) 4 := by
  obtain ⟨⟨_, _⟩, ⟨_, _⟩, ⟨_, _⟩, ⟨_, _⟩⟩ := ha
  obtain ⟨⟨_, _⟩, ⟨_, _⟩, ⟨_, _⟩, ⟨_, _⟩⟩ := hb
  have k4 : wr .i64 (0 + 1) = 1 := wr_i _ (by omega) (by omega)
  have k5 : wr .i64 (1 + 1) = 2 := wr_i _ (by omega) (by omega)
  have k6 : wr .i64 (2 + 1) = 3 := wr_i _ (by omega) (by omega)
  have k7 : wr .i64 (3 + 1) = 4 := wr_i _ (by omega) (by omega)
  simp only [g_u256_Add_l1, p_lt, p_jn, dec_t (show (0 : Int) < 4 by omega), dec_t (show (1 : Int) < 4 by omega), dec_t (show (2 : Int) < 4 by omega), dec_t (show (3 : Int) < 4 by omega), p_brt, k4, k5, k6, k7]
  refine ⟨?_, ?_, ?_, ?_⟩ <;>
  · rw [p_gd (by omega)]
    show bd (some _) _ = _
    rw [p_bd, p_gd (by omega)]
    show bd (some _) _ = _
    rw [p_bd, p_gd (by omega), p_gd (by omega)]
    rfl
theorem add_end (a b : TU256) (K) (f n : Nat) (x0 x1 x2 x3 c : Int) : g_u256_Add_l1 a b K f (n + 1) x0 x1 x2 x3 c 4 = K x0 x1 x2 x3 c := by
  simp only [g_u256_Add_l1, p_lt, p_jn, dec_f (show ¬ (4 : Int) < 4 by omega), p_brf]
theorem u256_Add {a b : TU256} (ha : U a) (hb : U b) (k : Nat) : g_u256_Add (k + 5) a b = some (if iv a + iv b < M4 then (mkU (iv a + iv b), 0) else (oU, 8)) := by
  have ha' := ha
  have hb' := hb
  obtain ⟨⟨_, _⟩, ⟨_, _⟩, ⟨_, _⟩, ⟨_, _⟩⟩ := ha'
  obtain ⟨⟨_, _⟩, ⟨_, _⟩, ⟨_, _⟩, ⟨_, _⟩⟩ := hb'
  simp only [g_u256_Add, p_jn]
  rw [(add_step a b _ _ _ _ _ _ _ _ ha hb (by omega)).1, (add_step a b _ _ _ _ _ _ _ _ ha hb (by omega)).2.1, (add_step a b _ _ _ _ _ _ _ _ ha hb (by omega)).2.2.1,
    (add_step a b _ _ _ _ _ _ _ _ ha hb (by omega)).2.2.2, add_end]
  simp only [p_lt, p_br, decide_eq_true_eq]
  by_cases h : iv a + iv b < M4
  · rw [if_pos h, if_neg (by simp only [iv, M4] at h; omega)]
    simp only [mkU, iv, Option.some.injEq, Prod.mk.injEq, TU256.mk.injEq, and_true] at *
    omega
  · rw [if_neg h, if_pos (by simp only [iv, M4] at h; omega)]
    rfl
end Go.Proofs
