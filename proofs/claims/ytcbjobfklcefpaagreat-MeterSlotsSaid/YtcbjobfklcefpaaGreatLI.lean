/- The bytes of a number of 256 bits. -/
import Derived.Test.YtcbjobfklcefpaaGreatLH
import Derived.Test.YtcbjobfklcefpaaGreatY4
set_option linter.unusedVariables false
set_option linter.unusedSimpArgs false
set_option maxRecDepth 100000
set_option maxHeartbeats 1000000
namespace Go.Proofs
open Gw
/-- how many bits a limb needs -/
def BL (x r : Int) : Prop := 0 ≤ r ∧ r ≤ 64 ∧ x < 2 ^ r.toNat ∧ (0 < x → 0 < r ∧ 2 ^ (r.toNat - 1) ≤ x)
theorem tab_ok : ∀ i : Fin 256, sget kstr0 ((i.val : Nat) : Int) = ((if i.val = 0 then 0 else Nat.log2 i.val + 1 : Nat) : Int) := by decide +kernel
theorem tab_BL {x : Int} (h0 : 0 ≤ x) (h : x < 256) : ∃ r : Nat, sget kstr0 x = (r : Int) ∧ r ≤ 8 ∧ x < 2 ^ r ∧ (0 < x → 0 < r ∧ 2 ^ (r - 1) ≤ x) := by
  obtain ⟨n, rfl⟩ := Int.eq_ofNat_of_zero_le h0
  have hn : n < 256 := by omega
  have := tab_ok ⟨n, hn⟩
  simp only at this
  refine ⟨_, this, ?_, ?_, ?_⟩
  · split
    · omega
    · rename_i h1
      have : Nat.log2 n < 8 := (Nat.log2_lt h1).2 (by omega)
      omega
  · split
    · rename_i h1; subst h1; decide
    · rename_i h1
      have := (Nat.log2_lt h1 (k := Nat.log2 n + 1)).1 (by omega)
      exact_mod_cast this
  · intro hp
    have h1 : n ≠ 0 := by omega
    rw [if_neg h1]
    refine ⟨by omega, ?_⟩
    have := Nat.log2_self_le h1
    rw [Nat.add_sub_cancel]
    exact_mod_cast this
theorem ishr_k {x : Int} (h : 0 ≤ x) (k : Nat) (hk : k ≤ 64) (y : Int) (hy : y = (k : Int)) : ishr .u64 x y = x / 2 ^ k := by subst hy; exact shr_u h k hk
theorem Len64_ok {x : Int} (h : U1 x) (f : Nat) : ∃ r, g_math_bits_Len64 f x = some r ∧ BL x r := by
  obtain ⟨h0, h1⟩ := h
  simp only [g_math_bits_Len64, p_jn, p_lt, p_br, decide_eq_true_eq]
  have fin : ∀ (y c : Int), 0 ≤ y → y < 256 → 0 ≤ c → c ≤ 56 → ∃ r : Nat, gd ((0 : Int) ≤ wr .u8 y ∧ wr .u8 y < slen kstr0) (some (wr .i64 (c + wr .i64 (sget kstr0 (wr .u8 y))))) = some (c + (r : Int)) ∧ r ≤ 8 ∧ y < 2 ^ r ∧ (0 < y → 0 < r ∧ 2 ^ (r - 1) ≤ y) := by
    intro y c hy hy' hc hc'
    obtain ⟨r, e, h1, h2, h3⟩ := tab_BL hy hy'
    refine ⟨r, ?_, h1, h2, h3⟩
    have e1 : wr .u8 y = y := by rw [wr_b]; omega
    rw [e1, e, p_gd (by have : slen kstr0 = 256 := rfl; omega), wr_n r (by omega), wr_i _ (by omega) (by omega)]
  have s32 : ishr .u64 x 32 = x / 4294967296 := shr_32 h0
  have s16 : ∀ z : Int, 0 ≤ z → ishr .u64 z 16 = z / 65536 := fun z hz => ishr_k hz 16 (by omega) 16 rfl
  have s8 : ∀ z : Int, 0 ≤ z → ishr .u64 z 8 = z / 256 := fun z hz => ishr_k hz 8 (by omega) 8 rfl
  have a16 : wr .i64 (0 + 16) = 16 := wr_i _ (by omega) (by omega)
  have b16 : wr .i64 (32 + 16) = 48 := wr_i _ (by omega) (by omega)
  have a8 : wr .i64 (0 + 8) = 8 := wr_i _ (by omega) (by omega)
  have b8 : wr .i64 (16 + 8) = 24 := wr_i _ (by omega) (by omega)
  have c8 : wr .i64 (32 + 8) = 40 := wr_i _ (by omega) (by omega)
  have d8 : wr .i64 (48 + 8) = 56 := wr_i _ (by omega) (by omega)
  have comb : ∀ (c : Nat) (y : Int) (r : Nat), y = x / 2 ^ c → c + r ≤ 64 → (0 < c → 0 < y) → y < 2 ^ r → (0 < y → 0 < r ∧ 2 ^ (r - 1) ≤ y) → BL x ((c : Int) + (r : Int)) := by
    intro c y r hy hc hcy h2 h3
    have hp : (0 : Int) < 2 ^ c := Int.pow_pos (by omega)
    refine ⟨by omega, by omega, ?_, ?_⟩
    · have : ((c : Int) + (r : Int)).toNat = r + c := by omega
      rw [this, Int.pow_add]
      rw [hy] at h2
      exact Int.lt_mul_of_ediv_lt hp h2
    · intro hx
      have : ((c : Int) + (r : Int)).toNat = r + c := by omega
      rw [this]
      by_cases hy0 : 0 < y
      · obtain ⟨h4, h5⟩ := h3 hy0
        refine ⟨by omega, ?_⟩
        rw [show r + c - 1 = (r - 1) + c by omega, Int.pow_add]
        rw [hy] at h5
        exact Int.le_trans (Int.mul_le_mul_of_nonneg_right h5 (by omega)) (Int.ediv_mul_le x (by omega))
      · exfalso
        have hc0 : c = 0 := by
          by_cases h : 0 < c
          · exact absurd (hcy h) hy0
          · omega
        subst hc0
        simp at hy
        omega
  by_cases g1 : x ≥ 4294967296
  · rw [if_pos g1, s32]
    by_cases g2 : x / 4294967296 ≥ 65536
    · rw [if_pos g2, s16 _ (by omega), b16]
      by_cases g3 : x / 4294967296 / 65536 ≥ 256
      · rw [if_pos g3, s8 _ (by omega), d8]
        obtain ⟨r, e, k1, k2, k3⟩ := fin (x / 4294967296 / 65536 / 256) 56 (by omega) (by omega) (by omega) (by omega)
        exact ⟨_, e, comb 56 _ r (by omega) (by omega) (fun _ => by omega) k2 k3⟩
      · rw [if_neg g3]
        obtain ⟨r, e, k1, k2, k3⟩ := fin (x / 4294967296 / 65536) 48 (by omega) (by omega) (by omega) (by omega)
        exact ⟨_, e, comb 48 _ r (by omega) (by omega) (fun _ => by omega) k2 k3⟩
    · rw [if_neg g2]
      by_cases g3 : x / 4294967296 ≥ 256
      · rw [if_pos g3, s8 _ (by omega), c8]
        obtain ⟨r, e, k1, k2, k3⟩ := fin (x / 4294967296 / 256) 40 (by omega) (by omega) (by omega) (by omega)
        exact ⟨_, e, comb 40 _ r (by omega) (by omega) (fun _ => by omega) k2 k3⟩
      · rw [if_neg g3]
        obtain ⟨r, e, k1, k2, k3⟩ := fin (x / 4294967296) 32 (by omega) (by omega) (by omega) (by omega)
        exact ⟨_, e, comb 32 _ r (by omega) (by omega) (fun _ => by omega) k2 k3⟩
  · rw [if_neg g1]
    by_cases g2 : x ≥ 65536
    · rw [if_pos g2, s16 _ (by omega), a16]
      by_cases g3 : x / 65536 ≥ 256
      · rw [if_pos g3, s8 _ (by omega), b8]
        obtain ⟨r, e, k1, k2, k3⟩ := fin (x / 65536 / 256) 24 (by omega) (by omega) (by omega) (by omega)
        exact ⟨_, e, comb 24 _ r (by omega) (by omega) (fun _ => by omega) k2 k3⟩
      · rw [if_neg g3]
        obtain ⟨r, e, k1, k2, k3⟩ := fin (x / 65536) 16 (by omega) (by omega) (by omega) (by omega)
        exact ⟨_, e, comb 16 _ r (by omega) (by omega) (fun _ => by omega) k2 k3⟩
    · rw [if_neg g2]
      by_cases g3 : x ≥ 256
      · rw [if_pos g3, s8 _ (by omega), a8]
        obtain ⟨r, e, k1, k2, k3⟩ := fin (x / 256) 8 (by omega) (by omega) (by omega) (by omega)
        exact ⟨_, e, comb 8 _ r (by omega) (by omega) (fun _ => by omega) k2 k3⟩
      · rw [if_neg g3]
        obtain ⟨r, e, k1, k2, k3⟩ := fin x 0 (by omega) (by omega) (by omega) (by omega)
        exact ⟨_, e, by have := comb 0 x r (by simp) (by omega) (fun _ => by omega) k2 k3; simpa using this⟩
/-! limbs and bytes -/
def byt (a : TU256) (i : Nat) : Int := (lU a)[i / 8]?.getD 0 / 2 ^ (8 * (i % 8)) % 256
/-- how many bytes a number needs -/
def BN (a : TU256) (n : Nat) : Prop := n ≤ 32 ∧ (∀ i, n ≤ i → byt a i = 0) ∧ (0 < n → byt a (n - 1) ≠ 0)
theorem limb_ok {a : TU256} (h : U a) (j : Nat) : U1 ((lU a)[j]?.getD 0) := by
  by_cases hj : j < (lU a).length
  · rw [List.getElem?_eq_getElem hj]; exact Dg_lU h _ (List.getElem_mem _)
  · rw [List.getElem?_eq_none (by omega)]; exact ⟨by simp, by simp⟩
theorem limb_get {a : TU256} {j : Nat} (hj : j < 4) : ([a.e0, a.e1, a.e2, a.e3] : List Int)[j]? = some ((lU a)[j]?.getD 0) := by
  show (lU a)[j]? = _
  rw [List.getElem?_eq_getElem (show j < (lU a).length from hj)]; rfl
theorem byt_rg {a : TU256} (h : U a) (i : Nat) : 0 ≤ byt a i ∧ byt a i < 256 := by unfold byt; omega
theorem limbs_l1 (a : TU256) (K : Int → Option Int) (f : Nat) : ∀ (j n : Nat), j ≤ 4 → j < n → (∀ i, j ≤ i → (lU a)[i]?.getD 0 = 0) →
    ∃ m : Nat, m ≤ 4 ∧ g_u256_limbs_l1 K a f n (j : Int) = K m ∧ (∀ i, m ≤ i → (lU a)[i]?.getD 0 = 0) ∧ (0 < m → (lU a)[m - 1]?.getD 0 ≠ 0) := by
  intro j
  induction j with
  | zero =>
    intro n hj hn hz
    obtain ⟨n, rfl⟩ : ∃ k, n = k + 1 := ⟨n - 1, by omega⟩
    refine ⟨0, by omega, ?_, hz, fun h => by omega⟩
    rw [g_u256_limbs_l1]
    simp only [p_jn, p_lt]
    rw [dec_f (by omega), p_brf, p_brf]
  | succ j ih =>
    intro n hj hn hz
    obtain ⟨n, rfl⟩ : ∃ k, n = k + 1 := ⟨n - 1, by omega⟩
    rw [g_u256_limbs_l1]
    simp only [p_jn, p_lt]
    have e1 : wr .i64 (((j + 1 : Nat) : Int) - 1) = (j : Int) := by rw [wr_i _ (by omega) (by omega)]; omega
    rw [dec_t (by omega), p_brt, e1, p_gd (by omega), Int.toNat_natCast, limb_get (by omega), p_bd, p_br]
    by_cases h : (lU a)[j]?.getD 0 = 0
    · rw [if_pos (by simp [h])]
      exact ih n (by omega) (by omega) fun i hi => by
        by_cases e : i = j
        · subst e; exact h
        · exact hz i (by omega)
    · rw [if_neg (by simp [h])]
      exact ⟨j + 1, hj, rfl, hz, fun _ => h⟩
theorem limbs_ok (a : TU256) (f : Nat) (hf : 5 ≤ f) : ∃ m : Nat, m ≤ 4 ∧ g_u256_limbs f a = some (m : Int) ∧ (∀ i, m ≤ i → (lU a)[i]?.getD 0 = 0) ∧ (0 < m → (lU a)[m - 1]?.getD 0 ≠ 0) := by
  obtain ⟨m, h1, h2, h3⟩ := limbs_l1 a (fun x6 => some x6) f 4 f (by omega) (by omega) (fun i hi => by rw [List.getElem?_eq_none (by show 4 ≤ i; omega)]; rfl)
  refine ⟨m, h1, ?_, h3⟩
  simp only [g_u256_limbs, p_jn]
  exact h2
theorem p2le {a b : Nat} (h : a ≤ b) : (2 : Int) ^ a ≤ 2 ^ b := by
  have := Nat.pow_le_pow_right (n := 2) (by omega) h
  exact_mod_cast this
theorem pow_byte {x : Int} (h : 0 ≤ x) {r : Int} (hb : BL x r) (hx : 0 < x) (q k : Nat) (hq : q = (r.toNat + 7) / 8) : (q ≤ k → x / 2 ^ (8 * k) = 0) ∧ 1 ≤ q ∧ q ≤ 8 ∧ x / 2 ^ (8 * (q - 1)) % 256 ≠ 0 := by
  obtain ⟨h1, h2, h3, h4⟩ := hb
  obtain ⟨h5, h6⟩ := h4 hx
  have hq1 : 1 ≤ q := by omega
  refine ⟨fun hk => ?_, hq1, by omega, ?_⟩
  · apply Int.ediv_eq_zero_of_lt h
    refine Int.lt_of_lt_of_le h3 ?_
    exact p2le (by omega)
  · have hp : (0 : Int) < 2 ^ (8 * (q - 1)) := Int.pow_pos (by omega)
    have lo : 1 ≤ x / 2 ^ (8 * (q - 1)) := by
      apply Int.le_ediv_of_mul_le hp
      rw [Int.one_mul]
      refine Int.le_trans ?_ h6
      exact p2le (by omega)
    have hi : x / 2 ^ (8 * (q - 1)) < 256 := by
      apply Int.ediv_lt_of_lt_mul hp
      refine Int.lt_of_lt_of_le h3 ?_
      have : (256 : Int) * 2 ^ (8 * (q - 1)) = 2 ^ (8 * q) := by
        rw [show (256 : Int) = 2 ^ 8 by decide, ← Int.pow_add]; congr 1; omega
      rw [this]
      exact p2le (by omega)
    omega
theorem Bits_ok {a : TU256} (h : U a) (f : Nat) (hf : 5 ≤ f) : ∃ b : Nat, g_u256_Bits f a = some (b : Int) ∧ b ≤ 256 ∧ BN a ((b + 7) / 8) := by
  obtain ⟨m, hm, e1, h1, h2⟩ := limbs_ok a f hf
  simp only [g_u256_Bits, e1, p_bd, p_lt, p_br]
  by_cases h0 : m = 0
  · subst h0
    refine ⟨0, rfl, by omega, by omega, fun i hi => ?_, fun h => by omega⟩
    unfold byt
    rw [h1 _ (by omega)]; simp
  · rw [if_neg (by simp; omega)]
    have e2 : wr .i64 ((m : Int) - 1) = ((m - 1 : Nat) : Int) := by rw [wr_i _ (by omega) (by omega)]; omega
    have hl := limb_ok h (m - 1)
    obtain ⟨r, e3, hb⟩ := Len64_ok hl f
    rw [e2, p_gd (by omega), Int.toNat_natCast, limb_get (by omega), p_bd, e3, p_bd]
    have hne := h2 (by omega)
    have hpos : 0 < (lU a)[m - 1]?.getD 0 := by have := hl.1; omega
    have hr := hb.1
    have hr' := hb.2.1
    have e4 : wr .i64 (wr .i64 (64 * ((m - 1 : Nat) : Int)) + r) = ((64 * (m - 1) + r.toNat : Nat) : Int) := by
      rw [wr_i (64 * _) (by omega) (by omega), wr_i _ (by omega) (by omega)]; omega
    rw [e4]
    obtain ⟨-, q1, q8, q3⟩ := pow_byte hl.1 hb hpos ((r.toNat + 7) / 8) 0 rfl
    have hn : (64 * (m - 1) + r.toNat + 7) / 8 = 8 * (m - 1) + (r.toNat + 7) / 8 := by omega
    refine ⟨_, rfl, by omega, by omega, fun i hi => ?_, fun _ => ?_⟩
    · unfold byt
      by_cases hi8 : i / 8 = m - 1
      · rw [hi8]
        have := (pow_byte hl.1 hb hpos ((r.toNat + 7) / 8) (i % 8) rfl).1 (by omega)
        rw [this]; rfl
      · rw [h1 _ (by omega)]; simp
    · rw [hn]
      unfold byt
      have e5 : (8 * (m - 1) + (r.toNat + 7) / 8 - 1) / 8 = m - 1 := by omega
      have e6 : (8 * (m - 1) + (r.toNat + 7) / 8 - 1) % 8 = (r.toNat + 7) / 8 - 1 := by omega
      rw [e5, e6]
      exact q3
end Go.Proofs
