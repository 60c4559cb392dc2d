/- Sorting numbers: pivots, patterns, partitions. -/
import Derived.Test.YtcbjobfklcefpaaGreatLP
set_option linter.unusedVariables false
set_option linter.unusedSimpArgs false
set_option maxRecDepth 100000
set_option maxHeartbeats 1000000
namespace Go.Proofs
open Gw
theorem ibAnd_le (x : Int) (b : Nat) (hb : b < 18446744073709551616) : ∃ r : Nat, ibAnd .u64 x (b : Int) = (r : Int) ∧ r ≤ b := by
  refine ⟨(BitVec.ofInt 64 x &&& BitVec.ofInt 64 (b : Int)).toNat, ?_, ?_⟩
  · show IntKind.u64.wrap (((BitVec.ofInt 64 x &&& BitVec.ofInt 64 (b : Int)).toNat : Nat) : Int) = _
    exact wrap_u64 _ (BitVec.isLt _)
  · rw [BitVec.toNat_and, bv_nat b hb]
    exact Nat.and_le_right
theorem nextP {n : Nat} (h : 0 < n) (hn : n < 1152921504606846976) (f : Nat) : ∃ m : Nat, g_sNxt f (n : Int) = some (m : Int) ∧ 1 ≤ m ∧ m ≤ 2 * n := by
  simp only [g_sNxt, p_lt, g_math_bits_Len]
  have e1 : wr .u64 (n : Int) = (n : Int) := by rw [wr_u]; omega
  obtain ⟨r, e, h1, h2, h3, h4⟩ := Len64_ok (x := (n : Int)) ⟨by omega, by omega⟩ f
  obtain ⟨h5, h6⟩ := h4 (by omega)
  have hr : r.toNat - 1 < 60 := by
    by_cases h : r.toNat - 1 < 60
    · exact h
    · exfalso
      have := p2le (show 60 ≤ r.toNat - 1 by omega)
      have e60 : (2 : Int) ^ 60 = 1152921504606846976 := by decide
      rw [e60] at this
      omega
  have e2 : ishl .u64 1 r = (2 : Int) ^ r.toNat := by
    have := shl_u 1 r.toNat (by omega)
    rw [show ((r.toNat : Nat) : Int) = r by omega] at this
    rw [this, Int.one_mul]
    have := p2le (show r.toNat ≤ 61 by omega)
    have e61 : (2 : Int) ^ 61 = 2305843009213693952 := by decide
    rw [e61] at this
    have hp : (0 : Int) < 2 ^ r.toNat := Int.pow_pos (by omega)
    omega
  have e3 : (2 : Int) ^ r.toNat = 2 * 2 ^ (r.toNat - 1) := by
    rw [show r.toNat = (r.toNat - 1) + 1 by omega, Int.pow_succ]
    simp; omega
  rw [e1, e, p_bd, p_bd, p_gd h1, e2]
  have hp : (0 : Int) < 2 ^ r.toNat := Int.pow_pos (by omega)
  refine ⟨((2 : Int) ^ r.toNat).toNat, ?_, ?_, ?_⟩
  · rw [Int.toNat_of_nonneg (by omega)]
  · omega
  · omega
theorem xor_ok (x : Int) (f : Nat) : ∃ p, g_sXor f x = some p := by
  simp only [g_sXor, p_jn, p_lt]
  exact ⟨_, rfl⟩
theorem tdiv4 (n : Nat) (h : n < 1152921504606846976) : wr .i64 (Int.tdiv (n : Int) 4) = ((n / 4 : Nat) : Int) := by
  rw [Int.tdiv_eq_ediv_of_nonneg (by omega), wr_i _ (by omega) (by omega)]; omega
theorem brk_l1 (a b f M : Nat) (hab : a + 8 ≤ b) (hM : 1 ≤ M ∧ M ≤ 2 * (b - a)) (K : Int → List Int → Option (List Int)) (K0 : List Int → Option (List Int)) (hK : ∀ x l, K x l = K0 l) :
    ∀ (k i : Nat) (x : Int) (l : List Int) (n : Nat), l.length < 1152921504606846976 → b ≤ l.length → a ≤ i → i + k = a + (b - a) / 4 * 2 + 2 → k < n →
    ∃ l', g_sBrk_l1 ((b - a : Nat) : Int) (a : Int) f (M : Int) K n x l (i : Int) = K0 l' ∧ Loc l l' a b := by
  intro k
  induction k with
  | zero =>
    intro i x l n hl hb hi hk hn
    obtain ⟨n, rfl⟩ : ∃ m, n = m + 1 := ⟨n - 1, by omega⟩
    refine ⟨l, ?_, .refl _ _ _⟩
    rw [g_sBrk_l1]
    simp only [p_lt]
    have e1 : wr .i64 (wr .i64 ((a : Int) + wr .i64 (wr .i64 (Int.tdiv ((b - a : Nat) : Int) 4) * 2)) + 1) = ((a + (b - a) / 4 * 2 + 1 : Nat) : Int) := by
      rw [tdiv4 _ (by omega), wr_i (((b - a) / 4 : Nat) * 2) (by omega) (by omega), wr_i ((a : Int) + _) (by omega) (by omega), wr_i _ (by omega) (by omega)]; omega
    rw [e1, dec_f (by omega), p_brf, hK]
  | succ k ih =>
    intro i x l n hl hb hi hk hn
    obtain ⟨n, rfl⟩ : ∃ m, n = m + 1 := ⟨n - 1, by omega⟩
    rw [g_sBrk_l1]
    simp only [p_lt, p_jn]
    have e1 : wr .i64 (wr .i64 ((a : Int) + wr .i64 (wr .i64 (Int.tdiv ((b - a : Nat) : Int) 4) * 2)) + 1) = ((a + (b - a) / 4 * 2 + 1 : Nat) : Int) := by
      rw [tdiv4 _ (by omega), wr_i (((b - a) / 4 : Nat) * 2) (by omega) (by omega), wr_i ((a : Int) + _) (by omega) (by omega), wr_i _ (by omega) (by omega)]; omega
    obtain ⟨p, hp⟩ := xor_ok x f
    have e2 : wr .u64 ((M : Int) - 1) = ((M - 1 : Nat) : Int) := by rw [wr_u]; omega
    obtain ⟨r, hr, hrM⟩ := ibAnd_le p.2 (M - 1) (by omega)
    rw [e1, dec_t (by omega), p_brt, hp, p_bd, e2, hr, wr_n r (by omega)]
    have fin : ∀ o : Nat, o < b - a → ∃ l', gd ((0 : Int) ≤ wr .i64 ((a : Int) + (o : Int)) ∧ wr .i64 ((a : Int) + (o : Int)) < ((l.length : Nat) : Int)) (bd (l[Int.toNat (wr .i64 ((a : Int) + (o : Int)))]?) fun x71 => gd ((0 : Int) ≤ (i : Int) ∧ (i : Int) < ((l.length : Nat) : Int)) (bd (l[Int.toNat (i : Int)]?) fun x73 =>
        gd ((0 : Int) ≤ (i : Int) ∧ (i : Int) < ((l.length : Nat) : Int)) (gd ((0 : Int) ≤ wr .i64 ((a : Int) + (o : Int)) ∧ wr .i64 ((a : Int) + (o : Int)) < ((l.length : Nat) : Int)) (g_sBrk_l1 ((b - a : Nat) : Int) (a : Int) f (M : Int) K n p.1 (List.set (List.set l (Int.toNat (i : Int)) x71) (Int.toNat (wr .i64 ((a : Int) + (o : Int)))) x73) (wr .i64 ((i : Int) + 1)))))) = K0 l' ∧ Loc l l' a b := by
      intro o ho
      rw [wr_a a o (by omega) (by omega), p_at (by omega), p_at (by omega), p_gd (by omega), p_gd (by omega), Int.toNat_natCast, Int.toNat_natCast, ← swp_def, wr_s i (by omega)]
      obtain ⟨l', g1, g2⟩ := ih (i + 1) p.1 (swp l i (a + o)) n (by rw [swp_len]; exact hl) (by rw [swp_len]; exact hb) (by omega) (by omega) (by omega)
      exact ⟨l', g1, (Loc.swp (by omega) (by omega) hb).trans g2⟩
    by_cases hge : (r : Int) ≥ ((b - a : Nat) : Int)
    · rw [dec_t hge, p_brt, wr_m r (b - a) (by omega) (by omega)]
      exact fin (r - (b - a)) (by omega)
    · rw [dec_f hge, p_brf]
      exact fin r (by omega)
theorem brk_ok {l : List Int} {a b f : Nat} (hl : l.length < 1152921504606846976) (hb : b ≤ l.length) (hab : a + 8 ≤ b) (hf : 10 < f) : ∃ l', g_sBrk f l (a : Int) (b : Int) = some l' ∧ Loc l l' a b := by
  simp only [g_sBrk, p_lt, p_jn]
  obtain ⟨m, e, hm⟩ := nextP (n := b - a) (by omega) (by omega) f
  have e1 : wr .i64 (wr .i64 ((a : Int) + wr .i64 (wr .i64 (Int.tdiv ((b - a : Nat) : Int) 4) * 2)) - 1) = ((a + (b - a) / 4 * 2 - 1 : Nat) : Int) := by
    rw [tdiv4 _ (by omega), wr_i (((b - a) / 4 : Nat) * 2) (by omega) (by omega), wr_i ((a : Int) + _) (by omega) (by omega), wr_i _ (by omega) (by omega)]; omega
  rw [wr_m b a (by omega) (by omega), dec_t (by omega), p_brt, e, p_bd, e1]
  exact brk_l1 a b f m hab hm _ (fun l => some l) (fun _ _ => rfl) 3 _ _ l f hl hb (by omega) (by omega) (by omega)
/-! pivots -/
theorem ord2 {l : List Int} {i j : Nat} (hi : i < l.length) (hj : j < l.length) (c : Int) (f : Nat) : ∃ (c' : Int) (i' j' : Nat), g_sOrd f l (i : Int) (j : Int) c = some (c', (i' : Int), (j' : Int)) ∧ ((i' = i ∧ j' = j) ∨ (i' = j ∧ j' = i)) := by
  simp only [g_sOrd, p_lt]
  rw [p_at hj, p_at hi, Less_ok, p_bd, p_br]
  by_cases h : at_ l j < at_ l i
  · rw [if_pos (dec_t h)]; exact ⟨_, j, i, rfl, Or.inr ⟨rfl, rfl⟩⟩
  · rw [if_neg (by simp [h])]; exact ⟨c, i, j, rfl, Or.inl ⟨rfl, rfl⟩⟩
theorem med_ok {l : List Int} {i j k : Nat} (hi : i < l.length) (hj : j < l.length) (hk : k < l.length) (c : Int) (f : Nat) : ∃ (c' : Int) (m : Nat), g_sMed f l (i : Int) (j : Int) (k : Int) c = some (c', (m : Int)) ∧ (m = i ∨ m = j ∨ m = k) := by
  simp only [g_sMed]
  obtain ⟨c1, i1, j1, e1, h1⟩ := ord2 hi hj c f
  rw [e1, p_bd]
  obtain ⟨c2, i2, j2, e2, h2⟩ := ord2 (i := j1) (j := k) (by omega) hk c1 f
  simp only
  rw [e2, p_bd]
  obtain ⟨c3, i3, j3, e3, h3⟩ := ord2 (l := l) (i := i1) (j := i2) (by omega) (by omega) c2 f
  simp only
  rw [e3, p_bd]
  exact ⟨c3, j3, rfl, by omega⟩
theorem mad_ok {l : List Int} {i : Nat} (h0 : 0 < i) (hi : i + 1 < l.length) (hl : l.length < 1152921504606846976) (c : Int) (f : Nat) : ∃ (c' : Int) (m : Nat), g_sMad f l (i : Int) c = some (c', (m : Int)) ∧ (m = i - 1 ∨ m = i ∨ m = i + 1) := by
  simp only [g_sMad, p_lt]
  rw [wr_p i (by omega) h0, wr_s i (by omega)]
  obtain ⟨c', m, e, h⟩ := med_ok (l := l) (i := i - 1) (j := i) (k := i + 1) (by omega) (by omega) (by omega) c f
  rw [e, p_bd]
  exact ⟨c', m, rfl, h⟩
theorem piv_ok {l : List Int} {a b : Nat} (hl : l.length < 1152921504606846976) (hb : b ≤ l.length) (hab : a + 12 < b) (f : Nat) : ∃ (m : Nat) (h : Int), g_sCho f l (a : Int) (b : Int) = some ((m : Int), h) ∧ a ≤ m ∧ m < b := by
  simp only [g_sCho, p_lt, p_jn]
  have e1 : wr .i64 ((a : Int) + wr .i64 (((b - a) / 4 : Nat) * 1)) = ((a + (b - a) / 4 : Nat) : Int) := by rw [wr_i (((b - a) / 4 : Nat) * 1) (by omega) (by omega), wr_i _ (by omega) (by omega)]; omega
  have e2 : wr .i64 ((a : Int) + wr .i64 (((b - a) / 4 : Nat) * 2)) = ((a + (b - a) / 4 * 2 : Nat) : Int) := by rw [wr_i (((b - a) / 4 : Nat) * 2) (by omega) (by omega), wr_i _ (by omega) (by omega)]; omega
  have e3 : wr .i64 ((a : Int) + wr .i64 (((b - a) / 4 : Nat) * 3)) = ((a + (b - a) / 4 * 3 : Nat) : Int) := by rw [wr_i (((b - a) / 4 : Nat) * 3) (by omega) (by omega), wr_i _ (by omega) (by omega)]; omega
  rw [wr_m b a (by omega) (by omega), tdiv4 _ (by omega), e1, e2, e3, dec_t (by omega), p_brt]
  have fin : ∀ (x : Int) (m : Nat), a ≤ m → m < b → ∃ (m' : Nat) (h : Int), br (x == 0) (some ((m : Int), (1 : Int))) (br (x == 12) (some ((m : Int), 2)) (some ((m : Int), 0))) = some ((m' : Int), h) ∧ a ≤ m' ∧ m' < b := by
    intro x m h1 h2
    simp only [p_br]
    split
    · exact ⟨m, _, rfl, h1, h2⟩
    · split
      · exact ⟨m, _, rfl, h1, h2⟩
      · exact ⟨m, _, rfl, h1, h2⟩
  by_cases h50 : ((b - a : Nat) : Int) ≥ 50
  · rw [dec_t h50, p_brt]
    obtain ⟨c1, m1, g1, k1⟩ := mad_ok (l := l) (i := a + (b - a) / 4) (by omega) (by omega) hl 0 f
    rw [g1, p_bd]
    obtain ⟨c2, m2, g2, k2⟩ := mad_ok (l := l) (i := a + (b - a) / 4 * 2) (by omega) (by omega) hl c1 f
    simp only
    rw [g2, p_bd]
    obtain ⟨c3, m3, g3, k3⟩ := mad_ok (l := l) (i := a + (b - a) / 4 * 3) (by omega) (by omega) hl c2 f
    simp only
    rw [g3, p_bd]
    obtain ⟨c4, m4, g4, k4⟩ := med_ok (l := l) (i := m1) (j := m2) (k := m3) (by omega) (by omega) (by omega) c3 f
    simp only
    rw [g4, p_bd]
    exact fin c4 m4 (by omega) (by omega)
  · rw [dec_f h50, p_brf]
    obtain ⟨c4, m4, g4, k4⟩ := med_ok (l := l) (i := a + (b - a) / 4) (j := a + (b - a) / 4 * 2) (k := a + (b - a) / 4 * 3) (by omega) (by omega) (by omega) 0 f
    rw [g4, p_bd]
    exact fin c4 m4 (by omega) (by omega)
/-! partitions -/
section
variable (l : List Int) (a : Nat) (f : Nat) (hl : l.length < 1152921504606846976)
include hl
theorem prt_l1 (K : Int → Option (List Int × Int × Bool)) (j : Nat) (hj : j < l.length) (ha : a < l.length) : ∀ (k i n : Nat), i ≤ j + 1 → i + k = j + 1 → k < n →
    ∃ i' : Nat, g_sPrt_l1 K (j : Int) l (a : Int) f n (i : Int) = K (i' : Int) ∧ i ≤ i' ∧ i' ≤ j + 1 ∧ (∀ q, i ≤ q → q < i' → at_ l q < at_ l a) ∧ (i' ≤ j → at_ l a ≤ at_ l i') := by
  intro k
  induction k with
  | zero =>
    intro i n hi hk hn
    obtain ⟨n, rfl⟩ : ∃ m, n = m + 1 := ⟨n - 1, by omega⟩
    rw [g_sPrt_l1]
    simp only [p_lt, p_jn]
    rw [dec_f (by omega), p_brf, p_brf]
    exact ⟨i, rfl, Nat.le_refl _, hi, fun q h1 h2 => by omega, fun h => by omega⟩
  | succ k ih =>
    intro i n hi hk hn
    obtain ⟨n, rfl⟩ : ∃ m, n = m + 1 := ⟨n - 1, by omega⟩
    rw [g_sPrt_l1]
    simp only [p_lt, p_jn]
    rw [dec_t (by omega), p_brt, p_at (by omega), p_at ha, Less_ok, p_bd]
    by_cases h : at_ l i < at_ l a
    · rw [dec_t h, p_brt, wr_s i (by omega)]
      obtain ⟨i', e, h1, h2, h3, h4⟩ := ih (i + 1) n (by omega) (by omega) (by omega)
      refine ⟨i', e, by omega, h2, fun q q1 q2 => ?_, h4⟩
      by_cases e : q = i
      · subst e; exact h
      · exact h3 q (by omega) q2
    · rw [dec_f h, p_brf]
      exact ⟨i, rfl, Nat.le_refl _, hi, fun q h1 h2 => by omega, fun _ => by omega⟩
theorem prt_l4 (K : Int → Option (List Int × Int × Bool)) (j : Nat) (hj : j < l.length) (ha : a < l.length) : ∀ (k i n : Nat), i ≤ j + 1 → i + k = j + 1 → k < n →
    ∃ i' : Nat, g_sPrt_l4 K (j : Int) l (a : Int) f n (i : Int) = K (i' : Int) ∧ i ≤ i' ∧ i' ≤ j + 1 ∧ (∀ q, i ≤ q → q < i' → at_ l q < at_ l a) ∧ (i' ≤ j → at_ l a ≤ at_ l i') := by
  intro k
  induction k with
  | zero =>
    intro i n hi hk hn
    obtain ⟨n, rfl⟩ : ∃ m, n = m + 1 := ⟨n - 1, by omega⟩
    rw [g_sPrt_l4]
    simp only [p_lt, p_jn]
    rw [dec_f (by omega), p_brf, p_brf]
    exact ⟨i, rfl, Nat.le_refl _, hi, fun q h1 h2 => by omega, fun h => by omega⟩
  | succ k ih =>
    intro i n hi hk hn
    obtain ⟨n, rfl⟩ : ∃ m, n = m + 1 := ⟨n - 1, by omega⟩
    rw [g_sPrt_l4]
    simp only [p_lt, p_jn]
    rw [dec_t (by omega), p_brt, p_at (by omega), p_at ha, Less_ok, p_bd]
    by_cases h : at_ l i < at_ l a
    · rw [dec_t h, p_brt, wr_s i (by omega)]
      obtain ⟨i', e, h1, h2, h3, h4⟩ := ih (i + 1) n (by omega) (by omega) (by omega)
      refine ⟨i', e, by omega, h2, fun q q1 q2 => ?_, h4⟩
      by_cases e : q = i
      · subst e; exact h
      · exact h3 q (by omega) q2
    · rw [dec_f h, p_brf]
      exact ⟨i, rfl, Nat.le_refl _, hi, fun q h1 h2 => by omega, fun _ => by omega⟩
theorem prt_l2 (K : Int → Option (List Int × Int × Bool)) (i : Nat) (hi0 : 0 < i) (ha : a < l.length) : ∀ (k j n : Nat), i ≤ j + 1 → j < l.length → i + k = j + 1 → k < n →
    ∃ j' : Nat, g_sPrt_l2 K (i : Int) l (a : Int) f n (j : Int) = K (j' : Int) ∧ j' ≤ j ∧ i ≤ j' + 1 ∧ (∀ q, j' < q → q ≤ j → at_ l a ≤ at_ l q) ∧ (i ≤ j' → at_ l j' < at_ l a) := by
  intro k
  induction k with
  | zero =>
    intro j n hi hj hk hn
    obtain ⟨n, rfl⟩ : ∃ m, n = m + 1 := ⟨n - 1, by omega⟩
    rw [g_sPrt_l2]
    simp only [p_lt, p_jn]
    rw [dec_f (by omega), p_brf, p_brf]
    exact ⟨j, rfl, Nat.le_refl _, hi, fun q h1 h2 => by omega, fun h => by omega⟩
  | succ k ih =>
    intro j n hi hj hk hn
    obtain ⟨n, rfl⟩ : ∃ m, n = m + 1 := ⟨n - 1, by omega⟩
    rw [g_sPrt_l2]
    simp only [p_lt, p_jn]
    rw [dec_t (by omega), p_brt, p_at (by omega), p_at ha, Less_ok, p_bd]
    by_cases h : at_ l j < at_ l a
    · rw [dec_t h]
      simp only [Bool.not_true]
      rw [p_brf]
      exact ⟨j, rfl, Nat.le_refl _, hi, fun q h1 h2 => by omega, fun _ => h⟩
    · rw [dec_f h]
      simp only [Bool.not_false]
      rw [p_brt, wr_p j (by omega) (by omega)]
      obtain ⟨j', e, h1, h2, h3, h4⟩ := ih (j - 1) n (by omega) (by omega) (by omega) (by omega)
      refine ⟨j', e, by omega, h2, fun q q1 q2 => ?_, h4⟩
      by_cases e : q = j
      · subst e; omega
      · exact h3 q q1 (by omega)
theorem prt_l5 (K : Int → Option (List Int × Int × Bool)) (i : Nat) (hi0 : 0 < i) (ha : a < l.length) : ∀ (k j n : Nat), i ≤ j + 1 → j < l.length → i + k = j + 1 → k < n →
    ∃ j' : Nat, g_sPrt_l5 K (i : Int) l (a : Int) f n (j : Int) = K (j' : Int) ∧ j' ≤ j ∧ i ≤ j' + 1 ∧ (∀ q, j' < q → q ≤ j → at_ l a ≤ at_ l q) ∧ (i ≤ j' → at_ l j' < at_ l a) := by
  intro k
  induction k with
  | zero =>
    intro j n hi hj hk hn
    obtain ⟨n, rfl⟩ : ∃ m, n = m + 1 := ⟨n - 1, by omega⟩
    rw [g_sPrt_l5]
    simp only [p_lt, p_jn]
    rw [dec_f (by omega), p_brf, p_brf]
    exact ⟨j, rfl, Nat.le_refl _, hi, fun q h1 h2 => by omega, fun h => by omega⟩
  | succ k ih =>
    intro j n hi hj hk hn
    obtain ⟨n, rfl⟩ : ∃ m, n = m + 1 := ⟨n - 1, by omega⟩
    rw [g_sPrt_l5]
    simp only [p_lt, p_jn]
    rw [dec_t (by omega), p_brt, p_at (by omega), p_at ha, Less_ok, p_bd]
    by_cases h : at_ l j < at_ l a
    · rw [dec_t h]
      simp only [Bool.not_true]
      rw [p_brf]
      exact ⟨j, rfl, Nat.le_refl _, hi, fun q h1 h2 => by omega, fun _ => h⟩
    · rw [dec_f h]
      simp only [Bool.not_false]
      rw [p_brt, wr_p j (by omega) (by omega)]
      obtain ⟨j', e, h1, h2, h3, h4⟩ := ih (j - 1) n (by omega) (by omega) (by omega) (by omega)
      refine ⟨j', e, by omega, h2, fun q q1 q2 => ?_, h4⟩
      by_cases e : q = j
      · subst e; omega
      · exact h3 q q1 (by omega)
theorem peq_l2 (K : Int → Option (List Int × Int)) (j : Nat) (hj : j < l.length) (ha : a < l.length) : ∀ (k i n : Nat), i ≤ j + 1 → i + k = j + 1 → k < n →
    ∃ i' : Nat, g_sPeq_l2 K (j : Int) (a : Int) l f n (i : Int) = K (i' : Int) ∧ i ≤ i' ∧ i' ≤ j + 1 ∧ (∀ q, i ≤ q → q < i' → at_ l q ≤ at_ l a) ∧ (i' ≤ j → at_ l a < at_ l i') := by
  intro k
  induction k with
  | zero =>
    intro i n hi hk hn
    obtain ⟨n, rfl⟩ : ∃ m, n = m + 1 := ⟨n - 1, by omega⟩
    rw [g_sPeq_l2]
    simp only [p_lt, p_jn]
    rw [dec_f (by omega), p_brf, p_brf]
    exact ⟨i, rfl, Nat.le_refl _, hi, fun q h1 h2 => by omega, fun h => by omega⟩
  | succ k ih =>
    intro i n hi hk hn
    obtain ⟨n, rfl⟩ : ∃ m, n = m + 1 := ⟨n - 1, by omega⟩
    rw [g_sPeq_l2]
    simp only [p_lt, p_jn]
    rw [dec_t (by omega), p_brt, p_at ha, p_at (by omega), Less_ok, p_bd]
    by_cases h : at_ l a < at_ l i
    · rw [dec_t h]
      simp only [Bool.not_true]
      rw [p_brf]
      exact ⟨i, rfl, Nat.le_refl _, hi, fun q h1 h2 => by omega, fun _ => h⟩
    · rw [dec_f h]
      simp only [Bool.not_false]
      rw [p_brt, wr_s i (by omega)]
      obtain ⟨i', e, h1, h2, h3, h4⟩ := ih (i + 1) n (by omega) (by omega) (by omega)
      refine ⟨i', e, by omega, h2, fun q q1 q2 => ?_, h4⟩
      by_cases e : q = i
      · subst e; omega
      · exact h3 q (by omega) q2
theorem peq_l3 (K : Int → Option (List Int × Int)) (i : Nat) (hi0 : 0 < i) (ha : a < l.length) : ∀ (k j n : Nat), i ≤ j + 1 → j < l.length → i + k = j + 1 → k < n →
    ∃ j' : Nat, g_sPeq_l3 K (i : Int) (a : Int) l f n (j : Int) = K (j' : Int) ∧ j' ≤ j ∧ i ≤ j' + 1 ∧ (∀ q, j' < q → q ≤ j → at_ l a < at_ l q) ∧ (i ≤ j' → at_ l j' ≤ at_ l a) := by
  intro k
  induction k with
  | zero =>
    intro j n hi hj hk hn
    obtain ⟨n, rfl⟩ : ∃ m, n = m + 1 := ⟨n - 1, by omega⟩
    rw [g_sPeq_l3]
    simp only [p_lt, p_jn]
    rw [dec_f (by omega), p_brf, p_brf]
    exact ⟨j, rfl, Nat.le_refl _, hi, fun q h1 h2 => by omega, fun h => by omega⟩
  | succ k ih =>
    intro j n hi hj hk hn
    obtain ⟨n, rfl⟩ : ∃ m, n = m + 1 := ⟨n - 1, by omega⟩
    rw [g_sPeq_l3]
    simp only [p_lt, p_jn]
    rw [dec_t (by omega), p_brt, p_at ha, p_at (by omega), Less_ok, p_bd]
    by_cases h : at_ l a < at_ l j
    · rw [dec_t h, p_brt, wr_p j (by omega) (by omega)]
      obtain ⟨j', e, h1, h2, h3, h4⟩ := ih (j - 1) n (by omega) (by omega) (by omega) (by omega)
      refine ⟨j', e, by omega, h2, fun q q1 q2 => ?_, h4⟩
      by_cases e : q = j
      · subst e; omega
      · exact h3 q q1 (by omega)
    · rw [dec_f h, p_brf]
      exact ⟨j, rfl, Nat.le_refl _, hi, fun q h1 h2 => by omega, fun _ => by omega⟩
end
end Go.Proofs
