/- Products of numbers of 256 bits: limbs of any base, as the program's and the page's functions multiply them. -/
import Derived.Test.YtcbjobfklcefpaaGreatLB
set_option linter.unusedVariables false
set_option linter.unusedSimpArgs false
set_option maxRecDepth 100000
set_option maxHeartbeats 1000000
namespace Go.Proofs
open Gw
theorem wrap_u64 (n : Nat) (h : n < 18446744073709551616) : IntKind.u64.wrap ((n : Nat) : Int) = (n : Int) := by
  show wr .u64 (n : Int) = _
  rw [wr_u]; omega
theorem bv_nat (a : Nat) (h : a < 18446744073709551616) : (BitVec.ofInt 64 ((a : Nat) : Int)).toNat = a := by
  rw [BitVec.toNat_ofInt]
  omega
theorem ibAnd_nat (a b : Nat) (ha : a < 18446744073709551616) (hb : b < 18446744073709551616) : ibAnd .u64 (a : Int) (b : Int) = ((a &&& b : Nat) : Int) := by
  show IntKind.u64.wrap (((BitVec.ofInt 64 (a : Int) &&& BitVec.ofInt 64 (b : Int)).toNat : Nat) : Int) = _
  rw [BitVec.toNat_and, bv_nat a ha, bv_nat b hb]
  exact wrap_u64 _ (Nat.lt_of_le_of_lt Nat.and_le_left ha)
theorem ibOr_nat (a b : Nat) (ha : a < 18446744073709551616) (hb : b < 18446744073709551616) : ibOr .u64 (a : Int) (b : Int) = ((a ||| b : Nat) : Int) := by
  show IntKind.u64.wrap (((BitVec.ofInt 64 (a : Int) ||| BitVec.ofInt 64 (b : Int)).toNat : Nat) : Int) = _
  rw [BitVec.toNat_or, bv_nat a ha, bv_nat b hb]
  exact wrap_u64 _ (Nat.or_lt_two_pow (n := 64) ha hb)
theorem and_32 {x : Int} (h : U1 x) : ibAnd .u64 x 4294967295 = x % 4294967296 := by
  obtain ⟨h0, h1⟩ := h
  obtain ⟨n, rfl⟩ := Int.eq_ofNat_of_zero_le h0
  rw [show (4294967295 : Int) = ((4294967295 : Nat) : Int) from rfl, ibAnd_nat n _ (by omega) (by omega), show (4294967295 : Nat) = 2 ^ 32 - 1 from rfl, Nat.and_two_pow_sub_one_eq_mod]
  omega
theorem shr_u {x : Int} (h : 0 ≤ x) (k : Nat) (hk : k ≤ 64) : ishr .u64 x (k : Int) = x / 2 ^ k := by
  show x.fdiv (2 ^ (min (Int.toNat (k : Int)) 64)) = _
  rw [Int.toNat_natCast, Nat.min_eq_left hk, Int.fdiv_eq_ediv_of_nonneg _ (Int.le_of_lt (Int.pow_pos (by omega)))]
theorem shr_32 {x : Int} (h : 0 ≤ x) : ishr .u64 x 32 = x / 4294967296 := shr_u h 32 (by omega)
theorem shr_0 {x : Int} (h : 0 ≤ x) : ishr .u64 x 0 = x := by
  have := shr_u h 0 (by omega)
  simpa using this
theorem shl_u (x : Int) (k : Nat) (hk : k ≤ 64) : ishl .u64 x (k : Int) = (x * 2 ^ k) % 18446744073709551616 := by
  show IntKind.u64.wrap (x * 2 ^ (min (Int.toNat (k : Int)) 64)) = _
  rw [Int.toNat_natCast, Nat.min_eq_left hk]
  exact wr_u _
theorem or_0 {x : Int} (h : U1 x) : ibOr .u64 0 x = x := by
  obtain ⟨h0, h1⟩ := h
  obtain ⟨n, rfl⟩ := Int.eq_ofNat_of_zero_le h0
  rw [show (0 : Int) = ((0 : Nat) : Int) from rfl, ibOr_nat 0 n (by omega) (by omega), Nat.zero_or]
theorem or_32 {x y : Int} (hx : 0 ≤ x ∧ x < 4294967296) (hy : 0 ≤ y ∧ y < 4294967296) : ibOr .u64 x (y * 4294967296) = x + y * 4294967296 := by
  obtain ⟨a, rfl⟩ := Int.eq_ofNat_of_zero_le hx.1
  obtain ⟨b, rfl⟩ := Int.eq_ofNat_of_zero_le hy.1
  have e : ((b : Nat) : Int) * 4294967296 = ((b * 4294967296 : Nat) : Int) := by omega
  rw [e, ibOr_nat a _ (by omega) (by omega), Nat.or_comm, show b * 4294967296 = 2 ^ 32 * b by omega, ← Nat.two_pow_add_eq_or_of_lt (i := 32) (by omega)]
  omega
theorem or_eq_0 {x y : Int} (hx : U1 x) (hy : U1 y) : (ibOr .u64 x y = 0 ↔ x = 0 ∧ y = 0) ∧ U1 (ibOr .u64 x y) := by
  obtain ⟨a, rfl⟩ := Int.eq_ofNat_of_zero_le hx.1
  obtain ⟨b, rfl⟩ := Int.eq_ofNat_of_zero_le hy.1
  have h1 := hx.2
  have h2 := hy.2
  rw [ibOr_nat a b (by omega) (by omega)]
  have h3 : a ||| b < 2 ^ 64 := Nat.or_lt_two_pow (n := 64) (by omega) (by omega)
  have h4 : a ||| b = 0 ↔ a = 0 ∧ b = 0 := Nat.or_eq_zero_iff
  refine ⟨?_, by unfold U1; omega⟩
  omega
theorem mul_bd {x y a b : Int} (hx : 0 ≤ x ∧ x ≤ a) (hy : 0 ≤ y ∧ y ≤ b) : 0 ≤ x * y ∧ x * y ≤ a * b :=
  ⟨Int.mul_nonneg hx.1 hy.1, Int.mul_le_mul hx.2 hy.2 hy.1 (Int.le_trans hx.1 hx.2)⟩
theorem mul64_ok {x y : Int} (hx : U1 x) (hy : U1 y) (k : Nat) : g_math_bits_Mul64 k x y = some (x * y / 18446744073709551616, x * y % 18446744073709551616) := by
  obtain ⟨hx0, hx1⟩ := hx
  obtain ⟨hy0, hy1⟩ := hy
  simp only [g_math_bits_Mul64, p_lt]
  rw [and_32 ⟨hx0, hx1⟩, and_32 ⟨hy0, hy1⟩, shr_32 hx0, shr_32 hy0]
  have hx' : x = x / 4294967296 * 4294967296 + x % 4294967296 := by omega
  have hy' : y = y / 4294967296 * 4294967296 + y % 4294967296 := by omega
  have bx0 : 0 ≤ x % 4294967296 ∧ x % 4294967296 ≤ 4294967295 := by omega
  have bx1 : 0 ≤ x / 4294967296 ∧ x / 4294967296 ≤ 4294967295 := by omega
  have by0 : 0 ≤ y % 4294967296 ∧ y % 4294967296 ≤ 4294967295 := by omega
  have by1 : 0 ≤ y / 4294967296 ∧ y / 4294967296 ≤ 4294967295 := by omega
  generalize x / 4294967296 = x1 at *
  generalize x % 4294967296 = x0 at *
  generalize y / 4294967296 = y1 at *
  generalize y % 4294967296 = y0 at *
  have e : x * y = x1 * y1 * 18446744073709551616 + (x0 * y1 + x1 * y0) * 4294967296 + x0 * y0 := by subst hx' hy'; grind
  have b00 := mul_bd bx0 by0
  have b01 := mul_bd bx0 by1
  have b10 := mul_bd bx1 by0
  have b11 := mul_bd bx1 by1
  rw [e]
  generalize x0 * y0 = p00 at *
  generalize x0 * y1 = p01 at *
  generalize x1 * y0 = p10 at *
  generalize x1 * y1 = p11 at *
  simp only [wr_u]
  have e0 : p00 % 18446744073709551616 = p00 := by omega
  have e1 : p10 % 18446744073709551616 = p10 := by omega
  have e2 : p01 % 18446744073709551616 = p01 := by omega
  have e3 : p11 % 18446744073709551616 = p11 := by omega
  rw [e0, e1, e2, e3, shr_32 (x := p00) (by omega)]
  have e4 : (p10 + p00 / 4294967296) % 18446744073709551616 = p10 + p00 / 4294967296 := by omega
  rw [e4, and_32 (by unfold U1; omega), shr_32 (x := p10 + p00 / 4294967296) (by omega)]
  have e5 : ((p10 + p00 / 4294967296) % 4294967296 + p01) % 18446744073709551616 = (p10 + p00 / 4294967296) % 4294967296 + p01 := by omega
  rw [e5, shr_32 (x := (p10 + p00 / 4294967296) % 4294967296 + p01) (by omega)]
  simp only [Option.some.injEq, Prod.mk.injEq, and_true]
  have e6 : (p11 + (p10 + p00 / 4294967296) / 4294967296) % 18446744073709551616 = p11 + (p10 + p00 / 4294967296) / 4294967296 := by omega
  rw [e6]
  generalize hq : p00 / 4294967296 = q at *
  generalize hr : (p10 + q) / 4294967296 = r at *
  generalize hs : (p10 + q) % 4294967296 = s at *
  generalize hv : (s + p01) / 4294967296 = v at *
  have h1 : (p11 * 18446744073709551616 + (p01 + p10) * 4294967296 + p00) / 18446744073709551616 = p11 + r + v := by omega
  rw [h1]
  omega
/-! limbs of a base -/
def V (B : Int) : List Int → Int
  | [] => 0
  | x :: t => x + B * V B t
def Dg (B : Int) (l : List Int) : Prop := ∀ x ∈ l, 0 ≤ x ∧ x < B
theorem V_set {B : Int} : ∀ (l : List Int) (k : Nat) (v : Int) (h : k < l.length), V B (l.set k v) = V B l + (v - l[k]) * B ^ k
  | x :: t, 0, v, _ => by simp only [List.set_cons_zero, V, List.getElem_cons_zero, Int.pow_zero]; grind
  | x :: t, k + 1, v, h => by
    have := V_set (B := B) t k v (by simpa using h)
    simp only [List.set_cons_succ, V, List.getElem_cons_succ, this, Int.pow_succ]
    grind
theorem V_zero {B : Int} : ∀ (n : Nat), V B (List.replicate n 0) = 0
  | 0 => rfl
  | n + 1 => by simp [List.replicate_succ, V, V_zero n]
theorem Dg.set {B : Int} {l : List Int} (h : Dg B l) (k : Nat) {v : Int} (hv : 0 ≤ v ∧ v < B) : Dg B (l.set k v) := by
  intro x hx
  rcases List.mem_or_eq_of_mem_set hx with hx | rfl
  · exact h x hx
  · exact hv
/-! one limb times others, from a place on -/
def mrow (B d : Int) : List Int → List Int → Int → Nat → List Int × Int
  | [], l, c, _ => (l, c)
  | e :: es, l, c, k => mrow B d es (l.set k ((l[k]?.getD 0 + d * e + c) % B)) ((l[k]?.getD 0 + d * e + c) / B) (k + 1)
theorem mrow_step {B x d e c : Int} (hx : 0 ≤ x ∧ x < B) (hd : 0 ≤ d ∧ d < B) (he : 0 ≤ e ∧ e < B) (hc : 0 ≤ c ∧ c < B) : 0 ≤ (x + d * e + c) / B ∧ (x + d * e + c) / B < B ∧ 0 ≤ x + d * e + c := by
  have h1 := mul_bd (x := d) (y := e) (a := B - 1) (b := B - 1) (by omega) (by omega)
  have hB : 0 < B := by omega
  have h2 : (B - 1) * (B - 1) + 2 * (B - 1) < B * B := by grind
  have h3 : 0 ≤ x + d * e + c := by omega
  refine ⟨Int.ediv_nonneg h3 (by omega), Int.ediv_lt_of_lt_mul hB (by omega), h3⟩
theorem mrow_ok {B d : Int} (hd : 0 ≤ d ∧ d < B) : ∀ (es l : List Int) (c : Int) (k : Nat), Dg B es → Dg B l → 0 ≤ c ∧ c < B → k + es.length ≤ l.length →
    V B (mrow B d es l c k).1 + (mrow B d es l c k).2 * B ^ (k + es.length) = V B l + (d * V B es + c) * B ^ k ∧ Dg B (mrow B d es l c k).1 ∧ (mrow B d es l c k).1.length = l.length ∧
      (0 ≤ (mrow B d es l c k).2 ∧ (mrow B d es l c k).2 < B) ∧ ∀ j, k + es.length ≤ j → (mrow B d es l c k).1[j]? = l[j]?
  | [], l, c, k, _, hl, hc, _ => ⟨by simp [mrow, V], hl, rfl, hc, fun j _ => rfl⟩
  | e :: es, l, c, k, he, hl, hc, hk => by
    simp only [List.length_cons] at hk
    have hk' : k < l.length := by omega
    have e1 : l[k]?.getD 0 = l[k] := by simp [hk']
    have hx := hl l[k] (List.getElem_mem _)
    have hB : 0 < B := by omega
    obtain ⟨h1, h2, h3⟩ := mrow_step hx hd (he e (List.mem_cons_self ..)) hc
    have ih := mrow_ok hd es (l.set k ((l[k] + d * e + c) % B)) ((l[k] + d * e + c) / B) (k + 1) (fun y hy => he y (List.mem_cons_of_mem _ hy))
      (hl.set k ⟨Int.emod_nonneg _ (by omega), Int.emod_lt_of_pos _ hB⟩) ⟨h1, h2⟩ (by simp; omega)
    simp only [mrow, e1, List.length_cons, V]
    obtain ⟨i1, i2, i3, i4, i5⟩ := ih
    refine ⟨?_, i2, by simpa using i3, i4, fun j hj => ?_⟩
    · rw [V_set l k _ hk'] at i1
      have e2 := Int.emod_add_mul_ediv (l[k] + d * e + c) B
      rw [show k + (es.length + 1) = k + 1 + es.length by omega, i1, Int.pow_succ]
      generalize (l[k] + d * e + c) % B = r at *
      generalize (l[k] + d * e + c) / B = q at *
      generalize B ^ k = P at *
      grind
    · rw [i5 j (by omega), List.getElem?_set_ne (by omega)]
/-- all of it -/
def mrows (B : Int) (es : List Int) : List Int → List Int → Nat → List Int
  | [], l, _ => l
  | d :: ds, l, k => mrows B es ds ((mrow B d es l 0 k).1.set (k + es.length) (mrow B d es l 0 k).2) (k + 1)
theorem mrows_ok {B : Int} {es : List Int} (he : Dg B es) : ∀ (ds l : List Int) (k : Nat), Dg B ds → Dg B l → k + ds.length + es.length ≤ l.length → (∀ j, k + es.length ≤ j → j < l.length → l[j]? = some 0) →
    V B (mrows B es ds l k) = V B l + V B ds * V B es * B ^ k ∧ Dg B (mrows B es ds l k) ∧ (mrows B es ds l k).length = l.length
  | [], l, k, _, hl, _, _ => ⟨by simp [mrows, V], hl, rfl⟩
  | d :: ds, l, k, hd, hl, hk, hz => by
    simp only [List.length_cons] at hk
    have hdd := hd d (List.mem_cons_self ..)
    have hB : 0 < B := by omega
    obtain ⟨i1, i2, i3, i4, i5⟩ := mrow_ok hdd es l 0 k he hl (by omega) (by omega)
    have hz0 := hz (k + es.length) (Nat.le_refl _) (by omega)
    rw [← i5 _ (Nat.le_refl _)] at hz0
    have hlt : k + es.length < (mrow B d es l 0 k).1.length := by omega
    have hz1 : (mrow B d es l 0 k).1[k + es.length] = 0 := by
      rw [List.getElem?_eq_getElem hlt] at hz0
      exact oi hz0
    have ih := mrows_ok he ds ((mrow B d es l 0 k).1.set (k + es.length) (mrow B d es l 0 k).2) (k + 1) (fun y hy => hd y (List.mem_cons_of_mem _ hy)) (i2.set _ i4) (by simp; omega) (fun j h1 h2 => by
      rw [List.getElem?_set_ne (by omega), i5 j (by omega)]
      exact hz j (by omega) (by simpa [i3] using h2))
    simp only [mrows, V]
    refine ⟨?_, ih.2.1, by simpa [i3] using ih.2.2⟩
    rw [ih.1, V_set _ _ _ hlt, hz1, Int.pow_succ]
    have : B ^ (k + es.length) = B ^ k * B ^ es.length := Int.pow_add ..
    generalize B ^ (k + es.length) = Q at *
    generalize B ^ k = P at *
    grind
end Go.Proofs
