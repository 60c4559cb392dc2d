/- Products and sums of numbers of 256 bits: the program's and the page's. -/
import Derived.Test.YtcbjobfklcefpaaGreatLC
set_option linter.unusedVariables false
set_option linter.unusedSimpArgs false
set_option maxRecDepth 100000
set_option maxHeartbeats 1000000
namespace Go.Proofs
open Gw
def lU (a : TU256) : List Int := [a.e0, a.e1, a.e2, a.e3]
theorem V_lU (a : TU256) : V 18446744073709551616 (lU a) = iv a := by simp only [V, lU, iv]; omega
theorem Dg_lU {a : TU256} (h : U a) : Dg 18446744073709551616 (lU a) := by
  obtain ⟨h0, h1, h2, h3⟩ := h
  intro x hx
  simp only [lU, List.mem_cons, List.not_mem_nil, or_false] at hx
  rcases hx with rfl | rfl | rfl | rfl <;> assumption
def mulS (a b : TU256) : TU256 × Int := if iv a * iv b < M4 then (mkU (iv a * iv b), 0) else (oU, 8)
theorem len8 {l : List Int} (h : l.length = 8) : ∃ a0 a1 a2 a3 a4 a5 a6 a7, l = [a0, a1, a2, a3, a4, a5, a6, a7] := by
  match l, h with
  | [a0, a1, a2, a3, a4, a5, a6, a7], _ => exact ⟨_, _, _, _, _, _, _, _, rfl⟩
theorem len16 {l : List Int} (h : l.length = 16) : ∃ a0 a1 a2 a3 a4 a5 a6 a7 b0 b1 b2 b3 b4 b5 b6 b7, l = [a0, a1, a2, a3, a4, a5, a6, a7, b0, b1, b2, b3, b4, b5, b6, b7] := by
  match l, h with
  | [a0, a1, a2, a3, a4, a5, a6, a7, b0, b1, b2, b3, b4, b5, b6, b7], _ => exact ⟨_, _, _, _, _, _, _, _, _, _, _, _, _, _, _, _, rfl⟩
section
variable (p1 p2 : TU256) (f : Nat)
theorem mul_l2 {x : Int} (hx : U1 x) (j i : Nat) (hj : j < 4) (hi : i < 4) (h2 : U p2) (K) (n : Nat) (l : List Int) (c : Int) (hl : Dg 18446744073709551616 l) (hn : l.length = 8) (hc : U1 c) :
    ls8 l (fun y0 y1 y2 y3 y4 y5 y6 y7 => g_u256_Mul_l2 p2 f x j K (n + 1) y0 y1 y2 y3 y4 y5 y6 y7 c (i : Int)) =
    ls8 (l.set (j + i) ((l[j + i]?.getD 0 + x * (lU p2)[i]?.getD 0 + c) % 18446744073709551616)) (fun y0 y1 y2 y3 y4 y5 y6 y7 => g_u256_Mul_l2 p2 f x j K n y0 y1 y2 y3 y4 y5 y6 y7 ((l[j + i]?.getD 0 + x * (lU p2)[i]?.getD 0 + c) / 18446744073709551616) ((i + 1 : Nat) : Int)) := by
  obtain ⟨a0, a1, a2, a3, a4, a5, a6, a7, hq⟩ := len8 hn
  have e1 : ls8 l (fun y0 y1 y2 y3 y4 y5 y6 y7 => g_u256_Mul_l2 p2 f x j K (n + 1) y0 y1 y2 y3 y4 y5 y6 y7 c (i : Int)) = g_u256_Mul_l2 p2 f x j K (n + 1) a0 a1 a2 a3 a4 a5 a6 a7 c i := by rw [hq]; rfl
  rw [e1, g_u256_Mul_l2]
  simp only [p_lt]
  rw [dec_t (show (i : Int) < 4 by omega), p_brt, p_gd (by omega), ← hq, Int.toNat_natCast]
  have e2 : ([p2.e0, p2.e1, p2.e2, p2.e3] : List Int)[i]? = some ((lU p2)[i]?.getD 0) := by
    show (lU p2)[i]? = _
    rw [List.getElem?_eq_getElem (by simpa [lU] using hi)]; rfl
  have he : U1 ((lU p2)[i]?.getD 0) := by
    have := Dg_lU h2 ((lU p2)[i]'(by simpa [lU] using hi)) (List.getElem_mem _)
    rw [List.getElem?_eq_getElem (by simpa [lU] using hi)]; exact this
  rw [e2, p_bd, mul64_ok hx he, p_bd]
  have e3 : wr .i64 ((j : Int) + (i : Int)) = ((j + i : Nat) : Int) := by rw [wr_i _ (by omega) (by omega)]; omega
  rw [e3, p_gd (by omega), Int.toNat_natCast]
  have hlt : j + i < l.length := by omega
  have e4 : l[j + i]? = some (l[j + i]?.getD 0) := by rw [List.getElem?_eq_getElem hlt]; rfl
  have hy := hl l[j + i] (List.getElem_mem _)
  have hy' : U1 (l[j + i]?.getD 0) := by rw [List.getElem?_eq_getElem hlt]; exact hy
  rw [e4, p_bd]
  simp only [Option.getD_some]
  generalize l[j + i]?.getD 0 = y at *
  generalize (lU p2)[i]?.getD 0 = e at *
  obtain ⟨hs1, hs2, hs3⟩ := mrow_step hy' hx he hc
  obtain ⟨y0, y1⟩ := hy'
  obtain ⟨c0, c1⟩ := hc
  have hp := mul_bd (x := x) (y := e) (a := 18446744073709551615) (b := 18446744073709551615) ⟨hx.1, by have := hx.2; omega⟩ ⟨he.1, by have := he.2; omega⟩
  generalize x * e = p at *
  simp only [add64, Int.add_zero, wr_u]
  rw [p_gd (by omega), p_gd (by omega), p_gd (by omega)]
  have e5 : (p % 18446744073709551616 + y) % 18446744073709551616 + c = (y + p + c) - (p / 18446744073709551616) * 18446744073709551616 - (p % 18446744073709551616 + y) / 18446744073709551616 * 18446744073709551616 := by omega
  have e6 : ((p % 18446744073709551616 + y) % 18446744073709551616 + c) % 18446744073709551616 = (y + p + c) % 18446744073709551616 := by omega
  have e7 : (((p / 18446744073709551616 + (p % 18446744073709551616 + y) / 18446744073709551616) % 18446744073709551616 + ((p % 18446744073709551616 + y) % 18446744073709551616 + c) / 18446744073709551616) % 18446744073709551616) = (y + p + c) / 18446744073709551616 := by omega
  rw [e6, e7, wr_s i (by omega)]
theorem mul_l2_end {x : Int} (j : Nat) (K) (n : Nat) (l : List Int) (c : Int) :
    ls8 l (fun y0 y1 y2 y3 y4 y5 y6 y7 => g_u256_Mul_l2 p2 f x j K (n + 1) y0 y1 y2 y3 y4 y5 y6 y7 c 4) = ls8 l (fun y0 y1 y2 y3 y4 y5 y6 y7 => K y0 y1 y2 y3 y4 y5 y6 y7 c) := by
  congr 1
theorem mul_row {x : Int} (hx : U1 x) (j : Nat) (hj : j < 4) (h2 : U p2) (K) (n : Nat) (l : List Int) (hl : Dg 18446744073709551616 l) (hn : l.length = 8) :
    ls8 l (fun y0 y1 y2 y3 y4 y5 y6 y7 => g_u256_Mul_l2 p2 f x j K (n + 5) y0 y1 y2 y3 y4 y5 y6 y7 0 0) =
    ls8 (mrow 18446744073709551616 x (lU p2) l 0 j).1 (fun y0 y1 y2 y3 y4 y5 y6 y7 => K y0 y1 y2 y3 y4 y5 y6 y7 (mrow 18446744073709551616 x (lU p2) l 0 j).2) := by
  have go : ∀ (i : Nat) (l : List Int) (c : Int), i ≤ 4 → Dg 18446744073709551616 l → l.length = 8 → U1 c → ls8 l (fun y0 y1 y2 y3 y4 y5 y6 y7 => g_u256_Mul_l2 p2 f x j K (n + (4 - i) + 1) y0 y1 y2 y3 y4 y5 y6 y7 c (i : Int)) =
      ls8 (mrow 18446744073709551616 x ((lU p2).drop i) l c (j + i)).1 (fun y0 y1 y2 y3 y4 y5 y6 y7 => K y0 y1 y2 y3 y4 y5 y6 y7 (mrow 18446744073709551616 x ((lU p2).drop i) l c (j + i)).2) := by
    intro i
    induction hk : 4 - i generalizing i with
    | zero =>
      intro l c hi hl hn hc
      have e : i = 4 := by omega
      subst e
      exact mul_l2_end p2 f j K _ l c
    | succ k ih =>
      intro l c hi hl hn hc
      have hi4 : i < 4 := by omega
      have hlt : j + i < l.length := by omega
      have hi' : i < (lU p2).length := hi4
      rw [show n + (k + 1) + 1 = (n + k + 1) + 1 by omega, mul_l2 p2 f hx j i hj hi4 h2 K _ l c hl hn hc]
      have e1 : l[j + i]?.getD 0 = l[j + i] := by simp [hlt]
      have e2 : (lU p2)[i]?.getD 0 = (lU p2)[i] := by simp [hi']
      obtain ⟨s1, s2, s3⟩ := mrow_step (hl l[j + i] (List.getElem_mem _)) hx (Dg_lU h2 (lU p2)[i] (List.getElem_mem _)) hc
      rw [List.drop_eq_getElem_cons hi', mrow, e1, e2]
      exact ih (i + 1) (by omega) _ _ (by omega) (hl.set _ ⟨Int.emod_nonneg _ (by omega), Int.emod_lt_of_pos _ (by omega)⟩) (by simpa using hn) ⟨s1, s2⟩
  have := go 0 l 0 (by omega) hl hn ⟨by omega, by omega⟩
  exact this
theorem mrow_zero {B : Int} : ∀ (es l : List Int) (k : Nat), Dg B l → k + es.length ≤ l.length → mrow B 0 es l 0 k = (l, 0)
  | [], l, k, _, _ => rfl
  | e :: es, l, k, hl, hk => by
    simp only [List.length_cons] at hk
    have hlt : k < l.length := by omega
    have hx := hl l[k] (List.getElem_mem _)
    have e1 : l[k]?.getD 0 = l[k] := by simp [hlt]
    rw [mrow, e1, Int.zero_mul, Int.add_zero, Int.add_zero, Int.emod_eq_of_lt hx.1 hx.2, List.set_getElem_self hlt, Int.ediv_eq_zero_of_lt hx.1 hx.2]
    exact mrow_zero es l (k + 1) hl (by omega)
theorem mul_l1 (h1 : U p1) (h2 : U p2) (K) : ∀ (k j n : Nat) (l : List Int), 5 ≤ f → j + k = 4 → Dg 18446744073709551616 l → l.length = 8 → (∀ i, j + 4 ≤ i → i < 8 → l[i]? = some 0) →
    ls8 l (fun y0 y1 y2 y3 y4 y5 y6 y7 => g_u256_Mul_l1 p1 p2 f K (n + k + 1) y0 y1 y2 y3 y4 y5 y6 y7 (j : Int)) = ls8 (mrows 18446744073709551616 (lU p2) ((lU p1).drop j) l j) (fun y0 y1 y2 y3 y4 y5 y6 y7 => K y0 y1 y2 y3 y4 y5 y6 y7) := by
  intro k
  induction k with
  | zero =>
    intro j n l hf hj hl hn hz
    have e : j = 4 := by omega
    subst e
    show _ = ls8 l _
    congr 1
  | succ k ih =>
    intro j n l hf hj hl hn hz
    have hj4 : j < 4 := by omega
    have hj' : j < (lU p1).length := hj4
    have hx : U1 (lU p1)[j] := Dg_lU h1 _ (List.getElem_mem _)
    rw [List.drop_eq_getElem_cons hj', mrows]
    obtain ⟨a0, a1, a2, a3, a4, a5, a6, a7, hq⟩ := len8 hn
    have e1 : ls8 l (fun y0 y1 y2 y3 y4 y5 y6 y7 => g_u256_Mul_l1 p1 p2 f K (n + (k + 1) + 1) y0 y1 y2 y3 y4 y5 y6 y7 (j : Int)) = g_u256_Mul_l1 p1 p2 f K (n + (k + 1) + 1) a0 a1 a2 a3 a4 a5 a6 a7 j := by rw [hq]; rfl
    rw [e1, g_u256_Mul_l1]
    simp only [p_lt, p_jn]
    have e2 : ([p1.e0, p1.e1, p1.e2, p1.e3] : List Int)[j]? = some (lU p1)[j] := by
      show (lU p1)[j]? = _
      rw [List.getElem?_eq_getElem hj']
    rw [dec_t (show (j : Int) < 4 by omega), p_brt, p_gd (by omega), Int.toNat_natCast, e2, p_bd, wr_s j (by omega)]
    obtain ⟨g, rfl⟩ : ∃ g, f = g + 5 := ⟨f - 5, by omega⟩
    have i0 : l[j + 4]? = some 0 := hz (j + 4) (by omega) (by omega)
    obtain ⟨m1, m2, m3, m4, m5⟩ := mrow_ok hx (lU p2) l 0 j (Dg_lU h2) hl (by omega) (by rw [hn]; simp [lU]; omega)
    have hl4 : (lU p2).length = 4 := rfl
    rw [hl4] at m5 ⊢
    have hnext := ih (j + 1) n ((mrow 18446744073709551616 (lU p1)[j] (lU p2) l 0 j).1.set (j + 4) (mrow 18446744073709551616 (lU p1)[j] (lU p2) l 0 j).2) hf (by omega) (m2.set _ m4) (by simpa [m3] using hn)
      (fun i hi hi8 => by rw [List.getElem?_set_ne (by omega), m5 i (by omega)]; exact hz i (by omega) hi8)
    rw [← hnext]
    have e9 : n + (k + 1) = n + k + 1 := by omega
    rw [e9]
    by_cases h0 : (lU p1)[j] = 0
    · have e3 : ((lU p1)[j] == 0) = true := by simp [h0]
      rw [e3, p_brt, h0, mrow_zero _ _ _ hl (by rw [hn]; simp [lU]; omega)]
      have e4 : l.set (j + 4) 0 = l := by
        have hlt : j + 4 < l.length := by omega
        have : l[j + 4] = 0 := by rw [List.getElem?_eq_getElem hlt] at i0; exact Option.some.inj i0
        conv => lhs; rw [← this]
        exact List.set_getElem_self hlt
      simp only
      rw [e4, hq]
      rfl
    · have e3 : ((lU p1)[j] == 0) = false := by simp [h0]
      rw [e3, p_brf]
      have e5 := mul_row p2 (g + 5) hx j hj4 h2 (fun y0 y1 y2 y3 y4 y5 y6 y7 c => gd ((0 : Int) ≤ wr .i64 ((j : Int) + 4) ∧ wr .i64 ((j : Int) + 4) < 8) (ls8 (List.set ([y0, y1, y2, y3, y4, y5, y6, y7] : List Int) (Int.toNat (wr .i64 ((j : Int) + 4))) c) fun y123 y124 y125 y126 y127 y128 y129 y130 => g_u256_Mul_l1 p1 p2 (g + 5) K (n + k + 1) y123 y124 y125 y126 y127 y128 y129 y130 ((j + 1 : Nat) : Int))) g l hl hn
      rw [hq] at e5
      refine Eq.trans e5 ?_
      rw [← hq]
      obtain ⟨b0, b1, b2, b3, b4, b5, b6, b7, hb⟩ := len8 (m3.trans hn)
      have e6 : wr .i64 ((j : Int) + 4) = ((j + 4 : Nat) : Int) := by rw [wr_i _ (by omega) (by omega)]; omega
      rw [e6, hb]
      show gd _ _ = _
      rw [p_gd (by omega), Int.toNat_natCast]
end
theorem or4 {a b c d : Int} (ha : U1 a) (hb : U1 b) (hc : U1 c) (hd : U1 d) : ibOr .u64 (ibOr .u64 (ibOr .u64 a b) c) d = 0 ↔ a = 0 ∧ b = 0 ∧ c = 0 ∧ d = 0 := by
  obtain ⟨h1, h2⟩ := or_eq_0 ha hb
  obtain ⟨h3, h4⟩ := or_eq_0 h2 hc
  obtain ⟨h5, h6⟩ := or_eq_0 h4 hd
  rw [h5, h3, h1]
  omega
theorem u256_Mul {a b : TU256} (ha : U a) (hb : U b) (k : Nat) : g_u256_Mul (k + 5) a b = some (mulS a b) := by
  simp only [g_u256_Mul, p_jn, p_lt]
  have e := mul_l1 a b (k + 5) ha hb (fun x19 x20 x21 x22 x23 x24 x25 x26 => br (ibOr .u64 (ibOr .u64 (ibOr .u64 x23 x24) x25) x26 != 0) (some (TU256.mk 0 0 0 0, (8 : Int))) (some (TU256.mk x19 x20 x21 x22, 0))) 4 0 k (List.replicate 8 0) (by omega) (by omega)
    (fun x hx => by rw [(List.mem_replicate.1 hx).2]; omega) (by simp) (fun i _ hi => by rw [List.getElem?_replicate]; simp [hi])
  refine Eq.trans (Eq.trans ?_ e) ?_
  · rfl
  obtain ⟨h1, h2, h3⟩ := mrows_ok (Dg_lU hb) (lU a) (List.replicate 8 0) 0 (Dg_lU ha) (fun x hx => by rw [(List.mem_replicate.1 hx).2]; omega) (by simp [lU])
    (fun j _ hj => by rw [List.getElem?_replicate]; simp at hj; simp [hj])
  rw [V_zero, V_lU, V_lU, Int.pow_zero, Int.mul_one, Int.zero_add] at h1
  simp only [List.drop_zero]
  generalize mrows 18446744073709551616 (lU b) (lU a) (List.replicate 8 0) 0 = l at *
  obtain ⟨a0, a1, a2, a3, a4, a5, a6, a7, rfl⟩ := len8 h3
  have hd : ∀ x ∈ [a0, a1, a2, a3, a4, a5, a6, a7], U1 x := h2
  simp only [List.mem_cons, List.not_mem_nil, or_false, forall_eq_or_imp, forall_eq] at hd
  obtain ⟨d0, d1, d2, d3, d4, d5, d6, d7⟩ := hd
  show br (ibOr .u64 (ibOr .u64 (ibOr .u64 a4 a5) a6) a7 != 0) _ _ = _
  have ho := or4 d4 d5 d6 d7
  simp only [V] at h1
  unfold mulS
  rw [← h1]
  obtain ⟨_, _⟩ := d0; obtain ⟨_, _⟩ := d1; obtain ⟨_, _⟩ := d2; obtain ⟨_, _⟩ := d3
  obtain ⟨_, _⟩ := d4; obtain ⟨_, _⟩ := d5; obtain ⟨_, _⟩ := d6; obtain ⟨_, _⟩ := d7
  by_cases h : ibOr .u64 (ibOr .u64 (ibOr .u64 a4 a5) a6) a7 = 0
  · obtain ⟨rfl, rfl, rfl, rfl⟩ := ho.1 h
    rw [h, if_pos (by unfold M4; omega)]
    show some _ = _
    simp only [mkU, Option.some.injEq, Prod.mk.injEq, TU256.mk.injEq, and_true]
    omega
  · have e1 : (ibOr .u64 (ibOr .u64 (ibOr .u64 a4 a5) a6) a7 != 0) = true := by simp [h]
    rw [e1, p_brt, if_neg (by unfold M4; omega)]
    rfl
end Go.Proofs
