/- Products and sums of numbers of 256 bits as the page tells them: the same. -/
import Derived.Test.YtcbjobfklcefpaaGreatLD
set_option linter.unusedVariables false
set_option linter.unusedSimpArgs false
set_option maxRecDepth 100000
set_option maxHeartbeats 1000000
namespace Go.Proofs
open Gw
def dU (a : TU256) : List Int := [a.e0 % 4294967296, a.e0 / 4294967296, a.e1 % 4294967296, a.e1 / 4294967296, a.e2 % 4294967296, a.e2 / 4294967296, a.e3 % 4294967296, a.e3 / 4294967296]
theorem V_dU {a : TU256} (h : U a) : V 4294967296 (dU a) = iv a := by
  obtain ⟨⟨_, _⟩, ⟨_, _⟩, ⟨_, _⟩, ⟨_, _⟩⟩ := h
  simp only [V, dU, iv]; omega
theorem Dg_dU {a : TU256} (h : U a) : Dg 4294967296 (dU a) := by
  obtain ⟨⟨_, _⟩, ⟨_, _⟩, ⟨_, _⟩, ⟨_, _⟩⟩ := h
  intro x hx
  simp only [dU, List.mem_cons, List.not_mem_nil, or_false] at hx
  rcases hx with rfl | rfl | rfl | rfl | rfl | rfl | rfl | rfl <;> omega
theorem ref1_digit {a : TU256} (h : U a) (f i : Nat) (hi : i < 8) : g_tarnref1_digit f a (i : Int) = some ((dU a)[i]?.getD 0) := by
  obtain ⟨⟨h0, h0'⟩, ⟨h1, h1'⟩, ⟨h2, h2'⟩, ⟨h3, h3'⟩⟩ := h
  have lo : ∀ x : Int, 0 ≤ x → x < 18446744073709551616 → ibAnd .u64 (ishr .u64 x 0) 4294967295 = x % 4294967296 := fun x hx hx' => by rw [shr_0 hx, and_32 ⟨hx, hx'⟩]
  have hi' : ∀ x : Int, 0 ≤ x → x < 18446744073709551616 → ibAnd .u64 (ishr .u64 x 32) 4294967295 = x / 4294967296 := fun x hx hx' => by rw [shr_32 hx, and_32 (by unfold U1; omega)]; omega
  rcases (show i = 0 ∨ i = 1 ∨ i = 2 ∨ i = 3 ∨ i = 4 ∨ i = 5 ∨ i = 6 ∨ i = 7 by omega) with rfl | rfl | rfl | rfl | rfl | rfl | rfl | rfl
  · show some (ibAnd .u64 (ishr .u64 a.e0 0) 4294967295) = _; rw [lo _ h0 h0']; rfl
  · show some (ibAnd .u64 (ishr .u64 a.e0 32) 4294967295) = _; rw [hi' _ h0 h0']; rfl
  · show some (ibAnd .u64 (ishr .u64 a.e1 0) 4294967295) = _; rw [lo _ h1 h1']; rfl
  · show some (ibAnd .u64 (ishr .u64 a.e1 32) 4294967295) = _; rw [hi' _ h1 h1']; rfl
  · show some (ibAnd .u64 (ishr .u64 a.e2 0) 4294967295) = _; rw [lo _ h2 h2']; rfl
  · show some (ibAnd .u64 (ishr .u64 a.e2 32) 4294967295) = _; rw [hi' _ h2 h2']; rfl
  · show some (ibAnd .u64 (ishr .u64 a.e3 0) 4294967295) = _; rw [lo _ h3 h3']; rfl
  · show some (ibAnd .u64 (ishr .u64 a.e3 32) 4294967295) = _; rw [hi' _ h3 h3']; rfl
section
variable (p1 p2 : TU256) (f : Nat)
theorem rmul_l2 (j i : Nat) (hj : j < 8) (hi : i < 8) (h1 : U p1) (h2 : U p2) (K) (n : Nat) (l : List Int) (c : Int) (hl : Dg 4294967296 l) (hn : l.length = 16) (hc : 0 ≤ c ∧ c < 4294967296) :
    ls16 l (fun y0 y1 y2 y3 y4 y5 y6 y7 z0 z1 z2 z3 z4 z5 z6 z7 => g_tarnref1_Mul_l2 j f p1 p2 K (n + 1) y0 y1 y2 y3 y4 y5 y6 y7 z0 z1 z2 z3 z4 z5 z6 z7 c (i : Int)) =
    ls16 (l.set (j + i) ((l[j + i]?.getD 0 + (dU p1)[j]?.getD 0 * (dU p2)[i]?.getD 0 + c) % 4294967296)) (fun y0 y1 y2 y3 y4 y5 y6 y7 z0 z1 z2 z3 z4 z5 z6 z7 => g_tarnref1_Mul_l2 j f p1 p2 K n y0 y1 y2 y3 y4 y5 y6 y7 z0 z1 z2 z3 z4 z5 z6 z7 ((l[j + i]?.getD 0 + (dU p1)[j]?.getD 0 * (dU p2)[i]?.getD 0 + c) / 4294967296) ((i + 1 : Nat) : Int)) := by
  obtain ⟨a0, a1, a2, a3, a4, a5, a6, a7, b0, b1, b2, b3, b4, b5, b6, b7, hq⟩ := len16 hn
  have e1 : ls16 l (fun y0 y1 y2 y3 y4 y5 y6 y7 z0 z1 z2 z3 z4 z5 z6 z7 => g_tarnref1_Mul_l2 j f p1 p2 K (n + 1) y0 y1 y2 y3 y4 y5 y6 y7 z0 z1 z2 z3 z4 z5 z6 z7 c (i : Int)) = g_tarnref1_Mul_l2 j f p1 p2 K (n + 1) a0 a1 a2 a3 a4 a5 a6 a7 b0 b1 b2 b3 b4 b5 b6 b7 c i := by rw [hq]; rfl
  rw [e1, g_tarnref1_Mul_l2]
  simp only [p_lt]
  have e3 : wr .i64 ((j : Int) + (i : Int)) = ((j + i : Nat) : Int) := by rw [wr_i _ (by omega) (by omega)]; omega
  rw [dec_t (show (i : Int) < 8 by omega), p_brt, e3, p_gd (by omega), ← hq, Int.toNat_natCast, ref1_digit h1 f j hj, ref1_digit h2 f i hi]
  have hlt : j + i < l.length := by omega
  have e4 : l[j + i]? = some (l[j + i]?.getD 0) := by rw [List.getElem?_eq_getElem hlt]; rfl
  have hy' : 0 ≤ l[j + i]?.getD 0 ∧ l[j + i]?.getD 0 < 4294967296 := by rw [List.getElem?_eq_getElem hlt]; exact hl l[j + i] (List.getElem_mem _)
  have hx : 0 ≤ (dU p1)[j]?.getD 0 ∧ (dU p1)[j]?.getD 0 < 4294967296 := by rw [List.getElem?_eq_getElem (show j < (dU p1).length from hj)]; exact Dg_dU h1 _ (List.getElem_mem _)
  have he : 0 ≤ (dU p2)[i]?.getD 0 ∧ (dU p2)[i]?.getD 0 < 4294967296 := by rw [List.getElem?_eq_getElem (show i < (dU p2).length from hi)]; exact Dg_dU h2 _ (List.getElem_mem _)
  rw [e4, p_bd, p_bd, p_bd]
  simp only [Option.getD_some]
  generalize l[j + i]?.getD 0 = y at *
  generalize (dU p1)[j]?.getD 0 = x at *
  generalize (dU p2)[i]?.getD 0 = e at *
  obtain ⟨y0, y1⟩ := hy'
  obtain ⟨c0, c1⟩ := hc
  have hp := mul_bd (x := x) (y := e) (a := 4294967295) (b := 4294967295) ⟨hx.1, by have := hx.2; omega⟩ ⟨he.1, by have := he.2; omega⟩
  generalize x * e = p at *
  simp only [wr_u]
  have e5 : ((y + p % 18446744073709551616) % 18446744073709551616 + c) % 18446744073709551616 = y + p + c := by omega
  rw [e5, and_32 (by unfold U1; omega), shr_32 (by omega), p_gd (by omega), wr_s i (by omega)]
theorem rmul_row (j : Nat) (hj : j < 8) (h1 : U p1) (h2 : U p2) (K) (n : Nat) (l : List Int) (hl : Dg 4294967296 l) (hn : l.length = 16) :
    ls16 l (fun y0 y1 y2 y3 y4 y5 y6 y7 z0 z1 z2 z3 z4 z5 z6 z7 => g_tarnref1_Mul_l2 j f p1 p2 K (n + 9) y0 y1 y2 y3 y4 y5 y6 y7 z0 z1 z2 z3 z4 z5 z6 z7 0 0) =
    ls16 (mrow 4294967296 ((dU p1)[j]?.getD 0) (dU p2) l 0 j).1 (fun y0 y1 y2 y3 y4 y5 y6 y7 z0 z1 z2 z3 z4 z5 z6 z7 => K y0 y1 y2 y3 y4 y5 y6 y7 z0 z1 z2 z3 z4 z5 z6 z7 (mrow 4294967296 ((dU p1)[j]?.getD 0) (dU p2) l 0 j).2) := by
  have hx : 0 ≤ (dU p1)[j]?.getD 0 ∧ (dU p1)[j]?.getD 0 < 4294967296 := by rw [List.getElem?_eq_getElem (show j < (dU p1).length from hj)]; exact Dg_dU h1 _ (List.getElem_mem _)
  have go : ∀ (i : Nat) (l : List Int) (c : Int), i ≤ 8 → Dg 4294967296 l → l.length = 16 → (0 ≤ c ∧ c < 4294967296) →
      ls16 l (fun y0 y1 y2 y3 y4 y5 y6 y7 z0 z1 z2 z3 z4 z5 z6 z7 => g_tarnref1_Mul_l2 j f p1 p2 K (n + (8 - i) + 1) y0 y1 y2 y3 y4 y5 y6 y7 z0 z1 z2 z3 z4 z5 z6 z7 c (i : Int)) =
      ls16 (mrow 4294967296 ((dU p1)[j]?.getD 0) ((dU p2).drop i) l c (j + i)).1 (fun y0 y1 y2 y3 y4 y5 y6 y7 z0 z1 z2 z3 z4 z5 z6 z7 => K y0 y1 y2 y3 y4 y5 y6 y7 z0 z1 z2 z3 z4 z5 z6 z7 (mrow 4294967296 ((dU p1)[j]?.getD 0) ((dU p2).drop i) l c (j + i)).2) := by
    intro i
    induction hk : 8 - i generalizing i with
    | zero =>
      intro l c hi hl hn hc
      have e : i = 8 := by omega
      subst e
      show _ = ls16 l _
      congr 1
    | succ k ih =>
      intro l c hi hl hn hc
      have hi8 : i < 8 := by omega
      have hlt : j + i < l.length := by omega
      have hi' : i < (dU p2).length := hi8
      rw [show n + (k + 1) + 1 = (n + k + 1) + 1 by omega, rmul_l2 p1 p2 f j i hj hi8 h1 h2 K _ l c hl hn hc]
      have e1 : l[j + i]?.getD 0 = l[j + i] := by simp [hlt]
      have e2 : (dU p2)[i]?.getD 0 = (dU p2)[i] := by simp [hi']
      obtain ⟨s1, s2, s3⟩ := mrow_step (hl l[j + i] (List.getElem_mem _)) hx (Dg_dU h2 (dU p2)[i] (List.getElem_mem _)) hc
      rw [List.drop_eq_getElem_cons hi', mrow, e1, e2]
      exact ih (i + 1) (by omega) _ _ (by omega) (hl.set _ ⟨Int.emod_nonneg _ (by omega), Int.emod_lt_of_pos _ (by omega)⟩) (by simpa using hn) ⟨s1, s2⟩
  exact go 0 l 0 (by omega) hl hn ⟨by omega, by omega⟩
theorem rmul_l1 (h1 : U p1) (h2 : U p2) (K) : ∀ (k j n : Nat) (l : List Int), 9 ≤ f → j + k = 8 → Dg 4294967296 l → l.length = 16 →
    ls16 l (fun y0 y1 y2 y3 y4 y5 y6 y7 z0 z1 z2 z3 z4 z5 z6 z7 => g_tarnref1_Mul_l1 f p1 p2 K (n + k + 1) y0 y1 y2 y3 y4 y5 y6 y7 z0 z1 z2 z3 z4 z5 z6 z7 (j : Int)) = ls16 (mrows 4294967296 (dU p2) ((dU p1).drop j) l j) (fun y0 y1 y2 y3 y4 y5 y6 y7 z0 z1 z2 z3 z4 z5 z6 z7 => K y0 y1 y2 y3 y4 y5 y6 y7 z0 z1 z2 z3 z4 z5 z6 z7) := by
  intro k
  induction k with
  | zero =>
    intro j n l hf hj hl hn
    have e : j = 8 := by omega
    subst e
    show _ = ls16 l _
    congr 1
  | succ k ih =>
    intro j n l hf hj hl hn
    have hj8 : j < 8 := by omega
    have hj' : j < (dU p1).length := hj8
    have hx : 0 ≤ (dU p1)[j] ∧ (dU p1)[j] < 4294967296 := Dg_dU h1 _ (List.getElem_mem _)
    have ex : (dU p1)[j]?.getD 0 = (dU p1)[j] := by simp [hj']
    rw [List.drop_eq_getElem_cons hj', mrows]
    obtain ⟨a0, a1, a2, a3, a4, a5, a6, a7, b0, b1, b2, b3, b4, b5, b6, b7, hq⟩ := len16 hn
    have e1 : ls16 l (fun y0 y1 y2 y3 y4 y5 y6 y7 z0 z1 z2 z3 z4 z5 z6 z7 => g_tarnref1_Mul_l1 f p1 p2 K (n + (k + 1) + 1) y0 y1 y2 y3 y4 y5 y6 y7 z0 z1 z2 z3 z4 z5 z6 z7 (j : Int)) = g_tarnref1_Mul_l1 f p1 p2 K (n + (k + 1) + 1) a0 a1 a2 a3 a4 a5 a6 a7 b0 b1 b2 b3 b4 b5 b6 b7 j := by rw [hq]; rfl
    rw [e1, g_tarnref1_Mul_l1]
    simp only [p_lt, p_jn]
    rw [dec_t (show (j : Int) < 8 by omega), p_brt, wr_s j (by omega)]
    obtain ⟨g, rfl⟩ : ∃ g, f = g + 9 := ⟨f - 9, by omega⟩
    obtain ⟨m1, m2, m3, m4, m5⟩ := mrow_ok hx (dU p2) l 0 j (Dg_dU h2) hl (by omega) (by rw [hn]; simp [dU]; omega)
    have hl8 : (dU p2).length = 8 := rfl
    rw [hl8] at m5 ⊢
    have hnext := ih (j + 1) n ((mrow 4294967296 (dU p1)[j] (dU p2) l 0 j).1.set (j + 8) (mrow 4294967296 (dU p1)[j] (dU p2) l 0 j).2) hf (by omega) (m2.set _ m4) (by simpa [m3] using hn)
    rw [← hnext, show n + (k + 1) = n + k + 1 by omega]
    have e5 := rmul_row p1 p2 (g + 9) j hj8 h1 h2 (fun y0 y1 y2 y3 y4 y5 y6 y7 z0 z1 z2 z3 z4 z5 z6 z7 c => gd ((0 : Int) ≤ wr .i64 ((j : Int) + 8) ∧ wr .i64 ((j : Int) + 8) < 16) (ls16 (List.set ([y0, y1, y2, y3, y4, y5, y6, y7, z0, z1, z2, z3, z4, z5, z6, z7] : List Int) (Int.toNat (wr .i64 ((j : Int) + 8))) c) fun y123 y124 y125 y126 y127 y128 y129 y130 u0 u1 u2 u3 u4 u5 u6 u7 => g_tarnref1_Mul_l1 (g + 9) p1 p2 K (n + k + 1) y123 y124 y125 y126 y127 y128 y129 y130 u0 u1 u2 u3 u4 u5 u6 u7 ((j + 1 : Nat) : Int))) g l hl hn
    rw [hq, ex] at e5
    refine Eq.trans e5 ?_
    rw [← hq]
    obtain ⟨b0, b1, b2, b3, b4, b5, b6, b7, c0, c1, c2, c3, c4, c5, c6, c7, hb⟩ := len16 (m3.trans hn)
    have e6 : wr .i64 ((j : Int) + 8) = ((j + 8 : Nat) : Int) := by rw [wr_i _ (by omega) (by omega)]; omega
    rw [e6, hb]
    show gd _ _ = _
    rw [p_gd (by omega), Int.toNat_natCast]
end
def okB {α : Type} (p : α × Int) : α × Bool := (p.1, p.2 == 0)
theorem rep16 {β : Type} (F : Int → Int → Int → Int → Int → Int → Int → Int → Int → Int → Int → Int → Int → Int → Int → Int → Option β) : ls16 (List.replicate 16 (0 : Int)) F = F 0 0 0 0 0 0 0 0 0 0 0 0 0 0 0 0 := rfl
theorem is16 {β : Type} (a0 a1 a2 a3 a4 a5 a6 a7 b0 b1 b2 b3 b4 b5 b6 b7 : Int) (F : Int → Int → Int → Int → Int → Int → Int → Int → Int → Int → Int → Int → Int → Int → Int → Int → Option β) : ls16 [a0, a1, a2, a3, a4, a5, a6, a7, b0, b1, b2, b3, b4, b5, b6, b7] F = F a0 a1 a2 a3 a4 a5 a6 a7 b0 b1 b2 b3 b4 b5 b6 b7 := rfl
theorem is4 {β : Type} (a0 a1 a2 a3 : Int) (F : Int → Int → Int → Int → Option β) : ls4 [a0, a1, a2, a3] F = F a0 a1 a2 a3 := rfl
theorem l3_step (a0 a1 a2 a3 a4 a5 a6 a7 b0 b1 b2 b3 b4 b5 b6 b7 : Int) (K) (f n : Nat) (x0 x1 x2 x3 : Int) (i : Nat) (hi : i < 8) (z w : Int) (hz : ([a0, a1, a2, a3, a4, a5, a6, a7, b0, b1, b2, b3, b4, b5, b6, b7] : List Int)[i + 8]? = some z) (hw : ([a0, a1, a2, a3, a4, a5, a6, a7, b0, b1, b2, b3, b4, b5, b6, b7] : List Int)[i]? = some w) :
    g_tarnref1_Mul_l3 a0 a1 a2 a3 a4 a5 a6 a7 b0 b1 b2 b3 b4 b5 b6 b7 K f (n + 1) x0 x1 x2 x3 (i : Int) = if z > 0 then some (oU, false) else
      ls4 (([x0, x1, x2, x3] : List Int).set (i / 2) (ibOr .u64 (([x0, x1, x2, x3] : List Int)[i / 2]?.getD 0) (ishl .u64 w ((32 * (i % 2) : Nat) : Int)))) fun y0 y1 y2 y3 => g_tarnref1_Mul_l3 a0 a1 a2 a3 a4 a5 a6 a7 b0 b1 b2 b3 b4 b5 b6 b7 K f n y0 y1 y2 y3 ((i + 1 : Nat) : Int) := by
  rw [g_tarnref1_Mul_l3]
  simp only [p_lt, p_jn, p_br]
  have e1 : wr .i64 ((i : Int) + 8) = ((i + 8 : Nat) : Int) := by rw [wr_i _ (by omega) (by omega)]; omega
  have e2 : wr .i64 (Int.tdiv (i : Int) 2) = ((i / 2 : Nat) : Int) := by
    rw [Int.tdiv_eq_ediv_of_nonneg (by omega), wr_i _ (by omega) (by omega)]; omega
  have e3 : wr .i64 (32 * Int.tmod (i : Int) 2) = ((32 * (i % 2) : Nat) : Int) := by
    rw [Int.tmod_eq_emod_of_nonneg (by omega), wr_i _ (by omega) (by omega)]; omega
  rw [e1, e2, e3, if_pos (dec_t (by omega)), p_gd (by omega), Int.toNat_natCast, hz, p_bd, wr_s i (by omega)]
  by_cases h : z > 0
  · rw [if_pos (dec_t h), if_pos h]; rfl
  · rw [if_neg (by simp [h]), if_neg h, p_gd (by omega), Int.toNat_natCast]
    have e4 : ([x0, x1, x2, x3] : List Int)[i / 2]? = some (([x0, x1, x2, x3] : List Int)[i / 2]?.getD 0) := by
      rw [List.getElem?_eq_getElem (by simp; omega)]; rfl
    rw [e4, p_bd, p_gd (by omega), Int.toNat_natCast, hw, p_bd, p_gd (by omega), p_gd (by omega)]
    rfl
theorem l3_end (a0 a1 a2 a3 a4 a5 a6 a7 b0 b1 b2 b3 b4 b5 b6 b7 : Int) (K) (f n : Nat) (x0 x1 x2 x3 : Int) :
    g_tarnref1_Mul_l3 a0 a1 a2 a3 a4 a5 a6 a7 b0 b1 b2 b3 b4 b5 b6 b7 K f (n + 1) x0 x1 x2 x3 ((7 + 1 : Nat) : Int) = K x0 x1 x2 x3 := by
  rw [g_tarnref1_Mul_l3]
  simp only [p_lt]
  rw [dec_f (by omega), p_brf]
theorem dig32 {x y : Int} (hx : 0 ≤ x ∧ x < 4294967296) (hy : 0 ≤ y ∧ y < 4294967296) : ibOr .u64 (ibOr .u64 0 (ishl .u64 x ((32 * (0 : Nat) : Nat) : Int))) (ishl .u64 y ((32 * (1 : Nat) : Nat) : Int)) = x + y * 4294967296 := by
  rw [shl_u x _ (by omega), shl_u y _ (by omega)]
  have e1 : x * 2 ^ (32 * 0) % 18446744073709551616 = x := by simp; omega
  have e2 : y * 2 ^ (32 * 1) % 18446744073709551616 = y * 4294967296 := by omega
  rw [e1, e2, or_0 (by unfold U1; omega), or_32 hx hy]
theorem ref1_Mul_l3 {a0 a1 a2 a3 a4 a5 a6 a7 b0 b1 b2 b3 b4 b5 b6 b7 : Int} (hd : ∀ x ∈ [a0, a1, a2, a3, a4, a5, a6, a7, b0, b1, b2, b3, b4, b5, b6, b7], 0 ≤ x ∧ x < 4294967296) (K) (f n : Nat) :
    g_tarnref1_Mul_l3 a0 a1 a2 a3 a4 a5 a6 a7 b0 b1 b2 b3 b4 b5 b6 b7 K f (n + 9) 0 0 0 0 ((0 : Nat) : Int) = if b0 = 0 ∧ b1 = 0 ∧ b2 = 0 ∧ b3 = 0 ∧ b4 = 0 ∧ b5 = 0 ∧ b6 = 0 ∧ b7 = 0 then K (a0 + a1 * 4294967296) (a2 + a3 * 4294967296) (a4 + a5 * 4294967296) (a6 + a7 * 4294967296) else some (oU, false) := by
  simp only [List.mem_cons, List.not_mem_nil, or_false, forall_eq_or_imp, forall_eq] at hd
  obtain ⟨d0, d1, d2, d3, d4, d5, d6, d7, d8, d9, dA, dB, dC, dD, dE, dF⟩ := hd
  have nx {z : Int} {A B : Option (TU256 × Bool)} {p : Prop} [Decidable p] (hz : 0 ≤ z ∧ z < 4294967296) (h : z = 0 → A = if p then B else some (oU, false)) : (if z > 0 then some (oU, false) else A) = if z = 0 ∧ p then B else some (oU, false) := by
    by_cases h0 : z = 0
    · rw [if_neg (by omega), h h0]
      by_cases h1 : p
      · rw [if_pos h1, if_pos ⟨h0, h1⟩]
      · rw [if_neg h1, if_neg (fun g => h1 g.2)]
    · rw [if_pos (by omega), if_neg (fun g => h0 g.1)]
  rw [l3_step (i := 0) (hi := by omega) (z := b0) (w := a0) (hz := rfl) (hw := rfl)]
  refine nx d8 fun _ => ?_
  rw [show ([0, 0, 0, 0] : List Int).set (0 / 2) (ibOr .u64 (([0, 0, 0, 0] : List Int)[0 / 2]?.getD 0) (ishl .u64 a0 ((32 * (0 % 2) : Nat) : Int))) = [ibOr .u64 0 (ishl .u64 a0 ((32 * (0 : Nat) : Nat) : Int)), 0, 0, 0] from rfl, is4]
  rw [l3_step (i := 1) (hi := by omega) (z := b1) (w := a1) (hz := rfl) (hw := rfl)]
  refine nx d9 fun _ => ?_
  rw [show ∀ q : Int, ([q, 0, 0, 0] : List Int).set (1 / 2) (ibOr .u64 (([q, 0, 0, 0] : List Int)[1 / 2]?.getD 0) (ishl .u64 a1 ((32 * (1 % 2) : Nat) : Int))) = [ibOr .u64 q (ishl .u64 a1 ((32 * (1 : Nat) : Nat) : Int)), 0, 0, 0] from fun _ => rfl, is4, dig32 d0 d1]
  rw [l3_step (i := 2) (hi := by omega) (z := b2) (w := a2) (hz := rfl) (hw := rfl)]
  refine nx dA fun _ => ?_
  rw [show ∀ q : Int, ([q, 0, 0, 0] : List Int).set (2 / 2) (ibOr .u64 (([q, 0, 0, 0] : List Int)[2 / 2]?.getD 0) (ishl .u64 a2 ((32 * (2 % 2) : Nat) : Int))) = [q, ibOr .u64 0 (ishl .u64 a2 ((32 * (0 : Nat) : Nat) : Int)), 0, 0] from fun _ => rfl, is4]
  rw [l3_step (i := 3) (hi := by omega) (z := b3) (w := a3) (hz := rfl) (hw := rfl)]
  refine nx dB fun _ => ?_
  rw [show ∀ p q : Int, ([p, q, 0, 0] : List Int).set (3 / 2) (ibOr .u64 (([p, q, 0, 0] : List Int)[3 / 2]?.getD 0) (ishl .u64 a3 ((32 * (3 % 2) : Nat) : Int))) = [p, ibOr .u64 q (ishl .u64 a3 ((32 * (1 : Nat) : Nat) : Int)), 0, 0] from fun _ _ => rfl, is4, dig32 d2 d3]
  rw [l3_step (i := 4) (hi := by omega) (z := b4) (w := a4) (hz := rfl) (hw := rfl)]
  refine nx dC fun _ => ?_
  rw [show ∀ p q : Int, ([p, q, 0, 0] : List Int).set (4 / 2) (ibOr .u64 (([p, q, 0, 0] : List Int)[4 / 2]?.getD 0) (ishl .u64 a4 ((32 * (4 % 2) : Nat) : Int))) = [p, q, ibOr .u64 0 (ishl .u64 a4 ((32 * (0 : Nat) : Nat) : Int)), 0] from fun _ _ => rfl, is4]
  rw [l3_step (i := 5) (hi := by omega) (z := b5) (w := a5) (hz := rfl) (hw := rfl)]
  refine nx dD fun _ => ?_
  rw [show ∀ p q r : Int, ([p, q, r, 0] : List Int).set (5 / 2) (ibOr .u64 (([p, q, r, 0] : List Int)[5 / 2]?.getD 0) (ishl .u64 a5 ((32 * (5 % 2) : Nat) : Int))) = [p, q, ibOr .u64 r (ishl .u64 a5 ((32 * (1 : Nat) : Nat) : Int)), 0] from fun _ _ _ => rfl, is4, dig32 d4 d5]
  rw [l3_step (i := 6) (hi := by omega) (z := b6) (w := a6) (hz := rfl) (hw := rfl)]
  refine nx dE fun _ => ?_
  rw [show ∀ p q r : Int, ([p, q, r, 0] : List Int).set (6 / 2) (ibOr .u64 (([p, q, r, 0] : List Int)[6 / 2]?.getD 0) (ishl .u64 a6 ((32 * (6 % 2) : Nat) : Int))) = [p, q, r, ibOr .u64 0 (ishl .u64 a6 ((32 * (0 : Nat) : Nat) : Int))] from fun _ _ _ => rfl, is4]
  rw [l3_step (i := 7) (hi := by omega) (z := b7) (w := a7) (hz := rfl) (hw := rfl)]
  have nx' {z : Int} {A B : Option (TU256 × Bool)} (hz : 0 ≤ z ∧ z < 4294967296) (h : z = 0 → A = B) : (if z > 0 then some (oU, false) else A) = if z = 0 then B else some (oU, false) := by
    by_cases h0 : z = 0
    · rw [if_neg (by omega), h h0, if_pos h0]
    · rw [if_pos (by omega), if_neg h0]
  refine nx' dF fun _ => ?_
  rw [show ∀ p q r s : Int, ([p, q, r, s] : List Int).set (7 / 2) (ibOr .u64 (([p, q, r, s] : List Int)[7 / 2]?.getD 0) (ishl .u64 a7 ((32 * (7 % 2) : Nat) : Int))) = [p, q, r, ibOr .u64 s (ishl .u64 a7 ((32 * (1 : Nat) : Nat) : Int))] from fun _ _ _ _ => rfl, is4, dig32 d6 d7, l3_end]
theorem ref1_Mul {a b : TU256} (ha : U a) (hb : U b) (k : Nat) : g_tarnref1_Mul (k + 9) a b = some (okB (mulS a b)) := by
  simp only [g_tarnref1_Mul, p_jn]
  have e := rmul_l1 a b (k + 9) ha hb (fun x19 x20 x21 x22 x23 x24 x25 x26 x27 x28 x29 x30 x31 x32 x33 x34 => g_tarnref1_Mul_l3 x19 x20 x21 x22 x23 x24 x25 x26 x27 x28 x29 x30 x31 x32 x33 x34 (fun (x185 : Int) (x186 : Int) (x187 : Int) (x188 : Int) => some (TU256.mk x185 x186 x187 x188, true)) (k + 9) (k + 9) 0 0 0 0 0) 8 0 k (List.replicate 16 0) (by omega) (by omega)
    (fun x hx => by rw [(List.mem_replicate.1 hx).2]; omega) (by simp)
  rw [rep16] at e
  refine Eq.trans e ?_
  obtain ⟨h1, h2, h3⟩ := mrows_ok (Dg_dU hb) (dU a) (List.replicate 16 0) 0 (Dg_dU ha) (fun x hx => by rw [(List.mem_replicate.1 hx).2]; omega) (by simp [dU])
    (fun j _ hj => by rw [List.getElem?_replicate]; simp at hj; simp [hj])
  rw [V_zero, V_dU ha, V_dU hb, Int.pow_zero, Int.mul_one, Int.zero_add] at h1
  simp only [List.drop_zero]
  clear e
  generalize mrows 4294967296 (dU b) (dU a) (List.replicate 16 0) 0 = l at *
  obtain ⟨a0, a1, a2, a3, a4, a5, a6, a7, b0, b1, b2, b3, b4, b5, b6, b7, rfl⟩ := len16 h3
  have hd : ∀ x ∈ [a0, a1, a2, a3, a4, a5, a6, a7, b0, b1, b2, b3, b4, b5, b6, b7], 0 ≤ x ∧ x < 4294967296 := h2
  rw [is16]
  refine (ref1_Mul_l3 hd _ _ k).trans ?_
  simp only [List.mem_cons, List.not_mem_nil, or_false, forall_eq_or_imp, forall_eq] at hd
  obtain ⟨d0, d1, d2, d3, d4, d5, d6, d7, d8, d9, dA, dB, dC, dD, dE, dF⟩ := hd
  simp only [V] at h1
  unfold mulS
  rw [← h1]
  by_cases h : b0 = 0 ∧ b1 = 0 ∧ b2 = 0 ∧ b3 = 0 ∧ b4 = 0 ∧ b5 = 0 ∧ b6 = 0 ∧ b7 = 0
  · rw [if_pos h, if_pos (by unfold M4; omega)]
    simp only [okB, mkU, Option.some.injEq, Prod.mk.injEq, TU256.mk.injEq]
    refine ⟨?_, rfl⟩
    omega
  · rw [if_neg h, if_neg (by unfold M4; omega)]
    rfl
end Go.Proofs
