/- Sorting numbers: the library's sort sorts. -/
import Derived.Test.YtcbjobfklcefpaaGreatLQ
set_option linter.unusedVariables false
set_option linter.unusedSimpArgs false
set_option maxRecDepth 100000
set_option maxHeartbeats 2000000
namespace Go.Proofs
open Gw
theorem prt_l3 (K : List Int → Int → Option (List Int × Int × Bool)) (a b f : Nat) (hf : b + 2 < f) : ∀ (k i j : Nat) (l : List Int) (n : Nat), l.length < 1152921504606846976 → b ≤ l.length → a < i → i ≤ j + 1 → j < b → j + 1 ≤ i + k → k < n →
    (∀ q, a < q → q < i → at_ l q < at_ l a) → (∀ q, j < q → q < b → at_ l a ≤ at_ l q) →
    ∃ (l' : List Int) (m : Nat), g_sPrt_l3 K (a : Int) f n l (i : Int) (j : Int) = K l' (m : Int) ∧ Loc l l' (a + 1) b ∧ a ≤ m ∧ m < b ∧ (∀ q, a < q → q ≤ m → at_ l' q < at_ l' a) ∧ (∀ q, m < q → q < b → at_ l' a ≤ at_ l' q) := by
  intro k
  induction k using Nat.strongRecOn with
  | ind k ih =>
    intro i j l n hl hb hi hij hj hk hn h1 h2
    obtain ⟨n, rfl⟩ : ∃ m, n = m + 1 := ⟨n - 1, by omega⟩
    rw [g_sPrt_l3]
    simp only [p_lt, p_jn]
    obtain ⟨i', e1, k1, k2, k3, k4⟩ := prt_l4 l a f hl (fun x124 => g_sPrt_l5 (fun x152 => br (decide (x124 > x152)) (K l x152) (gd ((0 : Int) ≤ x152 ∧ x152 < ((l.length : Nat) : Int)) (bd (l[Int.toNat x152]?) fun x187 => gd ((0 : Int) ≤ x124 ∧ x124 < ((l.length : Nat) : Int)) (bd (l[Int.toNat x124]?) fun x189 => gd ((0 : Int) ≤ x124 ∧ x124 < ((l.length : Nat) : Int)) (gd ((0 : Int) ≤ x152 ∧ x152 < ((l.length : Nat) : Int)) (g_sPrt_l3 K (a : Int) f n (List.set (List.set l (Int.toNat x124) x187) (Int.toNat x152) x189) (wr .i64 (x124 + 1)) (wr .i64 (x152 - 1)))))))) x124 l (a : Int) f f (j : Int))
      j (by omega) (by omega) (j + 1 - i) i f hij (by omega) (by omega)
    rw [e1]
    obtain ⟨j', e2, m1, m2, m3, m4⟩ := prt_l5 l a f hl (fun x152 => br (decide ((i' : Int) > x152)) (K l x152) (gd ((0 : Int) ≤ x152 ∧ x152 < ((l.length : Nat) : Int)) (bd (l[Int.toNat x152]?) fun x187 => gd ((0 : Int) ≤ (i' : Int) ∧ (i' : Int) < ((l.length : Nat) : Int)) (bd (l[Int.toNat (i' : Int)]?) fun x189 => gd ((0 : Int) ≤ (i' : Int) ∧ (i' : Int) < ((l.length : Nat) : Int)) (gd ((0 : Int) ≤ x152 ∧ x152 < ((l.length : Nat) : Int)) (g_sPrt_l3 K (a : Int) f n (List.set (List.set l (Int.toNat (i' : Int)) x187) (Int.toNat x152) x189) (wr .i64 ((i' : Int) + 1)) (wr .i64 (x152 - 1))))))))
      i' (by omega) (by omega) (j + 1 - i') j f (by omega) (by omega) (by omega) (by omega)
    rw [e2]
    have lo : ∀ q, a < q → q < i' → at_ l q < at_ l a := fun q q1 q2 => by
      by_cases e : q < i
      · exact h1 q q1 e
      · exact k3 q (by omega) q2
    have hi' : ∀ q, j' < q → q < b → at_ l a ≤ at_ l q := fun q q1 q2 => by
      by_cases e : j < q
      · exact h2 q e q2
      · exact m3 q q1 (by omega)
    by_cases hc : j' < i'
    · rw [dec_t (by omega), p_brt]
      exact ⟨l, j', rfl, .refl _ _ _, by omega, by omega, fun q q1 q2 => lo q q1 (by omega), hi'⟩
    · have hne : i' ≠ j' := by
        intro e
        have := k4 (by omega)
        have := m4 (by omega)
        rw [e] at *
        omega
      rw [dec_f (by omega), p_brf, p_at (by omega), p_at (by omega), p_gd (by omega), p_gd (by omega), Int.toNat_natCast, Int.toNat_natCast, ← swp_def, wr_s i' (by omega), wr_p j' (by omega) (by omega)]
      have sw : ∀ k, at_ (swp l i' j') k = if k = j' then at_ l i' else if k = i' then at_ l j' else at_ l k := fun k => at_swp (by omega) (by omega) k
      have ea : at_ (swp l i' j') a = at_ l a := by rw [sw, if_neg (by omega), if_neg (by omega)]
      obtain ⟨l', m, g1, g2, g3, g4, g5, g6⟩ := ih (j' - 1 + 1 - (i' + 1)) (by omega) (i' + 1) (j' - 1) (swp l i' j') n (by rw [swp_len]; exact hl) (by rw [swp_len]; exact hb) (by omega) (by omega) (by omega) (by omega) (by omega)
        (fun q q1 q2 => by
          rw [ea, sw, if_neg (by omega)]
          by_cases e : q = i'
          · rw [if_pos e]; exact m4 (by omega)
          · rw [if_neg e]; exact lo q q1 (by omega))
        (fun q q1 q2 => by
          rw [ea, sw]
          by_cases e : q = j'
          · rw [if_pos e]; exact k4 (by omega)
          · rw [if_neg e, if_neg (by omega)]; exact hi' q (by omega) q2)
      exact ⟨l', m, g1, (Loc.swp (by omega) (by omega) hb).trans g2, g3, g4, g5, g6⟩
/-- the pivot goes to its place -/
theorem prt_fin {l : List Int} {a b m : Nat} (hb : b ≤ l.length) (ham : a ≤ m) (hm : m < b) (h1 : ∀ q, a < q → q ≤ m → at_ l q < at_ l a) (h2 : ∀ q, m < q → q < b → at_ l a ≤ at_ l q) :
    Loc l (swp l m a) a b ∧ (∀ q, a ≤ q → q < m → at_ (swp l m a) q ≤ at_ (swp l m a) m) ∧ ∀ q, m < q → q < b → at_ (swp l m a) m ≤ at_ (swp l m a) q := by
  have sw : ∀ k, at_ (swp l m a) k = if k = a then at_ l m else if k = m then at_ l a else at_ l k := fun k => at_swp (by omega) (by omega) k
  refine ⟨Loc.swp (by omega) (by omega) hb, fun q q1 q2 => ?_, fun q q1 q2 => ?_⟩
  · rw [sw q, sw m, if_neg (show ¬ m = a by omega), if_pos rfl]
    by_cases e : q = a
    · rw [if_pos e]; have := h1 m (by omega) (Nat.le_refl _); omega
    · rw [if_neg e, if_neg (by omega)]; have := h1 q (by omega) (by omega); omega
  · rw [sw, sw q, if_neg (show ¬ q = a by omega), if_neg (show ¬ q = m by omega)]
    by_cases e : m = a
    · rw [if_pos e, e]; exact h2 q (by omega) q2
    · rw [if_neg e, if_pos rfl]; exact h2 q q1 q2
theorem p_at' {β : Type} {l : List Int} {k : Nat} (h : k < l.length) (f : Int → Option β) : gd ((0 : Int) ≤ (k : Int) ∧ (k : Int) < ((l.length : Nat) : Int)) (bd (l[k]?) f) = f (at_ l k) := p_at h f
theorem prt_ok {l : List Int} {a b p : Nat} (hl : l.length < 1152921504606846976) (hb : b ≤ l.length) (hab : a + 1 < b) (hp : a ≤ p ∧ p < b) {f : Nat} (hf : b + 3 < f) :
    ∃ (l' : List Int) (m : Nat) (c : Bool), g_sPrt f l (a : Int) (b : Int) (p : Int) = some (l', (m : Int), c) ∧ Loc l l' a b ∧ a ≤ m ∧ m < b ∧ (∀ q, a ≤ q → q < m → at_ l' q ≤ at_ l' m) ∧ (∀ q, m < q → q < b → at_ l' m ≤ at_ l' q) := by
  simp only [g_sPrt, p_lt, p_jn]
  rw [p_at (by omega), p_at (by omega), p_gd (by omega), p_gd (by omega), Int.toNat_natCast, Int.toNat_natCast, ← swp_def, wr_s a (by omega), wr_p b (by omega) (by omega)]
  have hL0 : Loc l (swp l a p) a b := Loc.swp (by omega) (by omega) hb
  have hl0 : (swp l a p).length < 1152921504606846976 := by rw [swp_len]; exact hl
  have hb0 : b ≤ (swp l a p).length := by rw [swp_len]; exact hb
  generalize swp l a p = l0 at *
  obtain ⟨i', e1, k1, k2, k3, k4⟩ := prt_l1 l0 a f hl0 (fun x29 => g_sPrt_l2 (fun x57 => br (decide (x29 > x57)) (gd ((0 : Int) ≤ (a : Int) ∧ (a : Int) < ((l0.length : Nat) : Int)) (bd (l0[a]?) fun x233 => gd ((0 : Int) ≤ x57 ∧ x57 < ((l0.length : Nat) : Int)) (bd (l0[Int.toNat x57]?) fun x235 => gd ((0 : Int) ≤ x57 ∧ x57 < ((l0.length : Nat) : Int)) (gd ((0 : Int) ≤ (a : Int) ∧ (a : Int) < ((l0.length : Nat) : Int)) (some (List.set (List.set l0 (Int.toNat x57) x233) a x235, x57, true))))))
      (gd ((0 : Int) ≤ x57 ∧ x57 < ((l0.length : Nat) : Int)) (bd (l0[Int.toNat x57]?) fun x92 => gd ((0 : Int) ≤ x29 ∧ x29 < ((l0.length : Nat) : Int)) (bd (l0[Int.toNat x29]?) fun x94 => gd ((0 : Int) ≤ x29 ∧ x29 < ((l0.length : Nat) : Int)) (gd ((0 : Int) ≤ x57 ∧ x57 < ((l0.length : Nat) : Int)) (g_sPrt_l3 (fun l108 x109 => gd ((0 : Int) ≤ (a : Int) ∧ (a : Int) < ((l108.length : Nat) : Int)) (bd (l108[a]?) fun x214 => gd ((0 : Int) ≤ x109 ∧ x109 < ((l108.length : Nat) : Int)) (bd (l108[Int.toNat x109]?) fun x216 => gd ((0 : Int) ≤ x109 ∧ x109 < ((l108.length : Nat) : Int)) (gd ((0 : Int) ≤ (a : Int) ∧ (a : Int) < ((l108.length : Nat) : Int)) (some (List.set (List.set l108 (Int.toNat x109) x214) a x216, x109, false)))))) (a : Int) f f (List.set (List.set l0 (Int.toNat x29) x92) (Int.toNat x57) x94) (wr .i64 (x29 + 1)) (wr .i64 (x57 - 1)))))))) x29 l0 (a : Int) f f ((b - 1 : Nat) : Int))
    (b - 1) (by omega) (by omega) (b - 1 + 1 - (a + 1)) (a + 1) f (by omega) (by omega) (by omega)
  rw [e1]
  obtain ⟨j', e2, m1, m2, m3, m4⟩ := prt_l2 l0 a f hl0 (fun x57 => br (decide ((i' : Int) > x57)) (gd ((0 : Int) ≤ (a : Int) ∧ (a : Int) < ((l0.length : Nat) : Int)) (bd (l0[a]?) fun x233 => gd ((0 : Int) ≤ x57 ∧ x57 < ((l0.length : Nat) : Int)) (bd (l0[Int.toNat x57]?) fun x235 => gd ((0 : Int) ≤ x57 ∧ x57 < ((l0.length : Nat) : Int)) (gd ((0 : Int) ≤ (a : Int) ∧ (a : Int) < ((l0.length : Nat) : Int)) (some (List.set (List.set l0 (Int.toNat x57) x233) a x235, x57, true))))))
      (gd ((0 : Int) ≤ x57 ∧ x57 < ((l0.length : Nat) : Int)) (bd (l0[Int.toNat x57]?) fun x92 => gd ((0 : Int) ≤ (i' : Int) ∧ (i' : Int) < ((l0.length : Nat) : Int)) (bd (l0[Int.toNat (i' : Int)]?) fun x94 => gd ((0 : Int) ≤ (i' : Int) ∧ (i' : Int) < ((l0.length : Nat) : Int)) (gd ((0 : Int) ≤ x57 ∧ x57 < ((l0.length : Nat) : Int)) (g_sPrt_l3 (fun l108 x109 => gd ((0 : Int) ≤ (a : Int) ∧ (a : Int) < ((l108.length : Nat) : Int)) (bd (l108[a]?) fun x214 => gd ((0 : Int) ≤ x109 ∧ x109 < ((l108.length : Nat) : Int)) (bd (l108[Int.toNat x109]?) fun x216 => gd ((0 : Int) ≤ x109 ∧ x109 < ((l108.length : Nat) : Int)) (gd ((0 : Int) ≤ (a : Int) ∧ (a : Int) < ((l108.length : Nat) : Int)) (some (List.set (List.set l108 (Int.toNat x109) x214) a x216, x109, false)))))) (a : Int) f f (List.set (List.set l0 (Int.toNat (i' : Int)) x92) (Int.toNat x57) x94) (wr .i64 ((i' : Int) + 1)) (wr .i64 (x57 - 1))))))))
    i' (by omega) (by omega) (b - 1 + 1 - i') (b - 1) f (by omega) (by omega) (by omega) (by omega)
  rw [e2]
  have lo : ∀ q, a < q → q < i' → at_ l0 q < at_ l0 a := fun q q1 q2 => k3 q (by omega) q2
  have hi' : ∀ q, j' < q → q < b → at_ l0 a ≤ at_ l0 q := fun q q1 q2 => m3 q q1 (by omega)
  by_cases hc : j' < i'
  · rw [dec_t (by omega), p_brt, p_at' (by omega), p_at (by omega), p_gd (by omega), p_gd (by omega), Int.toNat_natCast, ← swp_def]
    obtain ⟨g1, g2, g3⟩ := prt_fin hb0 (show a ≤ j' by omega) (by omega) (fun q q1 q2 => lo q q1 (by omega)) hi'
    exact ⟨_, j', true, rfl, hL0.trans g1, by omega, by omega, g2, g3⟩
  · have hne : i' ≠ j' := by
      intro e
      have := k4 (by omega)
      have := m4 (by omega)
      rw [e] at *
      omega
    rw [dec_f (by omega), p_brf, p_at (by omega), p_at (by omega), p_gd (by omega), p_gd (by omega), Int.toNat_natCast, Int.toNat_natCast, ← swp_def, wr_s i' (by omega), wr_p j' (by omega) (by omega)]
    have sw : ∀ k, at_ (swp l0 i' j') k = if k = j' then at_ l0 i' else if k = i' then at_ l0 j' else at_ l0 k := fun k => at_swp (by omega) (by omega) k
    have ea : at_ (swp l0 i' j') a = at_ l0 a := by rw [sw, if_neg (by omega), if_neg (by omega)]
    obtain ⟨l', m, g1, g2, g3, g4, g5, g6⟩ := prt_l3 (fun l108 x109 => gd ((0 : Int) ≤ (a : Int) ∧ (a : Int) < ((l108.length : Nat) : Int)) (bd (l108[a]?) fun x214 => gd ((0 : Int) ≤ x109 ∧ x109 < ((l108.length : Nat) : Int)) (bd (l108[Int.toNat x109]?) fun x216 => gd ((0 : Int) ≤ x109 ∧ x109 < ((l108.length : Nat) : Int)) (gd ((0 : Int) ≤ (a : Int) ∧ (a : Int) < ((l108.length : Nat) : Int)) (some (List.set (List.set l108 (Int.toNat x109) x214) a x216, x109, false))))))
      a b f (by omega) (j' - 1 + 1 - (i' + 1)) (i' + 1) (j' - 1) (swp l0 i' j') f (by rw [swp_len]; exact hl0) (by rw [swp_len]; exact hb0) (by omega) (by omega) (by omega) (by omega) (by omega)
      (fun q q1 q2 => by
        rw [ea, sw, if_neg (by omega)]
        by_cases e : q = i'
        · rw [if_pos e]; exact m4 (by omega)
        · rw [if_neg e]; exact lo q q1 (by omega))
      (fun q q1 q2 => by
        rw [ea, sw]
        by_cases e : q = j'
        · rw [if_pos e]; exact k4 (by omega)
        · rw [if_neg e, if_neg (by omega)]; exact hi' q (by omega) q2)
    have hL1 := (Loc.swp (l := l0) (a := a) (b := b) (i := i') (j := j') (by omega) (by omega) hb0).trans (g2.mono (show a ≤ a + 1 by omega) (Nat.le_refl b))
    have hll : l'.length = l0.length := hL1.len
    rw [g1, p_at' (by omega), p_at (by omega), p_gd (by omega), p_gd (by omega), Int.toNat_natCast, ← swp_def]
    obtain ⟨q1, q2, q3⟩ := prt_fin (l := l') (by omega) g3 g4 g5 g6
    exact ⟨_, m, false, rfl, hL0.trans (hL1.trans q1), g3, g4, q2, q3⟩
theorem peq_l1 (K : List Int → Int → Option (List Int × Int)) (a b f : Nat) (hf : b + 2 < f) : ∀ (k i j : Nat) (l : List Int) (n : Nat), l.length < 1152921504606846976 → b ≤ l.length → a < i → i ≤ j + 1 → j < b → j + 1 ≤ i + k → k < n →
    (∀ q, a < q → q < i → at_ l q ≤ at_ l a) → (∀ q, j < q → q < b → at_ l a < at_ l q) →
    ∃ (l' : List Int) (m : Nat), g_sPeq_l1 K (a : Int) f n l (i : Int) (j : Int) = K l' (m : Int) ∧ Loc l l' (a + 1) b ∧ a < m ∧ m ≤ b ∧ (∀ q, a < q → q < m → at_ l' q ≤ at_ l' a) ∧ (∀ q, m ≤ q → q < b → at_ l' a < at_ l' q) := by
  intro k
  induction k using Nat.strongRecOn with
  | ind k ih =>
    intro i j l n hl hb hi hij hj hk hn h1 h2
    obtain ⟨n, rfl⟩ : ∃ m, n = m + 1 := ⟨n - 1, by omega⟩
    rw [g_sPeq_l1]
    simp only [p_lt, p_jn]
    obtain ⟨i', e1, k1, k2, k3, k4⟩ := peq_l2 l a f hl (fun x45 => g_sPeq_l3 (fun x74 => br (decide (x45 > x74)) (K l x45) (gd ((0 : Int) ≤ x74 ∧ x74 < ((l.length : Nat) : Int)) (bd (l[Int.toNat x74]?) fun x108 => gd ((0 : Int) ≤ x45 ∧ x45 < ((l.length : Nat) : Int)) (bd (l[Int.toNat x45]?) fun x110 => gd ((0 : Int) ≤ x45 ∧ x45 < ((l.length : Nat) : Int)) (gd ((0 : Int) ≤ x74 ∧ x74 < ((l.length : Nat) : Int)) (g_sPeq_l1 K (a : Int) f n (List.set (List.set l (Int.toNat x45) x108) (Int.toNat x74) x110) (wr .i64 (x45 + 1)) (wr .i64 (x74 - 1)))))))) x45 (a : Int) l f f (j : Int))
      j (by omega) (by omega) (j + 1 - i) i f hij (by omega) (by omega)
    rw [e1]
    obtain ⟨j', e2, m1, m2, m3, m4⟩ := peq_l3 l a f hl (fun x74 => br (decide ((i' : Int) > x74)) (K l (i' : Int)) (gd ((0 : Int) ≤ x74 ∧ x74 < ((l.length : Nat) : Int)) (bd (l[Int.toNat x74]?) fun x108 => gd ((0 : Int) ≤ (i' : Int) ∧ (i' : Int) < ((l.length : Nat) : Int)) (bd (l[Int.toNat (i' : Int)]?) fun x110 => gd ((0 : Int) ≤ (i' : Int) ∧ (i' : Int) < ((l.length : Nat) : Int)) (gd ((0 : Int) ≤ x74 ∧ x74 < ((l.length : Nat) : Int)) (g_sPeq_l1 K (a : Int) f n (List.set (List.set l (Int.toNat (i' : Int)) x108) (Int.toNat x74) x110) (wr .i64 ((i' : Int) + 1)) (wr .i64 (x74 - 1))))))))
      i' (by omega) (by omega) (j + 1 - i') j f (by omega) (by omega) (by omega) (by omega)
    rw [e2]
    have lo : ∀ q, a < q → q < i' → at_ l q ≤ at_ l a := fun q q1 q2 => by
      by_cases e : q < i
      · exact h1 q q1 e
      · exact k3 q (by omega) q2
    have hi' : ∀ q, j' < q → q < b → at_ l a < at_ l q := fun q q1 q2 => by
      by_cases e : j < q
      · exact h2 q e q2
      · exact m3 q q1 (by omega)
    by_cases hc : j' < i'
    · rw [dec_t (by omega), p_brt]
      exact ⟨l, i', rfl, .refl _ _ _, by omega, by omega, lo, fun q q1 q2 => hi' q (by omega) q2⟩
    · have hne : i' ≠ j' := by
        intro e
        have := k4 (by omega)
        have := m4 (by omega)
        rw [e] at *
        omega
      rw [dec_f (by omega), p_brf, p_at (by omega), p_at (by omega), p_gd (by omega), p_gd (by omega), Int.toNat_natCast, Int.toNat_natCast, ← swp_def, wr_s i' (by omega), wr_p j' (by omega) (by omega)]
      have sw : ∀ k, at_ (swp l i' j') k = if k = j' then at_ l i' else if k = i' then at_ l j' else at_ l k := fun k => at_swp (by omega) (by omega) k
      have ea : at_ (swp l i' j') a = at_ l a := by rw [sw, if_neg (by omega), if_neg (by omega)]
      obtain ⟨l', m, g1, g2, g3, g4, g5, g6⟩ := ih (j' - 1 + 1 - (i' + 1)) (by omega) (i' + 1) (j' - 1) (swp l i' j') n (by rw [swp_len]; exact hl) (by rw [swp_len]; exact hb) (by omega) (by omega) (by omega) (by omega) (by omega)
        (fun q q1 q2 => by
          rw [ea, sw, if_neg (by omega)]
          by_cases e : q = i'
          · rw [if_pos e]; exact m4 (by omega)
          · rw [if_neg e]; exact lo q q1 (by omega))
        (fun q q1 q2 => by
          rw [ea, sw]
          by_cases e : q = j'
          · rw [if_pos e]; exact k4 (by omega)
          · rw [if_neg e, if_neg (by omega)]; exact hi' q (by omega) q2)
      exact ⟨l', m, g1, (Loc.swp (by omega) (by omega) hb).trans g2, g3, g4, g5, g6⟩
theorem peq_ok {l : List Int} {a b p : Nat} (hl : l.length < 1152921504606846976) (hb : b ≤ l.length) (hab : a + 1 < b) (hp : a ≤ p ∧ p < b) (hmin : ∀ q, a ≤ q → q < b → at_ l p ≤ at_ l q) {f : Nat} (hf : b + 3 < f) :
    ∃ (l' : List Int) (m : Nat), g_sPeq f l (a : Int) (b : Int) (p : Int) = some (l', (m : Int)) ∧ Loc l l' a b ∧ a < m ∧ m ≤ b ∧ (∀ q, a ≤ q → q < m → at_ l' q = at_ l p) ∧ (∀ q, m ≤ q → q < b → at_ l p < at_ l' q) := by
  simp only [g_sPeq, p_lt, p_jn]
  rw [p_at (by omega), p_at (by omega), p_gd (by omega), p_gd (by omega), Int.toNat_natCast, Int.toNat_natCast, ← swp_def, wr_s a (by omega), wr_p b (by omega) (by omega)]
  have hL0 : Loc l (swp l a p) a b := Loc.swp (by omega) (by omega) hb
  have ea : at_ (swp l a p) a = at_ l p := by
    rw [at_swp (by omega) (by omega)]
    by_cases e : a = p
    · rw [if_pos e, e]
    · rw [if_neg e, if_pos rfl]
  obtain ⟨l', m, g1, g2, g3, g4, g5, g6⟩ := peq_l1 (fun l29 x30 => some (l29, x30)) a b f (by omega) (b - 1 + 1 - (a + 1)) (a + 1) (b - 1) (swp l a p) f (by rw [swp_len]; exact hl) (by rw [swp_len]; exact hb) (by omega) (by omega) (by omega) (by omega) (by omega)
    (fun q q1 q2 => by omega) (fun q q1 q2 => by omega)
  have hL1 := hL0.trans (g2.mono (show a ≤ a + 1 by omega) (Nat.le_refl b))
  have ea' : at_ l' a = at_ l p := by rw [g2.out a (by omega), ea]
  refine ⟨l', m, g1, hL1, g3, g4, fun q q1 q2 => ?_, fun q q1 q2 => by rw [← ea']; exact g6 q q1 q2⟩
  by_cases e : q = a
  · subst e; exact ea'
  · have h1 := g5 q (by omega) q2
    rw [ea'] at h1
    obtain ⟨k', k1, k2, k3⟩ := hL1.ins q q1 (by omega)
    have := hmin k' k1 k2
    rw [k3] at h1 ⊢
    omega
end Go.Proofs
