/- Sorting numbers: the smaller parts of the library's sort. -/
import Derived.Test.YtcbjobfklcefpaaGreatLO
import Derived.Test.YtcbjobfklcefpaaGreatLI
set_option linter.unusedVariables false
set_option linter.unusedSimpArgs false
set_option maxRecDepth 100000
set_option maxHeartbeats 1000000
namespace Go.Proofs
open Gw
/-! backwards -/
theorem rev_l1 (K : List Int → Option (List Int)) (f a b : Nat) : ∀ (k i j : Nat) (l : List Int) (n : Nat), l.length < 1152921504606846976 → b ≤ l.length → a ≤ i → j < b → j < i + k → k < n →
    ∃ l', g_sRev_l1 K f n l (i : Int) (j : Int) = K l' ∧ Loc l l' a b := by
  intro k
  induction k with
  | zero =>
    intro i j l n hl hb hi hj hk hn
    obtain ⟨n, rfl⟩ : ∃ m, n = m + 1 := ⟨n - 1, by omega⟩
    refine ⟨l, ?_, .refl _ _ _⟩
    rw [g_sRev_l1]
    simp only [p_lt]
    rw [dec_f (by omega), p_brf]
  | succ k ih =>
    intro i j l n hl hb hi hj hk hn
    obtain ⟨n, rfl⟩ : ∃ m, n = m + 1 := ⟨n - 1, by omega⟩
    rw [g_sRev_l1]
    simp only [p_lt, p_jn]
    by_cases h : i < j
    · rw [dec_t (by omega), p_brt, p_at (by omega), p_at (by omega), p_gd (by omega), p_gd (by omega), Int.toNat_natCast, Int.toNat_natCast, ← swp_def, wr_s i (by omega), wr_p j (by omega) (by omega)]
      obtain ⟨l', e, hL⟩ := ih (i + 1) (j - 1) (swp l i j) n (by rw [swp_len]; exact hl) (by rw [swp_len]; exact hb) (by omega) (by omega) (by omega) (by omega)
      exact ⟨l', e, (Loc.swp (by omega) (by omega) hb).trans hL⟩
    · rw [dec_f (by omega), p_brf]
      exact ⟨l, rfl, .refl _ _ _⟩
theorem rev_ok {l : List Int} {a b f : Nat} (hl : l.length < 1152921504606846976) (hb : b ≤ l.length) (hab : a < b) (hf : b + 1 < f) : ∃ l', g_sRev f l (a : Int) (b : Int) = some l' ∧ Loc l l' a b := by
  simp only [g_sRev, p_lt, p_jn]
  rw [wr_p b (by omega) (by omega)]
  exact rev_l1 _ f a b b a (b - 1) l f hl hb (Nat.le_refl _) (by omega) (by omega) (by omega)
/-! a little insertion -/
def PR (l : List Int) (a b : Nat) : Prop := ∀ k, 0 < a → a ≤ k → k < b → at_ l (a - 1) ≤ at_ l k
theorem PR.loc {l l' : List Int} {a b : Nat} (h : PR l a b) (hL : Loc l l' a b) : PR l' a b := by
  intro k h0 h1 h2
  obtain ⟨k', a1, a2, e⟩ := hL.ins k h1 h2
  rw [e, hL.out (a - 1) (by omega)]
  exact h k' h0 a1 a2
theorem par_l2 (K : Int → Option (List Int × Bool)) (a b f : Nat) (l : List Int) (hl : l.length < 1152921504606846976) (hb : b ≤ l.length) : ∀ (k i n : Nat), a < i → i + k = b → k < n → Srt l a i →
    ∃ i', g_sPis_l2 K (b : Int) l f n (i : Int) = K ((i' : Nat) : Int) ∧ a < i' ∧ i' ≤ b ∧ Srt l a i' := by
  intro k
  induction k with
  | zero =>
    intro i n ha hi hn hs
    obtain ⟨n, rfl⟩ : ∃ m, n = m + 1 := ⟨n - 1, by omega⟩
    refine ⟨i, ?_, ha, by omega, hs⟩
    rw [g_sPis_l2]
    simp only [p_lt, p_jn]
    rw [dec_f (by omega), p_brf, p_brf]
  | succ k ih =>
    intro i n ha hi hn hs
    obtain ⟨n, rfl⟩ : ∃ m, n = m + 1 := ⟨n - 1, by omega⟩
    rw [g_sPis_l2]
    simp only [p_lt, p_jn]
    rw [dec_t (by omega), p_brt, p_at (by omega), wr_p i (by omega) (by omega), p_at (by omega), Less_ok, p_bd]
    by_cases h : at_ l i < at_ l (i - 1)
    · rw [dec_t h]
      simp only [Bool.not_true]
      rw [p_brf]
      exact ⟨i, rfl, ha, by omega, hs⟩
    · rw [dec_f h]
      simp only [Bool.not_false]
      rw [p_brt, wr_s i (by omega)]
      refine ih (i + 1) n (by omega) (by omega) (by omega) fun p q hp hpq hq => ?_
      by_cases e : q = i
      · subst e
        by_cases e2 : p = q - 1
        · subst e2; omega
        · have := hs p (q - 1) hp (by omega) (by omega); omega
      · exact hs p q hp hpq (by omega)
theorem par_l3 (K : List Int → Option (List Int × Bool)) (a b f i : Nat) (hib : i < b) : ∀ (j : Nat) (l : List Int) (n : Nat), l.length < 1152921504606846976 → b ≤ l.length → a ≤ j → j ≤ i → j < n → PR l a b →
    Srt l a j → (∀ p q, j ≤ p → p < q → q ≤ i → at_ l p ≤ at_ l q) → (∀ p q, a ≤ p → p < j → j < q → q ≤ i → at_ l p ≤ at_ l q) →
    ∃ l', g_sPis_l3 f K n l (j : Int) = K l' ∧ Loc l l' a (i + 1) ∧ Srt l' a (i + 1) := by
  intro j
  induction j with
  | zero =>
    intro l n hl hb ha hj hn hp h1 h2 h3
    obtain ⟨n, rfl⟩ : ∃ m, n = m + 1 := ⟨n - 1, by omega⟩
    refine ⟨l, ?_, .refl _ _ _, fun p q hp hpq hq => h2 p q (by omega) hpq (by omega)⟩
    rw [g_sPis_l3]
    simp only [p_lt, p_jn]
    rw [dec_f (by omega), p_brf]
  | succ j ih =>
    intro l n hl hb ha hj hn hp h1 h2 h3
    obtain ⟨n, rfl⟩ : ∃ m, n = m + 1 := ⟨n - 1, by omega⟩
    rw [g_sPis_l3]
    simp only [p_lt, p_jn]
    rw [dec_t (by omega), p_brt, wr_p (j + 1) (by omega) (by omega), p_at (show j + 1 < l.length by omega), show j + 1 - 1 = j by omega, p_at (show j < l.length by omega), Less_ok, p_bd]
    by_cases hlt : at_ l (j + 1) < at_ l j
    · have haj : a ≤ j := by
        by_cases e : a = j + 1
        · have := hp (j + 1) (by omega) (by omega) (by omega)
          rw [e, Nat.add_sub_cancel] at this
          omega
        · omega
      rw [dec_t hlt]
      simp only [Bool.not_true]
      rw [p_brf, p_at (show j < l.length by omega), p_at (show j + 1 < l.length by omega), p_gd (by omega), p_gd (by omega), Int.toNat_natCast, Int.toNat_natCast, ← swp_def]
      have sw : ∀ k, at_ (swp l (j + 1) j) k = if k = j then at_ l (j + 1) else if k = j + 1 then at_ l j else at_ l k := fun k => at_swp (by omega) (by omega) k
      have hL0 : Loc l (swp l (j + 1) j) a b := Loc.swp (by omega) (by omega) (by omega)
      obtain ⟨l', e, hL, hS⟩ := ih (swp l (j + 1) j) n (by rw [swp_len]; exact hl) (by rw [swp_len]; exact hb) haj (by omega) (by omega) (hp.loc hL0)
        (fun p q hp hpq hq => by rw [sw, sw, if_neg (by omega), if_neg (by omega), if_neg (by omega), if_neg (by omega)]; exact h1 p q hp hpq (by omega))
        (fun p q hp hpq hq => by
          rw [sw, sw, if_neg (show ¬ q = j by omega)]
          by_cases e1 : p = j
          · rw [if_pos e1]
            by_cases e2 : q = j + 1
            · rw [if_pos e2]; omega
            · rw [if_neg e2]; exact h2 (j + 1) q (by omega) (by omega) hq
          · rw [if_neg e1]
            by_cases e2 : p = j + 1
            · rw [if_pos e2, if_neg (by omega)]
              exact h3 j q (by omega) (by omega) (by omega) hq
            · rw [if_neg e2, if_neg (by omega)]; exact h2 p q (by omega) hpq hq)
        (fun p q hp hpj hq hqi => by
          rw [sw, sw, if_neg (show ¬ p = j by omega), if_neg (show ¬ p = j + 1 by omega), if_neg (show ¬ q = j by omega)]
          by_cases e2 : q = j + 1
          · rw [if_pos e2]; exact h1 p j hp hpj (by omega)
          · rw [if_neg e2]; exact h3 p q hp (by omega) (by omega) hqi)
      exact ⟨l', e, (Loc.swp (by omega) (by omega) (by omega)).trans hL, hS⟩
    · rw [dec_f hlt]
      simp only [Bool.not_false]
      rw [p_brt]
      refine ⟨l, rfl, .refl _ _ _, fun p q hp hpq hq => ?_⟩
      by_cases e1 : q ≤ j
      · exact h1 p q hp hpq (by omega)
      · by_cases e2 : j + 1 ≤ p
        · exact h2 p q e2 hpq (by omega)
        · by_cases e3 : q = j + 1
          · subst e3
            by_cases e4 : p = j
            · subst e4; omega
            · have := h1 p j hp (by omega) (by omega); omega
          · exact h3 p q hp (by omega) (by omega) (by omega)
theorem par_l4 (K : List Int → Option (List Int × Bool)) (b f i : Nat) : ∀ (k j : Nat) (l : List Int) (n : Nat), l.length < 1152921504606846976 → b ≤ l.length → i < j → j + k = b → k < n →
    ∃ l', g_sPis_l4 (b : Int) f K n l (j : Int) = K l' ∧ Loc l l' i b := by
  intro k
  induction k with
  | zero =>
    intro j l n hl hb hj hk hn
    obtain ⟨n, rfl⟩ : ∃ m, n = m + 1 := ⟨n - 1, by omega⟩
    refine ⟨l, ?_, .refl _ _ _⟩
    rw [g_sPis_l4]
    simp only [p_lt]
    rw [dec_f (by omega), p_brf]
  | succ k ih =>
    intro j l n hl hb hj hk hn
    obtain ⟨n, rfl⟩ : ∃ m, n = m + 1 := ⟨n - 1, by omega⟩
    rw [g_sPis_l4]
    simp only [p_lt, p_jn]
    rw [dec_t (by omega), p_brt, wr_p j (by omega) (by omega), p_at (by omega), p_at (by omega), Less_ok, p_bd]
    by_cases h : at_ l j < at_ l (j - 1)
    · rw [dec_t h]
      simp only [Bool.not_true]
      rw [p_brf, p_at (by omega), p_at (by omega), p_gd (by omega), p_gd (by omega), Int.toNat_natCast, Int.toNat_natCast, ← swp_def, wr_s j (by omega)]
      obtain ⟨l', e, hL⟩ := ih (j + 1) (swp l j (j - 1)) n (by rw [swp_len]; exact hl) (by rw [swp_len]; exact hb) (by omega) (by omega) (by omega)
      exact ⟨l', e, (Loc.swp (by omega) (by omega) hb).trans hL⟩
    · rw [dec_f h]
      simp only [Bool.not_false]
      rw [p_brt]
      exact ⟨l, rfl, .refl _ _ _⟩
theorem par_l1 (a b f : Nat) (hf : b + 2 < f) : ∀ (k s i : Nat) (l : List Int) (n : Nat), l.length < 1152921504606846976 → b ≤ l.length → a < i → i ≤ b → s + k = 5 → k < n → PR l a b → Srt l a i →
    ∃ l' c, g_sPis_l1 (b : Int) (a : Int) f (fun l8 => some (l8, false)) n l (i : Int) (s : Int) = some (l', c) ∧ Loc l l' a b ∧ (c = true → Srt l' a b) := by
  intro k
  induction k with
  | zero =>
    intro s i l n hl hb ha hi hs hn hp h
    obtain ⟨n, rfl⟩ : ∃ m, n = m + 1 := ⟨n - 1, by omega⟩
    refine ⟨l, false, ?_, .refl _ _ _, fun h => by cases h⟩
    rw [g_sPis_l1]
    simp only [p_lt]
    rw [dec_f (by omega), p_brf]
  | succ k ih =>
    intro s i l n hl hb ha hi hs hn hp h
    obtain ⟨n, rfl⟩ : ∃ m, n = m + 1 := ⟨n - 1, by omega⟩
    rw [g_sPis_l1]
    simp only [p_lt, p_jn]
    rw [dec_t (by omega), p_brt, wr_s s (by omega)]
    obtain ⟨i', e, h1, h2, h3⟩ := par_l2 (fun x27 => br (x27 == (b : Int)) (some (l, true)) (br (decide (wr .i64 ((b : Int) - (a : Int)) < 50)) (some (l, false)) (gd ((0 : Int) ≤ wr .i64 (x27 - 1) ∧ wr .i64 (x27 - 1) < ((l.length : Nat) : Int)) (bd (l[Int.toNat (wr .i64 (x27 - 1))]?) fun x67 => gd ((0 : Int) ≤ x27 ∧ x27 < ((l.length : Nat) : Int)) (bd (l[Int.toNat x27]?) fun x69 => gd ((0 : Int) ≤ x27 ∧ x27 < ((l.length : Nat) : Int)) (gd ((0 : Int) ≤ wr .i64 (x27 - 1) ∧ wr .i64 (x27 - 1) < ((l.length : Nat) : Int)) (br (decide (wr .i64 (x27 - (a : Int)) ≥ 2)) (g_sPis_l3 f (fun l87 => br (decide (wr .i64 ((b : Int) - x27) ≥ 2)) (g_sPis_l4 (b : Int) f (fun l137 => g_sPis_l1 (b : Int) (a : Int) f (fun l8 => some (l8, false)) n l137 x27 ((s + 1 : Nat) : Int)) f l87 (wr .i64 (x27 + 1))) (g_sPis_l1 (b : Int) (a : Int) f (fun l8 => some (l8, false)) n l87 x27 ((s + 1 : Nat) : Int))) f (List.set (List.set l (Int.toNat x27) x67) (Int.toNat (wr .i64 (x27 - 1))) x69) (wr .i64 (x27 - 1))) (br (decide (wr .i64 ((b : Int) - x27) ≥ 2)) (g_sPis_l4 (b : Int) f (fun l137 => g_sPis_l1 (b : Int) (a : Int) f (fun l8 => some (l8, false)) n l137 x27 ((s + 1 : Nat) : Int)) f (List.set (List.set l (Int.toNat x27) x67) (Int.toNat (wr .i64 (x27 - 1))) x69) (wr .i64 (x27 + 1))) (g_sPis_l1 (b : Int) (a : Int) f (fun l8 => some (l8, false)) n (List.set (List.set l (Int.toNat x27) x67) (Int.toNat (wr .i64 (x27 - 1))) x69) x27 ((s + 1 : Nat) : Int))))))))))
      a b f l hl hb (b - i) i f ha (by omega) (by omega) h
    rw [e]
    by_cases hib : i' = b
    · rw [show ((i' : Int) == (b : Int)) = true by simp [hib], p_brt]
      subst hib
      exact ⟨l, true, rfl, .refl _ _ _, fun _ => h3⟩
    · rw [show ((i' : Int) == (b : Int)) = false by simp; omega, p_brf]
      by_cases h50 : wr .i64 ((b : Int) - (a : Int)) < 50
      · rw [dec_t h50, p_brt]
        exact ⟨l, false, rfl, .refl _ _ _, fun h => by cases h⟩
      · rw [dec_f h50, p_brf, wr_p i' (by omega) (by omega), p_at (by omega), p_at (by omega), p_gd (by omega), p_gd (by omega), Int.toNat_natCast, Int.toNat_natCast, ← swp_def, wr_m i' a (by omega) (by omega), wr_m b i' (by omega) (by omega), wr_s i' (by omega)]
        have sw : ∀ k, at_ (swp l i' (i' - 1)) k = if k = i' - 1 then at_ l i' else if k = i' then at_ l (i' - 1) else at_ l k := fun k => at_swp (by omega) (by omega) k
        have hL0 : Loc l (swp l i' (i' - 1)) a b := Loc.swp (by omega) (by omega) hb
        -- behind the right part
        have right : ∀ m : List Int, Loc l m a b → Srt m a i' → ∃ l' c, br (decide (((b - i' : Nat) : Int) ≥ 2)) (g_sPis_l4 (b : Int) f (fun l137 => g_sPis_l1 (b : Int) (a : Int) f (fun l8 => some (l8, false)) n l137 (i' : Int) ((s + 1 : Nat) : Int)) f m ((i' + 1 : Nat) : Int)) (g_sPis_l1 (b : Int) (a : Int) f (fun l8 => some (l8, false)) n m (i' : Int) ((s + 1 : Nat) : Int)) = some (l', c) ∧ Loc l l' a b ∧ (c = true → Srt l' a b) := by
          intro m hm hms
          by_cases hb2 : ((b - i' : Nat) : Int) ≥ 2
          · rw [dec_t hb2, p_brt]
            obtain ⟨l4, e4, hL4⟩ := par_l4 (fun l137 => g_sPis_l1 (b : Int) (a : Int) f (fun l8 => some (l8, false)) n l137 (i' : Int) ((s + 1 : Nat) : Int)) b f i' (b - (i' + 1)) (i' + 1) m f (by rw [hm.len]; exact hl) (by rw [hm.len]; exact hb) (by omega) (by omega) (by omega)
            rw [e4]
            have hm4 := hm.trans (hL4.mono (show a ≤ i' by omega) (Nat.le_refl b))
            obtain ⟨l', c, g1, g2, g3⟩ := ih (s + 1) i' l4 n (by rw [hm4.len]; exact hl) (by rw [hm4.len]; exact hb) h1 h2 (by omega) (by omega) (hp.loc hm4)
              (fun p q hp hpq hq => by rw [hL4.out p (by omega), hL4.out q (by omega)]; exact hms p q hp hpq hq)
            exact ⟨l', c, g1, hm4.trans g2, g3⟩
          · rw [dec_f hb2, p_brf]
            obtain ⟨l', c, g1, g2, g3⟩ := ih (s + 1) i' m n (by rw [hm.len]; exact hl) (by rw [hm.len]; exact hb) h1 h2 (by omega) (by omega) (hp.loc hm) hms
            exact ⟨l', c, g1, hm.trans g2, g3⟩
        by_cases ha2 : ((i' - a : Nat) : Int) ≥ 2
        · rw [dec_t ha2, p_brt]
          obtain ⟨l3, e3, hL3, hS3⟩ := par_l3 (fun l87 => br (decide (((b - i' : Nat) : Int) ≥ 2)) (g_sPis_l4 (b : Int) f (fun l137 => g_sPis_l1 (b : Int) (a : Int) f (fun l8 => some (l8, false)) n l137 (i' : Int) ((s + 1 : Nat) : Int)) f l87 ((i' + 1 : Nat) : Int)) (g_sPis_l1 (b : Int) (a : Int) f (fun l8 => some (l8, false)) n l87 (i' : Int) ((s + 1 : Nat) : Int))) a b f (i' - 1) (by omega) (i' - 1) (swp l i' (i' - 1)) f (by rw [swp_len]; exact hl) (by rw [swp_len]; exact hb) (by omega) (by omega) (by omega) (hp.loc hL0)
            (fun p q hp hpq hq => by rw [sw, sw, if_neg (by omega), if_neg (by omega), if_neg (by omega), if_neg (by omega)]; exact h3 p q hp hpq (by omega))
            (fun p q hp hpq hq => by omega) (fun p q hp hpq hq hqi => by omega)
          rw [e3]
          have hm3 := hL0.trans (hL3.mono (Nat.le_refl a) (show i' - 1 + 1 ≤ b by omega))
          exact right l3 hm3 (by rw [show i' - 1 + 1 = i' by omega] at hS3; exact hS3)
        · rw [dec_f ha2, p_brf]
          exact right _ hL0 (fun p q hp hpq hq => by omega)
theorem par_ok {l : List Int} {a b f : Nat} (hl : l.length < 1152921504606846976) (hb : b ≤ l.length) (hab : a < b) (hf : b + 5 < f) (hf2 : 5 < f) (hp : PR l a b) : ∃ l' c, g_sPis f l (a : Int) (b : Int) = some (l', c) ∧ Loc l l' a b ∧ (c = true → Srt l' a b) := by
  simp only [g_sPis, p_lt, p_jn]
  rw [wr_s a (by omega)]
  exact par_l1 a b f (by omega) 5 0 (a + 1) l f hl hb (by omega) (by omega) (by omega) (by omega) hp (fun p q hp hpq hq => by omega)
end Go.Proofs
