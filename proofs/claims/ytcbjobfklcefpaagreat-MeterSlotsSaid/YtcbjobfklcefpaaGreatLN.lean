/- Sorting numbers: the library's insertion sort and heap sort. -/
import Derived.Test.YtcbjobfklcefpaaGreatLA
import Derived.Test.YtcbjobfklcefpaaGreatY4
set_option linter.unusedVariables false
set_option linter.unusedSimpArgs false
set_option maxRecDepth 100000
set_option maxHeartbeats 1000000
namespace Go.Proofs
open Gw
def at_ (l : List Int) (k : Nat) : Int := l[k]?.getD 0
def swp (l : List Int) (i j : Nat) : List Int := (l.set i (at_ l j)).set j (at_ l i)
theorem at_get {l : List Int} {k : Nat} (h : k < l.length) : l[k]? = some (at_ l k) := by unfold at_; rw [List.getElem?_eq_getElem h]; rfl
theorem swp_len (l : List Int) (i j : Nat) : (swp l i j).length = l.length := by simp [swp]
theorem at_set (l : List Int) (i k : Nat) (v : Int) (h : i < l.length) : at_ (l.set i v) k = if k = i then v else at_ l k := by
  unfold at_
  by_cases e : k = i
  · subst e; rw [List.getElem?_set_self h, if_pos rfl]; rfl
  · rw [List.getElem?_set_ne (fun g => e g.symm), if_neg e]
theorem at_swp {l : List Int} {i j : Nat} (hi : i < l.length) (hj : j < l.length) (k : Nat) : at_ (swp l i j) k = if k = j then at_ l i else if k = i then at_ l j else at_ l k := by
  unfold swp
  rw [at_set _ _ _ _ (by simpa using hj), at_set _ _ _ _ hi]
theorem swp_perm {l : List Int} {i j : Nat} (hi : i < l.length) (hj : j < l.length) : (swp l i j).Perm l := by
  unfold swp
  have e1 : at_ l j = l[j] := by unfold at_; simp [hj]
  have e2 : at_ l i = l[i] := by unfold at_; simp [hi]
  rw [e1, e2]; exact List.set_set_perm hi hj
/-- what stays within a to b -/
structure Loc (l l' : List Int) (a b : Nat) : Prop where
  len : l'.length = l.length
  perm : l'.Perm l
  out : ∀ k, k < a ∨ b ≤ k → at_ l' k = at_ l k
  ins : ∀ k, a ≤ k → k < b → ∃ k', a ≤ k' ∧ k' < b ∧ at_ l' k = at_ l k'
theorem Loc.refl (l : List Int) (a b : Nat) : Loc l l a b := ⟨rfl, .refl _, fun _ _ => rfl, fun k h1 h2 => ⟨k, h1, h2, rfl⟩⟩
theorem Loc.trans {l m n : List Int} {a b : Nat} (h : Loc l m a b) (g : Loc m n a b) : Loc l n a b :=
  ⟨g.len.trans h.len, g.perm.trans h.perm, fun k hk => (g.out k hk).trans (h.out k hk), fun k h1 h2 => by
    obtain ⟨k1, a1, b1, e1⟩ := g.ins k h1 h2
    obtain ⟨k2, a2, b2, e2⟩ := h.ins k1 a1 b1
    exact ⟨k2, a2, b2, e1.trans e2⟩⟩
theorem Loc.mono {l m : List Int} {a b a' b' : Nat} (h : Loc l m a b) (ha : a' ≤ a) (hb : b ≤ b') : Loc l m a' b' :=
  ⟨h.len, h.perm, fun k hk => h.out k (by omega), fun k h1 h2 => by
    by_cases hk : a ≤ k ∧ k < b
    · obtain ⟨k', a1, b1, e⟩ := h.ins k hk.1 hk.2
      exact ⟨k', by omega, by omega, e⟩
    · exact ⟨k, h1, h2, h.out k (by omega)⟩⟩
theorem Loc.swp {l : List Int} {a b i j : Nat} (hi : a ≤ i ∧ i < b) (hj : a ≤ j ∧ j < b) (hb : b ≤ l.length) : Loc l (swp l i j) a b :=
  ⟨swp_len _ _ _, swp_perm (by omega) (by omega), fun k hk => by rw [at_swp (by omega) (by omega), if_neg (by omega), if_neg (by omega)], fun k h1 h2 => by
    rw [at_swp (by omega) (by omega)]
    by_cases e : k = j
    · exact ⟨i, hi.1, hi.2, by rw [if_pos e]⟩
    · by_cases e2 : k = i
      · exact ⟨j, hj.1, hj.2, by rw [if_neg e, if_pos e2]⟩
      · exact ⟨k, h1, h2, by rw [if_neg e, if_neg e2]⟩⟩
def Srt (l : List Int) (a b : Nat) : Prop := ∀ i j, a ≤ i → i < j → j < b → at_ l i ≤ at_ l j
theorem Less_ok (x y : Int) (f : Nat) : g_Less f x y = some (decide (x < y)) := by
  simp only [g_Less, g_cmp_isNaN_uint64, p_lt, p_jn, p_bd, p_br]
  simp
theorem p_at {β : Type} {l : List Int} {k : Nat} (h : k < l.length) (f : Int → Option β) : gd ((0 : Int) ≤ (k : Int) ∧ (k : Int) < ((l.length : Nat) : Int)) (bd (l[Int.toNat (k : Int)]?) f) = f (at_ l k) := p_ix (at_get h) f
theorem swp_def (l : List Int) (i j : Nat) : swp l i j = (l.set i (at_ l j)).set j (at_ l i) := rfl
theorem wr_p (i : Nat) (h : i < 4611686018427387904) (h0 : 0 < i) : wr .i64 ((i : Int) - 1) = ((i - 1 : Nat) : Int) := by rw [wr_i _ (by omega) (by omega)]; omega
theorem wr_a (i j : Nat) (h : i < 4611686018427387904) (h' : j < 4611686018427387904) : wr .i64 ((i : Int) + (j : Int)) = ((i + j : Nat) : Int) := by rw [wr_i _ (by omega) (by omega)]; omega
theorem wr_m (i j : Nat) (h : i < 4611686018427387904) (h' : j ≤ i) : wr .i64 ((i : Int) - (j : Int)) = ((i - j : Nat) : Int) := by rw [wr_i _ (by omega) (by omega)]; omega
/-! insertion -/
theorem ins_l2 (a f i : Nat) (K : List Int → Option (List Int)) : ∀ (j : Nat) (l : List Int) (n : Nat), l.length < 4611686018427387904 → i < l.length → a ≤ j → j ≤ i → j < n →
    Srt l a j → (∀ p q, j ≤ p → p < q → q ≤ i → at_ l p ≤ at_ l q) → (∀ p q, a ≤ p → p < j → j < q → q ≤ i → at_ l p ≤ at_ l q) →
    ∃ l', g_sIns_l2 K (a : Int) f n l (j : Int) = K l' ∧ Loc l l' a (i + 1) ∧ Srt l' a (i + 1) := by
  intro j
  induction j with
  | zero =>
    intro l n hl hil ha hj hn h1 h2 h3
    obtain ⟨n, rfl⟩ : ∃ m, n = m + 1 := ⟨n - 1, by omega⟩
    refine ⟨l, ?_, .refl _ _ _, fun p q hp hpq hq => h2 p q (by omega) hpq (by omega)⟩
    rw [g_sIns_l2]
    simp only [p_lt, p_jn]
    rw [dec_f (by omega), p_brf, p_brf]
  | succ j ih =>
    intro l n hl hil ha hj hn h1 h2 h3
    obtain ⟨n, rfl⟩ : ∃ m, n = m + 1 := ⟨n - 1, by omega⟩
    rw [g_sIns_l2]
    simp only [p_lt, p_jn]
    by_cases hja : j + 1 = a
    · refine ⟨l, ?_, .refl _ _ _, fun p q hp hpq hq => h2 p q (by omega) hpq (by omega)⟩
      rw [dec_f (by omega), p_brf, p_brf]
    · rw [dec_t (by omega), p_brt, wr_p (j + 1) (by omega) (by omega), p_at (show j + 1 < l.length by omega), show j + 1 - 1 = j by omega, p_at (show j < l.length by omega), Less_ok, p_bd]
      by_cases hlt : at_ l (j + 1) < at_ l j
      · rw [dec_t hlt, p_brt, p_at (show j < l.length by omega), p_at (show j + 1 < l.length by omega), p_gd (by omega), p_gd (by omega), Int.toNat_natCast, Int.toNat_natCast, ← swp_def]
        have sw : ∀ k, at_ (swp l (j + 1) j) k = if k = j then at_ l (j + 1) else if k = j + 1 then at_ l j else at_ l k := fun k => at_swp (by omega) (by omega) k
        obtain ⟨l', e, hL, hS⟩ := ih (swp l (j + 1) j) n (by rw [swp_len]; exact hl) (by rw [swp_len]; exact hil) (by omega) (by omega) (by omega)
          (fun p q hp hpq hq => by rw [sw, sw, if_neg (by omega), if_neg (by omega), if_neg (by omega), if_neg (by omega)]; exact h1 p q hp hpq (by omega))
          (fun p q hp hpq hq => by
            rw [sw, sw, if_neg (show ¬ q = j by omega)]
            by_cases e1 : p = j
            · rw [if_pos e1]
              by_cases e2 : q = j + 1
              · rw [if_pos e2]; omega
              · rw [if_neg e2]; exact h2 (j + 1) q (by omega) (by omega) hq
            · rw [if_neg e1]
              by_cases e2 : p = j + 1
              · rw [if_pos e2, if_neg (by omega)]
                exact h3 j q (by omega) (by omega) (by omega) hq
              · rw [if_neg e2, if_neg (by omega)]; exact h2 p q (by omega) hpq hq)
          (fun p q hp hpj hq hqi => by
            rw [sw, sw, if_neg (show ¬ p = j by omega), if_neg (show ¬ p = j + 1 by omega), if_neg (show ¬ q = j by omega)]
            by_cases e2 : q = j + 1
            · rw [if_pos e2]; exact h1 p j hp hpj (by omega)
            · rw [if_neg e2]; exact h3 p q hp (by omega) (by omega) hqi)
        exact ⟨l', e, (Loc.swp (by omega) (by omega) (by omega)).trans hL, hS⟩
      · rw [dec_f hlt, p_brf]
        refine ⟨l, rfl, .refl _ _ _, fun p q hp hpq hq => ?_⟩
        by_cases e1 : q ≤ j
        · exact h1 p q hp hpq (by omega)
        · by_cases e2 : j + 1 ≤ p
          · exact h2 p q e2 hpq (by omega)
          · by_cases e3 : q = j + 1
            · subst e3
              by_cases e4 : p = j
              · subst e4; omega
              · have := h1 p j hp (by omega) (by omega); omega
            · exact h3 p q hp (by omega) (by omega) (by omega)
theorem ins_l1 (a b f : Nat) (K : List Int → Option (List Int)) : ∀ (k i : Nat) (l : List Int) (n : Nat), l.length < 4611686018427387904 → b ≤ l.length → a < i → i + k = b → k < n → b + 1 < f → Srt l a i →
    ∃ l', g_sIns_l1 (b : Int) (a : Int) f K n l (i : Int) = K l' ∧ Loc l l' a b ∧ Srt l' a b := by
  intro k
  induction k with
  | zero =>
    intro i l n hl hb ha hi hn hf h1
    obtain ⟨n, rfl⟩ : ∃ m, n = m + 1 := ⟨n - 1, by omega⟩
    have e : i = b := by omega
    subst e
    refine ⟨l, ?_, .refl _ _ _, h1⟩
    rw [g_sIns_l1]
    simp only [p_lt]
    rw [dec_f (by omega), p_brf]
  | succ k ih =>
    intro i l n hl hb ha hi hn hf h1
    obtain ⟨n, rfl⟩ : ∃ m, n = m + 1 := ⟨n - 1, by omega⟩
    rw [g_sIns_l1]
    simp only [p_lt, p_jn]
    rw [dec_t (by omega), p_brt]
    obtain ⟨l1, e1, hL, hS⟩ := ins_l2 a f i (fun l21 => g_sIns_l1 (b : Int) (a : Int) f K n l21 (wr .i64 ((i : Int) + 1))) i l f hl (by omega) (by omega) (by omega) (by omega) h1
      (fun p q hp hpq hq => by omega) (fun p q hp hpq hq => by omega)
    rw [e1, wr_s i (by omega)]
    obtain ⟨l2, e2, hL2, hS2⟩ := ih (i + 1) l1 n (by rw [hL.len]; exact hl) (by rw [hL.len]; exact hb) (by omega) (by omega) (by omega) hf hS
    exact ⟨l2, e2, (hL.mono (Nat.le_refl _) (by omega)).trans hL2, hS2⟩
theorem ins_ok {l : List Int} {a b f : Nat} (hl : l.length < 4611686018427387904) (hb : b ≤ l.length) (hab : a ≤ b) (hf : b + 1 < f) : ∃ l', g_sIns f l (a : Int) (b : Int) = some l' ∧ Loc l l' a b ∧ Srt l' a b := by
  simp only [g_sIns, p_lt, p_jn]
  rw [wr_s a (by omega)]
  by_cases h : a < b
  · exact ins_l1 a b f (fun l8 => some l8) (b - (a + 1)) (a + 1) l f hl hb (by omega) (by omega) (by omega) hf (fun p q hp hpq hq => by omega)
  · refine ⟨l, ?_, .refl _ _ _, fun p q hp hpq hq => by omega⟩
    obtain ⟨g, rfl⟩ : ∃ g, f = g + 1 := ⟨f - 1, by omega⟩
    rw [g_sIns_l1]
    simp only [p_lt]
    rw [dec_f (by omega), p_brf]
end Go.Proofs
