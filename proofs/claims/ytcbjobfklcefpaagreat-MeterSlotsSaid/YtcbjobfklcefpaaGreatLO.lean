/- Sorting numbers: the library's heap sort. -/
import Derived.Test.YtcbjobfklcefpaaGreatLN
set_option linter.unusedVariables false
set_option linter.unusedSimpArgs false
set_option maxRecDepth 100000
set_option maxHeartbeats 1000000
namespace Go.Proofs
open Gw
def cc (k c : Nat) : Prop := c = 2 * k + 1 ∨ c = 2 * k + 2
def HP (l : List Int) (F hi lo : Nat) : Prop := ∀ k c, lo ≤ k → cc k c → c < hi → at_ l (F + c) ≤ at_ l (F + k)
def HX (l : List Int) (F hi lo r : Nat) : Prop := (∀ k c, lo ≤ k → k ≠ r → cc k c → c < hi → at_ l (F + c) ≤ at_ l (F + k)) ∧ ∀ p c, lo ≤ p → cc p r → cc r c → c < hi → at_ l (F + c) ≤ at_ l (F + p)
theorem HX.swap {l : List Int} {F hi lo r c : Nat} (h : HX l F hi lo r) (hlo : lo ≤ r) (hc : cc r c) (hch : c < hi) (hF : F + hi ≤ l.length) (hlt : at_ l (F + r) < at_ l (F + c)) (hm : ∀ d, cc r d → d < hi → at_ l (F + d) ≤ at_ l (F + c)) :
    HX (swp l (F + r) (F + c)) F hi lo c := by
  have hrc : r < c := by unfold cc at hc; omega
  have sw : ∀ k, at_ (swp l (F + r) (F + c)) (F + k) = if k = c then at_ l (F + r) else if k = r then at_ l (F + c) else at_ l (F + k) := by
    intro k
    rw [at_swp (by omega) (by omega)]
    by_cases e1 : k = c
    · rw [if_pos (by omega), if_pos e1]
    · by_cases e2 : k = r
      · rw [if_neg (by omega), if_pos (by omega), if_neg e1, if_pos e2]
      · rw [if_neg (by omega), if_neg (by omega), if_neg e1, if_neg e2]
  refine ⟨fun k x hk hkc hx hxh => ?_, fun p x hp hpc hx hxh => ?_⟩
  · rw [sw, sw, if_neg hkc]
    by_cases e1 : k = r
    · subst e1
      rw [if_pos rfl]
      by_cases e2 : x = c
      · rw [if_pos e2]; omega
      · rw [if_neg e2, if_neg (by unfold cc at hx; omega)]
        exact hm x hx hxh
    · rw [if_neg e1, if_neg (show ¬ x = c by unfold cc at hx hc; omega)]
      by_cases e2 : x = r
      · subst e2
        rw [if_pos rfl]
        exact h.2 k c hk hx hc hch
      · rw [if_neg e2]; exact h.1 k x hk e1 hx hxh
  · have e : p = r := by unfold cc at hpc hc; omega
    subst e
    rw [sw, sw, if_neg (show ¬ x = c by unfold cc at hx; omega), if_neg (show ¬ x = p by unfold cc at hx; omega), if_neg (show ¬ p = c by omega), if_pos rfl]
    exact h.1 c x (by omega) (by omega) hx hxh
theorem sift_l1 (F hi lo f : Nat) : ∀ (k r : Nat) (l : List Int) (n : Nat), l.length < 1152921504606846976 → F + hi ≤ l.length → r + k = hi + 1 → k < n → lo ≤ r → HX l F hi lo r →
    ∃ l', g_sSif_l1 (hi : Int) (fun l8 => some l8) (F : Int) f n l (r : Int) = some l' ∧ Loc l l' F (F + hi) ∧ HP l' F hi lo := by
  intro k
  induction k using Nat.strongRecOn with
  | ind k ih =>
    intro r l n hl hF hr hn hlo h
    obtain ⟨n, rfl⟩ : ∃ m, n = m + 1 := ⟨n - 1, by omega⟩
    rw [g_sSif_l1]
    simp only [p_lt, p_jn]
    have e1 : wr .i64 (wr .i64 (2 * (r : Int)) + 1) = ((2 * r + 1 : Nat) : Int) := by rw [wr_i (2 * (r : Int)) (by omega) (by omega), wr_i _ (by omega) (by omega)]; omega
    rw [e1]
    by_cases hc : 2 * r + 1 ≥ hi
    · rw [dec_t (by omega), p_brt]
      refine ⟨l, rfl, .refl _ _ _, fun k c hk hkc hch => ?_⟩
      by_cases e : k = r
      · unfold cc at hkc; omega
      · exact h.1 k c hk e hkc hch
    · rw [dec_f (by omega), p_brf]
      -- the greater child
      have step : ∀ c : Nat, cc r c → c < hi → (∀ d, cc r d → d < hi → at_ l (F + d) ≤ at_ l (F + c)) →
          ∃ l', gd ((0 : Int) ≤ wr .i64 ((F : Int) + (r : Int)) ∧ wr .i64 ((F : Int) + (r : Int)) < ((l.length : Nat) : Int)) (bd (l[Int.toNat (wr .i64 ((F : Int) + (r : Int)))]?) fun x53 =>
            gd ((0 : Int) ≤ wr .i64 ((F : Int) + (c : Int)) ∧ wr .i64 ((F : Int) + (c : Int)) < ((l.length : Nat) : Int)) (bd (l[Int.toNat (wr .i64 ((F : Int) + (c : Int)))]?) fun x56 => bd (g_Less f x53 x56) fun t57 => br (!t57) (some l)
              (gd ((0 : Int) ≤ wr .i64 ((F : Int) + (c : Int)) ∧ wr .i64 ((F : Int) + (c : Int)) < ((l.length : Nat) : Int)) (bd (l[Int.toNat (wr .i64 ((F : Int) + (c : Int)))]?) fun x69 =>
                gd ((0 : Int) ≤ wr .i64 ((F : Int) + (r : Int)) ∧ wr .i64 ((F : Int) + (r : Int)) < ((l.length : Nat) : Int)) (bd (l[Int.toNat (wr .i64 ((F : Int) + (r : Int)))]?) fun x72 =>
                gd ((0 : Int) ≤ wr .i64 ((F : Int) + (r : Int)) ∧ wr .i64 ((F : Int) + (r : Int)) < ((l.length : Nat) : Int)) (gd ((0 : Int) ≤ wr .i64 ((F : Int) + (c : Int)) ∧ wr .i64 ((F : Int) + (c : Int)) < ((l.length : Nat) : Int))
                  (g_sSif_l1 (hi : Int) (fun l8 => some l8) (F : Int) f n (List.set (List.set l (Int.toNat (wr .i64 ((F : Int) + (r : Int)))) x69) (Int.toNat (wr .i64 ((F : Int) + (c : Int)))) x72) (c : Int)))))))) = some l' ∧ Loc l l' F (F + hi) ∧ HP l' F hi lo := by
        intro c hcc hch hm
        have hrc : r < c := by unfold cc at hcc; omega
        rw [wr_a F r (by omega) (by omega), wr_a F c (by omega) (by omega), p_at (by omega), p_at (by omega), Less_ok, p_bd]
        by_cases hlt : at_ l (F + r) < at_ l (F + c)
        · rw [dec_t hlt]
          simp only [Bool.not_true]
          rw [p_brf, p_at (by omega), p_at (by omega), p_gd (by omega), p_gd (by omega), Int.toNat_natCast, Int.toNat_natCast, ← swp_def]
          obtain ⟨l', g1, g2, g3⟩ := ih (hi + 1 - c) (by omega) c (swp l (F + r) (F + c)) n (by rw [swp_len]; exact hl) (by rw [swp_len]; exact hF) (by omega) (by omega) (by omega) (h.swap hlo hcc hch hF hlt hm)
          exact ⟨l', g1, (Loc.swp (by omega) (by omega) hF).trans g2, g3⟩
        · rw [dec_f hlt]
          simp only [Bool.not_false]
          rw [p_brt]
          refine ⟨l, rfl, .refl _ _ _, fun k x hk hkc hxh => ?_⟩
          by_cases e : k = r
          · subst e
            have := hm x hkc hxh
            omega
          · exact h.1 k x hk e hkc hxh
      by_cases hc2 : 2 * r + 2 < hi
      · rw [wr_s (2 * r + 1) (by omega), dec_t (by omega), p_brt, wr_a F (2 * r + 1) (by omega) (by omega), wr_s (F + (2 * r + 1)) (by omega), p_at (by omega), p_at (by omega), Less_ok, p_bd]
        by_cases hlt : at_ l (F + (2 * r + 1)) < at_ l (F + (2 * r + 1) + 1)
        · rw [dec_t hlt, p_brt]
          have := step (2 * r + 2) (Or.inr rfl) hc2 (fun d hd hdh => by
            rcases hd with rfl | rfl
            · have : F + (2 * r + 1) + 1 = F + (2 * r + 2) := by omega
              rw [this] at hlt; omega
            · exact Int.le_refl _)
          exact this
        · rw [dec_f hlt, p_brf]
          have := step (2 * r + 1) (Or.inl rfl) (by omega) (fun d hd hdh => by
            rcases hd with rfl | rfl
            · exact Int.le_refl _
            · have : F + (2 * r + 1) + 1 = F + (2 * r + 2) := by omega
              rw [this] at hlt; omega)
          rw [wr_a F (2 * r + 1) (by omega) (by omega)] at this
          exact this
      · rw [wr_s (2 * r + 1) (by omega), dec_f (by omega), p_brf, p_brf]
        exact step (2 * r + 1) (Or.inl rfl) (by omega) (fun d hd hdh => by
          rcases hd with rfl | rfl
          · exact Int.le_refl _
          · omega)
theorem sift_ok {F hi lo f : Nat} {l : List Int} (hl : l.length < 1152921504606846976) (hF : F + hi ≤ l.length) (hlo : lo ≤ hi) (hf : hi + 1 < f) (h : HX l F hi lo lo) :
    ∃ l', g_sSif f l (lo : Int) (hi : Int) (F : Int) = some l' ∧ Loc l l' F (F + hi) ∧ HP l' F hi lo := by
  simp only [g_sSif, p_jn]
  exact sift_l1 F hi lo f (hi + 1 - lo) lo l f hl hF (by omega) (by omega) (Nat.le_refl _) h
theorem HP.max {l : List Int} {F m : Nat} (h : HP l F m 0) : ∀ k, k < m → at_ l (F + k) ≤ at_ l (F + 0) := by
  intro k
  induction k using Nat.strongRecOn with
  | ind k ih =>
    intro hk
    by_cases h0 : k = 0
    · subst h0; exact Int.le_refl _
    · have := h ((k - 1) / 2) k (by omega) (by unfold cc; omega) hk
      have := ih ((k - 1) / 2) (by omega) (by omega)
      omega
theorem heap_l1 (a n' f : Nat) (K : List Int → Option (List Int)) : ∀ (j : Nat) (l : List Int) (m : Nat), l.length < 1152921504606846976 → a + n' ≤ l.length → j < m → j ≤ n' → n' + 1 < f → HP l a n' j →
    ∃ l', g_sHea_l1 f (n' : Int) (a : Int) K m l ((j : Int) - 1) = K l' ∧ Loc l l' a (a + n') ∧ HP l' a n' 0 := by
  intro j
  induction j with
  | zero =>
    intro l m hl hb hm hj hf h
    obtain ⟨m, rfl⟩ : ∃ k, m = k + 1 := ⟨m - 1, by omega⟩
    refine ⟨l, ?_, .refl _ _ _, h⟩
    rw [g_sHea_l1]
    simp only [p_lt]
    rw [dec_f (by omega), p_brf]
  | succ j ih =>
    intro l m hl hb hm hj hf h
    obtain ⟨m, rfl⟩ : ∃ k, m = k + 1 := ⟨m - 1, by omega⟩
    rw [g_sHea_l1]
    simp only [p_lt]
    have e0 : ((j + 1 : Nat) : Int) - 1 = (j : Int) := by omega
    obtain ⟨l1, e1, h1, h2⟩ := sift_ok (F := a) (hi := n') (lo := j) (f := f) hl hb (by omega) hf ⟨fun k c hk hkj hc hch => h k c (by omega) hc hch, fun p c hp hpc hc hch => by unfold cc at hpc; omega⟩
    have e2 : wr .i64 ((j : Int) - 1) = (j : Int) - 1 := wr_i _ (by omega) (by omega)
    rw [e0, dec_t (by omega), p_brt, e1, p_bd, e2]
    obtain ⟨l2, e3, h3, h4⟩ := ih l1 m (by rw [h1.len]; exact hl) (by rw [h1.len]; exact hb) (by omega) (by omega) hf h2
    exact ⟨l2, e3, h1.trans h3, h4⟩
theorem heap_l2 (a n' f : Nat) (K : List Int → Option (List Int)) : ∀ (j : Nat) (l : List Int) (m : Nat), l.length < 1152921504606846976 → a + n' ≤ l.length → j < m → j ≤ n' → n' + 1 < f → HP l a j 0 →
    Srt l (a + j) (a + n') → (∀ p q, p < j → j ≤ q → q < n' → at_ l (a + p) ≤ at_ l (a + q)) →
    ∃ l', g_sHea_l2 f (a : Int) K m l ((j : Int) - 1) = K l' ∧ Loc l l' a (a + n') ∧ Srt l' a (a + n') := by
  intro j
  induction j with
  | zero =>
    intro l m hl hb hm hj hf h hs hq
    obtain ⟨m, rfl⟩ : ∃ k, m = k + 1 := ⟨m - 1, by omega⟩
    refine ⟨l, ?_, .refl _ _ _, hs⟩
    rw [g_sHea_l2]
    simp only [p_lt]
    rw [dec_f (by omega), p_brf]
  | succ j ih =>
    intro l m hl hb hm hj hf h hs hq
    obtain ⟨m, rfl⟩ : ∃ k, m = k + 1 := ⟨m - 1, by omega⟩
    rw [g_sHea_l2]
    simp only [p_lt, p_jn]
    have e0 : ((j + 1 : Nat) : Int) - 1 = (j : Int) := by omega
    have e2 : wr .i64 ((j : Int) - 1) = (j : Int) - 1 := wr_i _ (by omega) (by omega)
    rw [e0, dec_t (by omega), p_brt, wr_a a j (by omega) (by omega), p_at (by omega), p_at (by omega), p_gd (by omega), p_gd (by omega), Int.toNat_natCast, Int.toNat_natCast, ← swp_def, e2]
    have hmax := h.max
    have sw : ∀ k, at_ (swp l a (a + j)) (a + k) = if k = j then at_ l a else if k = 0 then at_ l (a + j) else at_ l (a + k) := by
      intro k
      rw [at_swp (by omega) (by omega)]
      by_cases e1 : k = j
      · rw [if_pos (by omega), if_pos e1]
      · by_cases e2 : k = 0
        · rw [if_neg (by omega), if_pos (by omega), if_neg e1, if_pos e2]
        · rw [if_neg (by omega), if_neg (by omega), if_neg e1, if_neg e2]
    obtain ⟨l1, e1, h1, h2⟩ := sift_ok (F := a) (hi := j) (lo := 0) (f := f) (l := swp l a (a + j)) (by rw [swp_len]; exact hl) (by rw [swp_len]; omega) (by omega) (by omega)
      ⟨fun k c hk hk0 hc hch => by
        rw [sw, sw, if_neg (by omega), if_neg (by unfold cc at hc; omega), if_neg (by unfold cc at hc; omega), if_neg hk0]
        exact h k c (by omega) hc (by omega), fun p c hp hpc hc hch => by unfold cc at hpc; omega⟩
    have e3 : g_sSif f (swp l a (a + j)) 0 (j : Int) (a : Int) = some l1 := e1
    rw [e3, p_bd]
    have hb' : a + n' ≤ (swp l a (a + j)).length := by rw [swp_len]; exact hb
    have hL1 : Loc l (swp l a (a + j)) a (a + n') := Loc.swp (by omega) (by omega) hb
    have hL2 := hL1.trans (h1.mono (Nat.le_refl _) (show a + j ≤ a + n' by omega))
    have hi1 : ∀ q, j ≤ q → at_ l1 (a + q) = at_ (swp l a (a + j)) (a + q) := fun q hq => h1.out (a + q) (by omega)
    have lo1 : ∀ p, p < j → at_ l1 (a + p) ≤ at_ l a := by
      intro p hp
      obtain ⟨k', k1, k2, k3⟩ := h1.ins (a + p) (by omega) (by omega)
      obtain ⟨z, rfl⟩ : ∃ z, k' = a + z := ⟨k' - a, by omega⟩
      rw [k3, sw, if_neg (by omega)]
      have m0 := hmax j (by omega)
      have mz := hmax z (by omega)
      simp only [Nat.add_zero] at m0 mz
      split <;> assumption
    have hsw_hi : ∀ q, j < q → q < n' → at_ l1 (a + q) = at_ l (a + q) := fun q h1 h2 => by rw [hi1 q (by omega), sw, if_neg (by omega), if_neg (by omega)]
    have hsw_j : at_ l1 (a + j) = at_ l a := by rw [hi1 j (Nat.le_refl _), sw, if_pos rfl]
    obtain ⟨l2, g1, g2, g3⟩ := ih l1 m (by rw [h1.len, swp_len]; exact hl) (by rw [h1.len, swp_len]; exact hb) (by omega) (by omega) hf h2
      (fun p q hp hpq hqb => by
        obtain ⟨y, rfl⟩ : ∃ z, p = a + z := ⟨p - a, by omega⟩
        obtain ⟨z, rfl⟩ : ∃ z, q = a + z := ⟨q - a, by omega⟩
        rw [hsw_hi z (by omega) (by omega)]
        by_cases e : y = j
        · subst e
          rw [hsw_j]
          exact hq 0 z (by omega) (by omega) (by omega)
        · rw [hsw_hi y (by omega) (by omega)]
          exact hs (a + y) (a + z) (by omega) (by omega) (by omega))
      (fun p q hp hjq hqn => by
        have := lo1 p hp
        by_cases e : q = j
        · subst e; rw [hsw_j]; exact this
        · rw [hsw_hi q (by omega) hqn]
          have := hq 0 q (by omega) (by omega) hqn
          simp only [Nat.add_zero] at this
          omega)
    exact ⟨l2, g1, hL2.trans g2, g3⟩
theorem heap_ok {l : List Int} {a b f : Nat} (hl : l.length < 1152921504606846976) (hb : b ≤ l.length) (hab : a < b) (hf : b + 2 < f) : ∃ l', g_sHea f l (a : Int) (b : Int) = some l' ∧ Loc l l' a b ∧ Srt l' a b := by
  simp only [g_sHea, p_lt, p_jn]
  rw [wr_m b a (by omega) (by omega), wr_p (b - a) (by omega) (by omega)]
  have e1 : wr .i64 (Int.tdiv ((b - a - 1 : Nat) : Int) 2) = (((b - a - 1) / 2 + 1 : Nat) : Int) - 1 := by
    rw [Int.tdiv_eq_ediv_of_nonneg (by omega), wr_i _ (by omega) (by omega)]; omega
  have e2 : ((b - a - 1 : Nat) : Int) = ((b - a : Nat) : Int) - 1 := by omega
  rw [e1, e2]
  obtain ⟨l1, g1, g2, g3⟩ := heap_l1 a (b - a) f (fun l10 => g_sHea_l2 f (a : Int) (fun l30 => some l30) f l10 (((b - a : Nat) : Int) - 1)) ((b - a - 1) / 2 + 1) l f hl (by omega) (by omega) (by omega) (by omega)
    (fun k c hk hc hch => by unfold cc at hc; omega)
  rw [g1]
  obtain ⟨l2, k1, k2, k3⟩ := heap_l2 a (b - a) f (fun l30 => some l30) (b - a) l1 f (by rw [g2.len]; exact hl) (by rw [g2.len]; omega) (by omega) (Nat.le_refl _) (by omega) g3
    (fun p q hp hpq hq => by omega) (fun p q hp hq hqn => by omega)
  have e3 : a + (b - a) = b := by omega
  rw [e3] at g2 k2 k3
  exact ⟨l2, k1, g2.trans k2, k3⟩
end Go.Proofs
