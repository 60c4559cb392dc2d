/- Who is there once; what a chain may cost. -/
import Derived.Test.YtcbjobfklcefpaaGreatLS
import Derived.Test.YtcbjobfklcefpaaGreatLM
import Derived.Test.YtcbjobfklcefpaaGreatY4
set_option linter.unusedVariables false
set_option linter.unusedSimpArgs false
set_option maxRecDepth 100000
set_option maxHeartbeats 2000000
namespace Go.Proofs
open Gw
theorem cmp_l2 (l2 : List Int) (x : Nat) (hx : x < l2.length) (hl : l2.length < 1000000) (f : Nat) (K : List Int → Int → Option (List Int)) : ∀ (k j i : Nat) (l : List Int) (n : Nat), l.length = l2.length → 1 ≤ j → x + j + k = l2.length → k < n → i + 1 ≤ x + j →
    ∃ (l' : List Int) (i' : Nat), g_sCmp_l2 l2 (x : Int) K f n l (i : Int) (j : Int) = K l' (i' : Int) ∧ l'.length = l2.length ∧ i' < l2.length := by
  intro k
  induction k with
  | zero =>
    intro j i l n hll hj hk hn hi
    obtain ⟨n, rfl⟩ : ∃ m, n = m + 1 := ⟨n - 1, by omega⟩
    refine ⟨l, i, ?_, hll, by omega⟩
    rw [g_sCmp_l2]
    simp only [p_lt]
    rw [dec_f (by omega), p_brf]
  | succ k ih =>
    intro j i l n hll hj hk hn hi
    obtain ⟨n, rfl⟩ : ∃ m, n = m + 1 := ⟨n - 1, by omega⟩
    rw [g_sCmp_l2]
    simp only [p_lt, p_jn, Int.toNat_natCast]
    have hlen : (List.drop x (List.take l2.length l)).length = l2.length - x := by simp [hll]
    have g1 : (List.drop x (List.take l2.length l))[j]? = some ((List.drop x (List.take l2.length l))[j]'(by omega)) := List.getElem?_eq_getElem _
    have g2 : (List.drop x (List.take l2.length l))[j - 1]? = some ((List.drop x (List.take l2.length l))[j - 1]'(by omega)) := List.getElem?_eq_getElem _
    rw [dec_t (by omega), p_brt, p_gd (by omega), g1, p_bd, wr_p j (by omega) (by omega), p_gd (by omega), Int.toNat_natCast, g2, p_bd, p_br, wr_s j (by omega)]
    split
    · rw [p_gd (by omega), p_bd, p_gd (by omega), wr_s i (by omega)]
      exact ih (j + 1) (i + 1) _ n (by simpa using hll) (by omega) (by omega) (by omega) (by omega)
    · exact ih (j + 1) i l n hll (by omega) (by omega) (by omega) (by omega)
theorem Compact_ok {l : List Int} (hl : l.length < 1000000) (hs : l.Pairwise (fun a b => a ≤ b)) {f : Nat} (hf : l.length + 5 < f) : ∃ l', g_sCmp f l = some l' ∧ (l'.length = l.length ↔ l.Nodup) := by
  simp only [g_sCmp, p_lt, p_jn, p_br]
  by_cases h2 : l.length < 2
  · rw [if_pos (dec_t (by omega))]
    refine ⟨l, rfl, fun _ => ?_, fun _ => rfl⟩
    match l, h2 with
    | [], _ => simp
    | [a], _ => simp
  rw [if_neg (by simp; omega)]
  have sorted : ∀ i j (hi : i < l.length) (hj : j < l.length), i < j → l[i] ≤ l[j] := fun i j hi hj hij => (List.pairwise_iff_getElem.1 hs) i j hi hj hij
  have key : ∀ (k i n : Nat), 1 ≤ i → i + k = l.length → k < n → (∀ q (hq : q < l.length), 1 ≤ q → q < i → l[q] ≠ l[q - 1]) →
      ∃ l', g_sCmp_l1 l f (some l) n (i : Int) = some l' ∧ (l'.length = l.length ↔ l.Nodup) := by
    intro k
    induction k with
    | zero =>
      intro i n hi hk hn hq
      obtain ⟨n, rfl⟩ : ∃ m, n = m + 1 := ⟨n - 1, by omega⟩
      rw [g_sCmp_l1]
      simp only [p_lt]
      rw [dec_f (by omega), p_brf]
      refine ⟨l, rfl, fun _ => ?_, fun _ => rfl⟩
      rw [List.Nodup, List.pairwise_iff_getElem]
      intro a b ha hb hab e
      have h1 := hq b hb (by omega) (by omega)
      have h3 := sorted (b - 1) b (by omega) hb (by omega)
      by_cases e2 : a = b - 1
      · subst e2; exact h1 e.symm
      · have := sorted a (b - 1) ha (by omega) (by omega)
        omega
    | succ k ih =>
      intro i n hi hk hn hq
      obtain ⟨n, rfl⟩ : ∃ m, n = m + 1 := ⟨n - 1, by omega⟩
      rw [g_sCmp_l1]
      simp only [p_lt, p_jn]
      have e1 : l[i]? = some l[i] := List.getElem?_eq_getElem (by omega)
      have e2 : l[i - 1]? = some l[i - 1] := List.getElem?_eq_getElem (by omega)
      rw [dec_t (by omega), p_brt, p_ix e1, wr_p i (by omega) (by omega), p_ix e2, p_br, wr_s i (by omega)]
      by_cases he : l[i] = l[i - 1]
      · rw [if_pos (by simpa using he), p_gd (by omega)]
        obtain ⟨l', i', g1, g2, g3⟩ := cmp_l2 l i (by omega) hl f (fun l25 x26 => gd ((0 : Int) ≤ x26 ∧ x26 ≤ (((List.length l25 : Nat) : Int)) ∧ (((List.length l25 : Nat) : Int)) ≤ ((List.length l25 : Nat) : Int)) (gd ((0 : Int) ≤ 0 ∧ 0 ≤ x26 ∧ x26 ≤ ((List.length l25 : Nat) : Int)) (some (List.take (Int.toNat x26) (List.take (Int.toNat x26) l25 ++ List.replicate (List.length l25 - Int.toNat x26) 0))))) (l.length - (i + 1)) 1 i l f rfl (by omega) (by omega) (by omega) (by omega)
        have g1' : g_sCmp_l2 l (i : Int) (fun l25 x26 => gd ((0 : Int) ≤ x26 ∧ x26 ≤ (((List.length l25 : Nat) : Int)) ∧ (((List.length l25 : Nat) : Int)) ≤ ((List.length l25 : Nat) : Int)) (gd ((0 : Int) ≤ 0 ∧ 0 ≤ x26 ∧ x26 ≤ ((List.length l25 : Nat) : Int)) (some (List.take (Int.toNat x26) (List.take (Int.toNat x26) l25 ++ List.replicate (List.length l25 - Int.toNat x26) 0))))) f f l (i : Int) 1 = _ := g1
        rw [g1', p_gd (by omega), p_gd (by omega)]
        refine ⟨_, rfl, fun h => ?_, fun h => ?_⟩
        · exfalso
          simp only [Int.toNat_natCast, List.length_take, List.length_append, List.length_replicate] at h
          omega
        · exfalso
          have := (List.pairwise_iff_getElem.1 h) (i - 1) i (by omega) (by omega) (by omega)
          exact this he.symm
      · rw [if_neg (by simpa using he)]
        exact ih (i + 1) n (by omega) (by omega) (by omega) fun q hql q1 q2 => by
          by_cases e : q = i
          · subst e; exact he
          · exact hq q hql q1 (by omega)
  exact key (l.length - 1) 1 f (by omega) (by omega) (by omega) (fun q hq q1 q2 => by omega)
theorem InMarks_l1 (l : List Int) (p : Int) (hl : l.length < 1000000) (f : Nat) : ∀ (k i n : Nat), i + k = l.length → k < n → ∃ r : Int, g_tarnref0_InMarks_l1 l p (some (-1)) f n (i : Int) = some r ∧ (decide (r ≥ 0) = decide (p ∈ l.drop i)) := by
  intro k
  induction k with
  | zero =>
    intro i n hk hn
    obtain ⟨n, rfl⟩ : ∃ m, n = m + 1 := ⟨n - 1, by omega⟩
    rw [g_tarnref0_InMarks_l1]
    simp only [p_lt]
    rw [dec_f (by omega), p_brf]
    refine ⟨-1, rfl, ?_⟩
    rw [List.drop_of_length_le (by omega)]; simp
  | succ k ih =>
    intro i n hk hn
    obtain ⟨n, rfl⟩ : ∃ m, n = m + 1 := ⟨n - 1, by omega⟩
    rw [g_tarnref0_InMarks_l1]
    simp only [p_lt]
    have e1 : l[i]? = some l[i] := List.getElem?_eq_getElem (by omega)
    rw [dec_t (by omega), p_brt, p_ix e1, p_br, wr_s i (by omega), List.drop_eq_getElem_cons (show i < l.length by omega)]
    by_cases h : l[i] = p
    · rw [if_pos (by simpa using h)]
      refine ⟨i, rfl, ?_⟩
      rw [dec_t (by omega), dec_t (by rw [h]; exact List.mem_cons_self ..)]
    · rw [if_neg (by simpa using h)]
      obtain ⟨r, e, h2⟩ := ih (i + 1) n (by omega) (by omega)
      refine ⟨r, e, ?_⟩
      rw [h2]
      apply decide_eq_decide.2
      simp only [List.mem_cons]
      constructor
      · exact Or.inr
      · rintro (h3 | h3)
        · exact absurd h3.symm h
        · exact h3
theorem InMarks_ok {l : List Int} (p : Int) (hl : l.length < 1000000) {f : Nat} (hf : l.length < f) : ∃ r : Int, g_tarnref0_InMarks f l p = some r ∧ (decide (r ≥ 0) = decide (p ∈ l)) := by
  simp only [g_tarnref0_InMarks, p_jn]
  have := InMarks_l1 l p hl f l.length 0 f (by omega) hf
  simpa using this
/-! chains -/
def sumS : List TTx → TU256 → Option TU256
  | [], s => some s
  | t :: r, s => if (addS s (costS t).1).2 = 0 then sumS r (addS s (costS t).1).1 else none
/-- each behind the one ahead -/
def Lnk (l : List TTx) : Prop := ∀ i x y z, l[0]? = some z → l[i]? = some x → l[i + 1]? = some y → y.From = z.From ∧ y.Nonce = x.Nonce + 1
def ChainP (l : List TTx) : Prop := l.length ≤ 6 ∧ (∀ t ∈ l, txOK t = true) ∧ Lnk l ∧ (sumS l oU).isSome = true
def UTs (l : List TTx) : Prop := ∀ t ∈ l, UT t
theorem oU_U : U oU := by simp only [U, U1, oU]; omega
/-- behind place i -/
def ChF (l : List TTx) (i : Nat) (s : TU256) : Prop := (∀ j t, i ≤ j → l[j]? = some t → txOK t = true) ∧ (∀ j x y z, i ≤ j + 1 → l[0]? = some z → l[j]? = some x → l[j + 1]? = some y → y.From = z.From ∧ y.Nonce = x.Nonce + 1) ∧ (sumS (l.drop i) s).isSome = true
theorem spent_l1 {l : List TTx} (hu : UTs l) (hl : l.length ≤ 6) {f : Nat} (hf : 200 ≤ f) : ∀ (k i n : Nat) (s : TU256), U s → i + k = l.length → k < n →
    (ChF l i s → ∃ r, sumS (l.drop i) s = some r ∧ g_chain_spent_l1 l f (fun x8 x9 x10 x11 => some (TU256.mk x8 x9 x10 x11, true)) n s.e0 s.e1 s.e2 s.e3 (i : Int) = some (r, true)) ∧
    (¬ ChF l i s → g_chain_spent_l1 l f (fun x8 x9 x10 x11 => some (TU256.mk x8 x9 x10 x11, true)) n s.e0 s.e1 s.e2 s.e3 (i : Int) = some (oU, false)) := by
  intro k
  induction k with
  | zero =>
    intro i n s hs hk hn
    obtain ⟨n, rfl⟩ : ∃ m, n = m + 1 := ⟨n - 1, by omega⟩
    have e : ChF l i s := by
      refine ⟨fun j t hj ht => ?_, fun j x y z hj hz hx hy => ?_, ?_⟩
      · have := (List.getElem?_eq_some_iff.1 ht).1; omega
      · have := (List.getElem?_eq_some_iff.1 hy).1; omega
      · rw [List.drop_of_length_le (by omega)]; rfl
    refine ⟨fun _ => ⟨s, by rw [List.drop_of_length_le (by omega)]; rfl, ?_⟩, fun h => absurd e h⟩
    rw [g_chain_spent_l1]
    simp only [p_lt]
    rw [dec_f (by omega), p_brf]
  | succ k ih =>
    intro i n s hs hk hn
    obtain ⟨n, rfl⟩ : ∃ m, n = m + 1 := ⟨n - 1, by omega⟩
    have hi : i < l.length := by omega
    have hx : l[i]? = some l[i] := List.getElem?_eq_getElem hi
    have hut : UT l[i] := hu _ (List.getElem_mem _)
    rw [g_chain_spent_l1]
    simp only [p_lt, p_jn]
    rw [dec_t (by omega), p_brt, p_ix hx, tx_Cost hut f (by omega), p_bd, wr_s i (by omega)]
    by_cases hok : txOK l[i] = true
    rotate_left
    · have : ¬ ChF l i s := fun h => hok (h.1 i _ (Nat.le_refl _) hx)
      refine ⟨fun h => absurd h this, fun _ => ?_⟩
      rw [if_neg hok]
      rfl
    rw [if_pos hok]
    simp only
    rw [show ((0 : Int) != 0) = false from rfl, p_brf]
    obtain ⟨g, rfl⟩ : ∃ g, f = g + 5 := ⟨f - 5, by omega⟩
    have hadd := u256_Add' hs (costS_U l[i]) g
    have hd : l.drop i = l[i] :: l.drop (i + 1) := List.drop_eq_getElem_cons hi
    -- the rest, once this one is linked
    have rest : (∀ x y z, l[0]? = some z → l[i - 1]? = some x → l[i]? = some y → 0 < i → y.From = z.From ∧ y.Nonce = x.Nonce + 1) →
        (ChF l i s → ∃ r, sumS (l.drop i) s = some r ∧ (bd (g_u256_Add (g + 5) (TU256.mk s.e0 s.e1 s.e2 s.e3) (costS l[i]).1) fun t85 => br (t85.2 != 0) (some (TU256.mk 0 0 0 0, false)) (g_chain_spent_l1 l (g + 5) (fun x8 x9 x10 x11 => some (TU256.mk x8 x9 x10 x11, true)) n t85.1.e0 t85.1.e1 t85.1.e2 t85.1.e3 ((i + 1 : Nat) : Int))) = some (r, true)) ∧
        (¬ ChF l i s → (bd (g_u256_Add (g + 5) (TU256.mk s.e0 s.e1 s.e2 s.e3) (costS l[i]).1) fun t85 => br (t85.2 != 0) (some (TU256.mk 0 0 0 0, false)) (g_chain_spent_l1 l (g + 5) (fun x8 x9 x10 x11 => some (TU256.mk x8 x9 x10 x11, true)) n t85.1.e0 t85.1.e1 t85.1.e2 t85.1.e3 ((i + 1 : Nat) : Int))) = some (oU, false)) := by
      intro hlink
      have hs' : (TU256.mk s.e0 s.e1 s.e2 s.e3) = s := rfl
      rw [hs', hadd, p_bd]
      by_cases ha : (addS s (costS l[i]).1).2 = 0
      · rw [ha, show ((0 : Int) != 0) = false from rfl, p_brf]
        have e1 : ChF l i s ↔ ChF l (i + 1) (addS s (costS l[i]).1).1 := by
          constructor
          · rintro ⟨c1, c2, c3⟩
            refine ⟨fun j t hj ht => c1 j t (by omega) ht, fun j x y z hj => c2 j x y z (by omega), ?_⟩
            rw [hd, sumS, if_pos ha] at c3
            exact c3
          · rintro ⟨c1, c2, c3⟩
            refine ⟨fun j t hj ht => ?_, fun j x y z hj hz hx' hy => ?_, ?_⟩
            · by_cases e : j = i
              · subst e; rw [hx] at ht; cases ht; exact hok
              · exact c1 j t (by omega) ht
            · by_cases e : j + 1 = i
              · subst e
                exact hlink x y z hz hx' hy (by omega)
              · exact c2 j x y z (by omega) hz hx' hy
            · rw [hd, sumS, if_pos ha]; exact c3
        have e2 : sumS (l.drop i) s = sumS (l.drop (i + 1)) (addS s (costS l[i]).1).1 := by rw [hd, sumS, if_pos ha]
        rw [e1, e2]
        exact ih (i + 1) n _ (addS_U _ _) (by omega) (by omega)
      · have e1 : ¬ ChF l i s := by
          rintro ⟨c1, c2, c3⟩
          rw [hd, sumS, if_neg ha] at c3
          cases c3
        refine ⟨fun h => absurd h e1, fun _ => ?_⟩
        rw [show ((addS s (costS l[i]).1).2 != 0) = true by simp [ha], p_brt]; rfl
    by_cases h0 : i = 0
    · subst h0
      rw [dec_f (by omega), p_brf, p_brf]
      exact rest fun x y z _ _ _ h => by omega
    · have h00 : l[0]? = some l[0] := List.getElem?_eq_getElem (by omega)
      have hp : l[i - 1]? = some l[i - 1] := List.getElem?_eq_getElem (by omega)
      have g0 : (0 : Int) ≤ 0 ∧ (0 : Int) < ((l.length : Nat) : Int) := by omega
      rw [dec_t (by omega), p_brt, p_gd g0, show Int.toNat 0 = 0 from rfl, h00, p_bd]
      by_cases hf1 : l[i].From = l[0].From
      rotate_left
      · have : ¬ ChF l i s := fun h => hf1 (h.2.1 (i - 1) _ _ _ (by omega) h00 hp (by rw [show i - 1 + 1 = i by omega]; exact hx)).1
        refine ⟨fun h => absurd h this, fun _ => ?_⟩
        rw [show (l[i].From != l[0].From) = true by simp [hf1], p_brt, p_brt]; rfl
      rw [show (l[i].From != l[0].From) = false by simp [hf1], p_brf, wr_p i (by omega) (by omega), p_ix hp]
      have hn2 : I1 l[i - 1].Nonce := (hu _ (List.getElem_mem _)).2.2.2.2.2.1
      by_cases hnn : l[i].Nonce = wr .i64 (l[i - 1].Nonce + 1)
      · rw [show (l[i].Nonce != wr .i64 (l[i - 1].Nonce + 1)) = false by simp [hnn], p_brf]
        have hnr := (of_decide_eq_true hok).2.1
        have hw : wr .i64 (l[i - 1].Nonce + 1) = l[i - 1].Nonce + 1 := by
          by_cases e : l[i - 1].Nonce + 1 < 9223372036854775808
          · exact wr_i _ (by have := hn2.1; omega) e
          · exfalso
            have h1 : l[i - 1].Nonce = 9223372036854775807 := by have := hn2.2; omega
            rw [h1] at hnn
            have : wr .i64 (9223372036854775807 + 1) = -9223372036854775808 := by decide +kernel
            rw [this] at hnn
            omega
        rw [hw] at hnn
        exact rest fun x y z hz hx' hy _ => by
          rw [h00] at hz; rw [hp] at hx'; rw [hx] at hy
          cases hz; cases hx'; cases hy
          exact ⟨hf1, hnn⟩
      · have : ¬ ChF l i s := fun h => by
          have h1 := (h.2.1 (i - 1) _ _ _ (by omega) h00 hp (by rw [show i - 1 + 1 = i by omega]; exact hx)).2
          have hnr := (of_decide_eq_true hok).2.1
          exact hnn (by rw [wr_i _ (by omega) (by omega)]; exact h1)
        refine ⟨fun h => absurd h this, fun _ => ?_⟩
        rw [show (l[i].Nonce != wr .i64 (l[i - 1].Nonce + 1)) = true by simp [hnn], p_brt]; rfl
theorem ChF_0 {l : List TTx} (hl : l.length ≤ 6) : ChF l 0 oU ↔ ChainP l := by
  constructor
  · rintro ⟨h1, h2, h3⟩
    refine ⟨hl, fun t ht => ?_, fun i x y z hz hx hy => h2 i x y z (by omega) hz hx hy, by simpa using h3⟩
    obtain ⟨i, hi, rfl⟩ := List.getElem_of_mem ht
    exact h1 i _ (Nat.zero_le _) (List.getElem?_eq_getElem hi)
  · rintro ⟨_, h1, h2, h3⟩
    exact ⟨fun j t _ ht => h1 t (List.mem_of_getElem? ht), fun j x y z _ hz hx hy => h2 j x y z hz hx hy, by simpa using h3⟩
theorem chain_Spent {l : List TTx} (hu : UTs l) {f : Nat} (hf : 200 ≤ f) :
    (ChainP l → ∃ r, sumS l oU = some r ∧ g_chain_Spent f l = some (r, 0)) ∧ (¬ ChainP l → g_chain_Spent f l = some (oU, 1)) := by
  simp only [g_chain_Spent, g_chain_spent, p_lt, p_br, p_jn]
  by_cases hl : l.length ≤ 6
  · have := spent_l1 hu hl hf l.length 0 f oU oU_U (by omega) (by omega)
    rw [ChF_0 hl] at this
    rw [if_neg (by simp; omega)]
    refine ⟨fun h => ?_, fun h => ?_⟩
    · obtain ⟨r, h1, h2⟩ := this.1 h
      have h2' : g_chain_spent_l1 l f (fun x8 x9 x10 x11 => some (TU256.mk x8 x9 x10 x11, true)) f 0 0 0 0 0 = some (r, true) := h2
      refine ⟨r, by simpa using h1, ?_⟩
      rw [h2', p_bd]; rfl
    · have h2' : g_chain_spent_l1 l f (fun x8 x9 x10 x11 => some (TU256.mk x8 x9 x10 x11, true)) f 0 0 0 0 0 = some (oU, false) := this.2 h
      rw [h2', p_bd]; rfl
  · rw [if_pos (dec_t (by omega)), p_bd]
    refine ⟨fun h => absurd h.1 hl, fun _ => rfl⟩
end Go.Proofs
