/- Which books may be, as the page tells it. -/
import Derived.Test.YtcbjobfklcefpaaGreatLX
set_option linter.unusedVariables false
set_option linter.unusedSimpArgs false
set_option maxRecDepth 100000
set_option maxHeartbeats 400000
namespace Go.Proofs
open Gw
attribute [local irreducible] idS txOK markS txB bytesL
/-- each two that stand side by side -/
def Adj (l : List TTx) (i : Nat) : Prop := ∀ j p t, i ≤ j + 1 → l[j]? = some p → l[j + 1]? = some t → p.From < t.From ∨ (p.From = t.From ∧ p.Nonce < t.Nonce)
theorem Adj_SS {l : List TTx} : Adj l 1 ↔ SS l := by
  constructor
  · intro h
    have : ∀ (k i : Nat) (hi : i < l.length) (hj : i + k + 1 < l.length), l[i].From < l[i + k + 1].From ∨ (l[i].From = l[i + k + 1].From ∧ l[i].Nonce < l[i + k + 1].Nonce) := by
      intro k
      induction k with
      | zero => intro i hi hj; exact h i _ _ (by omega) (List.getElem?_eq_getElem hi) (List.getElem?_eq_getElem hj)
      | succ k ih =>
        intro i hi hj
        have h1 := ih i hi (by omega)
        have h2 := h (i + k + 1) _ _ (by omega) (List.getElem?_eq_getElem (by omega)) (List.getElem?_eq_getElem (show i + k + 1 + 1 < l.length by omega))
        have e : i + (k + 1) + 1 = i + k + 1 + 1 := by omega
        simp only [e]
        omega
    unfold SS
    rw [List.pairwise_iff_getElem]
    intro i j hi hj hij
    have := this (j - i - 1) i hi (by omega)
    have e : i + (j - i - 1) + 1 = j := by omega
    simp only [e] at this
    exact this
  · intro h j p t hj hp ht
    unfold SS at h
    rw [List.pairwise_iff_getElem] at h
    have h1 := (List.getElem?_eq_some_iff.1 hp).1
    have h2 := (List.getElem?_eq_some_iff.1 ht).1
    have e1 := (List.getElem?_eq_some_iff.1 hp).2
    have e2 := (List.getElem?_eq_some_iff.1 ht).2
    have := h j (j + 1) h1 h2 (by omega)
    rw [e1, e2] at this
    exact this
theorem rw_l1 {b : TBook} (hT : b.Txs.length < 100000) (R : Option Bool) (f : Nat) : ∀ (k i n : Nat), 1 ≤ i → i + k = max 1 b.Txs.length → k < n →
    (Adj b.Txs i → g_tarnref16_Wide_l1 b R f n (i : Int) = R) ∧ (¬ Adj b.Txs i → g_tarnref16_Wide_l1 b R f n (i : Int) = some false) := by
  intro k
  induction k with
  | zero =>
    intro i n h1 hk hn
    obtain ⟨n, rfl⟩ : ∃ m, n = m + 1 := ⟨n - 1, by omega⟩
    have e : Adj b.Txs i := fun j p t hj hp ht => by have := (List.getElem?_eq_some_iff.1 ht).1; omega
    refine ⟨fun _ => ?_, fun h => absurd e h⟩
    rw [g_tarnref16_Wide_l1]
    simp only [p_lt]
    rw [dec_f (by omega), p_brf]
  | succ k ih =>
    intro i n h1 hk hn
    obtain ⟨n, rfl⟩ : ∃ m, n = m + 1 := ⟨n - 1, by omega⟩
    have hi : i < b.Txs.length := by omega
    have hx : b.Txs[i]? = some b.Txs[i] := List.getElem?_eq_getElem hi
    have hp : b.Txs[i - 1]? = some b.Txs[i - 1] := List.getElem?_eq_getElem (by omega)
    rw [g_tarnref16_Wide_l1]
    simp only [p_lt, p_jn]
    rw [dec_t (by omega), p_brt, wr_p i (by omega) (by omega), p_ix hp, p_ix hx, wr_s i (by omega)]
    have hi1 : i - 1 + 1 = i := by omega
    have step : (b.Txs[i - 1].From < b.Txs[i].From ∨ (b.Txs[i - 1].From = b.Txs[i].From ∧ b.Txs[i - 1].Nonce < b.Txs[i].Nonce)) → (Adj b.Txs i ↔ Adj b.Txs (i + 1)) := by
      intro hs
      constructor
      · exact fun h j p t hj => h j p t (by omega)
      · intro h j p t hj hjp hjt
        by_cases e : j + 1 = i
        · have ej : j = i - 1 := by omega
          rw [e] at hjt; rw [ej] at hjp
          rw [hx] at hjt; rw [hp] at hjp
          cases hjt; cases hjp
          exact hs
        · exact h j p t (by omega) hjp hjt
    have no : ¬ (b.Txs[i - 1].From < b.Txs[i].From ∨ (b.Txs[i - 1].From = b.Txs[i].From ∧ b.Txs[i - 1].Nonce < b.Txs[i].Nonce)) → ¬ Adj b.Txs i := fun hn h =>
      hn (h (i - 1) _ _ (by omega) hp (by rw [hi1]; exact hx))
    by_cases c1 : b.Txs[i - 1].From > b.Txs[i].From
    · have : ¬ Adj b.Txs i := no (by omega)
      refine ⟨fun h => absurd h this, fun _ => ?_⟩
      rw [dec_t c1, p_brt, p_brt]
    rw [dec_f c1, p_brf]
    by_cases c2 : b.Txs[i - 1].From = b.Txs[i].From
    · rw [show (b.Txs[i - 1].From == b.Txs[i].From) = true by simp [c2], p_brt]
      by_cases c3 : b.Txs[i - 1].Nonce ≥ b.Txs[i].Nonce
      · have : ¬ Adj b.Txs i := no (by omega)
        refine ⟨fun h => absurd h this, fun _ => ?_⟩
        rw [dec_t c3, p_brt]
      · rw [dec_f c3, p_brf, step (by omega)]
        exact ih (i + 1) n (by omega) (by omega) (by omega)
    · rw [show (b.Txs[i - 1].From == b.Txs[i].From) = false by simp [c2], p_brf, p_brf, step (by omega)]
      exact ih (i + 1) n (by omega) (by omega) (by omega)
theorem rw_l2 {b : TBook} (hb : WF b) (h8 : b.Accts.length = 8) (hok : ∀ t ∈ b.Txs, txOK t = true) (R : Option Bool) {f : Nat} (hf : 1000000 ≤ f) : ∀ (k i n : Nat), i + k = 8 → k < n →
    ((∀ a, i ≤ a → a < 8 → CC b.Accts a (ofS b.Txs (a : Int))) → g_tarnref16_Wide_l2 f b R n (i : Int) = R) ∧ (¬ (∀ a, i ≤ a → a < 8 → CC b.Accts a (ofS b.Txs (a : Int))) → g_tarnref16_Wide_l2 f b R n (i : Int) = some false) := by
  intro k
  induction k with
  | zero =>
    intro i n hk hn
    obtain ⟨n, rfl⟩ : ∃ m, n = m + 1 := ⟨n - 1, by omega⟩
    have e : ∀ a, i ≤ a → a < 8 → CC b.Accts a (ofS b.Txs (a : Int)) := fun a h1 h2 => by omega
    refine ⟨fun _ => ?_, fun h => absurd e h⟩
    rw [g_tarnref16_Wide_l2]
    simp only [p_lt]
    rw [dec_f (by omega), p_brf]
  | succ k ih =>
    intro i n hk hn
    obtain ⟨n, rfl⟩ : ∃ m, n = m + 1 := ⟨n - 1, by omega⟩
    have hi8 : i < 8 := by omega
    rw [g_tarnref16_Wide_l2]
    simp only [p_lt, p_jn]
    have nT := hb.nT
    rw [dec_t (by omega), p_brt, ref16_Of hb.sT nT (i : Int) (by omega), p_bd, wr_s i (by omega)]
    have hsub : ∀ t ∈ ofS b.Txs (i : Int), t ∈ b.Txs := fun t ht => (List.mem_filter.1 ht).1
    have hle : (ofS b.Txs (i : Int)).length ≤ b.Txs.length := List.length_filter_le _ _
    have hu : UTs (ofS b.Txs (i : Int)) := fun t ht => hb.txs t (hsub t ht)
    have step : CC b.Accts i (ofS b.Txs (i : Int)) → ((∀ a, i ≤ a → a < 8 → CC b.Accts a (ofS b.Txs (a : Int))) ↔ (∀ a, i + 1 ≤ a → a < 8 → CC b.Accts a (ofS b.Txs (a : Int)))) := by
      intro hc
      constructor
      · exact fun h a h1 h2 => h a (by omega) h2
      · intro h a h1 h2
        by_cases e : a = i
        · subst e; exact hc
        · exact h a (by omega) h2
    have no : ¬ CC b.Accts i (ofS b.Txs (i : Int)) → ¬ (∀ a, i ≤ a → a < 8 → CC b.Accts a (ofS b.Txs (a : Int))) := fun hn h => hn (h i (Nat.le_refl _) hi8)
    rw [ref14_Chain hu (by omega) (by omega), p_bd]
    by_cases hch : ChainP (ofS b.Txs (i : Int))
    rotate_left
    · have e : chainB (ofS b.Txs (i : Int)) = false := by
        cases e : chainB (ofS b.Txs (i : Int))
        · rfl
        · exact absurd ((chainB_iff _).1 e) hch
      have : ¬ CC b.Accts i (ofS b.Txs (i : Int)) := fun h => hch h.1
      refine ⟨fun h => absurd h (no this), fun _ => ?_⟩
      rw [e]
      simp only [Bool.not_false]
      rw [p_brt, p_brt]
    rw [(chainB_iff _).2 hch]
    simp only [Bool.not_true]
    rw [p_brf]
    have hc : b.Accts[i]? = some (b.Accts[i]'(by omega)) := List.getElem?_eq_getElem _
    have hcov := ref14_Covered hu (fun t ht => ok_n4 (hok t (hsub t ht))) (by omega) (b.Accts[i]'(by omega)).Balance (f := f) (by omega)
    have hall := covS_all (ofS b.Txs (i : Int)) (b.Accts[i]'(by omega)).Balance
    have hcl : covS (ofS b.Txs (i : Int)) (b.Accts[i]'(by omega)).Balance ≤ (ofS b.Txs (i : Int)).length := covGo_le _ _ _
    cases hm : ofS b.Txs (i : Int) with
    | nil =>
      have hcc : CC b.Accts i (ofS b.Txs (i : Int)) := by rw [hm]; exact CC_nil _ _
      rw [hm] at hcov
      rw [dec_f (by simp), p_brf, p_ix hc, hcov, p_bd]
      have e : (((covS ([] : List TTx) (b.Accts[i]'(by omega)).Balance : Nat) : Int) != ((([] : List TTx).length : Nat) : Int)) = false := rfl
      rw [e, p_brf]
      have hstep := step hcc
      rw [hstep]
      exact ih (i + 1) n (by omega) (by omega)
    | cons z u =>
      have hz : (ofS b.Txs (i : Int))[0]? = some z := by rw [hm]; rfl
      rw [← hm]
      have hne : ofS b.Txs (i : Int) ≠ [] := by rw [hm]; simp
      have hpos : 0 < (ofS b.Txs (i : Int)).length := List.length_pos_iff.2 hne
      rw [dec_t (by omega), p_brt, p_ix0 hz, p_ix hc]
      by_cases c1 : z.Nonce = (b.Accts[i]'(by omega)).Nonce
      rotate_left
      · have : ¬ CC b.Accts i (ofS b.Txs (i : Int)) := fun h => c1 (h.2 z hz _ hc).1
        refine ⟨fun h => absurd h (no this), fun _ => ?_⟩
        rw [show (z.Nonce != (b.Accts[i]'(by omega)).Nonce) = true by simp [c1], p_brt, p_brt]
      rw [show (z.Nonce != (b.Accts[i]'(by omega)).Nonce) = false by simp [c1], p_brf, p_ix hc, hcov, p_bd]
      by_cases c2 : covS (ofS b.Txs (i : Int)) (b.Accts[i]'(by omega)).Balance = (ofS b.Txs (i : Int)).length
      · have hcc : CC b.Accts i (ofS b.Txs (i : Int)) := ⟨hch, fun z' hz' c hc' => by
          rw [hz] at hz'; rw [hc] at hc'
          cases hz'; cases hc'
          exact ⟨c1, (hall.1 c2).resolve_left hne⟩⟩
        rw [c2, show ((((ofS b.Txs (i : Int)).length : Nat) : Int) != (((ofS b.Txs (i : Int)).length : Nat) : Int)) = false by simp, p_brf]
        have hstep := step hcc
        rw [hstep]
        exact ih (i + 1) n (by omega) (by omega)
      · have : ¬ CC b.Accts i (ofS b.Txs (i : Int)) := fun h => c2 (hall.2 (Or.inr (h.2 z hz _ hc).2))
        refine ⟨fun h => absurd h (no this), fun _ => ?_⟩
        rw [show (((covS (ofS b.Txs (i : Int)) (b.Accts[i]'(by omega)).Balance : Nat) : Int) != (((ofS b.Txs (i : Int)).length : Nat) : Int)) = true by simp; omega, p_brt]
theorem rw_l3 {b : TBook} (hT : b.Txs.length < 100000) {f : Nat} (hf : 1000000 ≤ f) (hid : ∀ t ∈ b.Txs, IDr f t) (hok : ∀ t ∈ b.Txs, txOK t = true) (K : List Int → Option Bool) : ∀ (k i n : Nat), i + k = b.Txs.length → k < n → (idsT (b.Txs.take i)).Nodup →
    ((idsT b.Txs).Nodup → g_tarnref16_Wide_l3 b f K n (idsT (b.Txs.take i)) (i : Int) = K (idsT b.Txs)) ∧ (¬ (idsT b.Txs).Nodup → g_tarnref16_Wide_l3 b f K n (idsT (b.Txs.take i)) (i : Int) = some false) := by
  intro k
  induction k with
  | zero =>
    intro i n hk hn hnd
    obtain ⟨n, rfl⟩ : ∃ m, n = m + 1 := ⟨n - 1, by omega⟩
    rw [List.take_of_length_le (by omega)] at hnd ⊢
    refine ⟨fun _ => ?_, fun h => absurd hnd h⟩
    rw [g_tarnref16_Wide_l3]
    simp only [p_lt]
    rw [dec_f (by omega), p_brf]
  | succ k ih =>
    intro i n hk hn hnd
    obtain ⟨n, rfl⟩ : ∃ m, n = m + 1 := ⟨n - 1, by omega⟩
    have hi : i < b.Txs.length := by omega
    have hx : b.Txs[i]? = some b.Txs[i] := List.getElem?_eq_getElem hi
    rw [g_tarnref16_Wide_l3]
    simp only [p_lt]
    have hlen : (idsT (b.Txs.take i)).length = i := by simp [idsT]; omega
    obtain ⟨r, e1, e2⟩ := InMarks_ok (l := idsT (b.Txs.take i)) (idS b.Txs[i]) (by omega) (f := f) (by omega)
    rw [dec_t (by omega), p_brt, p_ix hx, hid _ (List.getElem_mem _) (hok _ (List.getElem_mem _)), p_bd, e1, p_bd, e2, p_br]
    have htk : idsT (b.Txs.take (i + 1)) = idsT (b.Txs.take i) ++ [idS b.Txs[i]] := by
      unfold idsT; rw [← List.take_append_getElem hi, List.map_append]; rfl
    have hsplit : idsT b.Txs = idsT (b.Txs.take (i + 1)) ++ idsT (b.Txs.drop (i + 1)) := by
      unfold idsT; rw [← List.map_append, List.take_append_drop]
    by_cases hm : idS b.Txs[i] ∈ idsT (b.Txs.take i)
    · have : ¬ (idsT b.Txs).Nodup := by
        rw [hsplit, htk]
        intro h
        have h1 := (List.nodup_append.1 h).1
        have h2 := (List.nodup_append.1 h1).2.2
        exact h2 _ hm _ (List.mem_singleton.2 rfl) rfl
      refine ⟨fun h => absurd h this, fun _ => ?_⟩
      simp only [hm, decide_true, if_true]
    · simp only [hm, decide_false, Bool.false_eq_true, if_false]
      rw [p_gd (by rw [hlen]; simp; omega), wr_s i (by omega), ← htk]
      refine ih (i + 1) n (by omega) (by omega) ?_
      rw [htk]
      refine List.nodup_append.2 ⟨hnd, by simp, fun x hx y hy => ?_⟩
      rw [List.mem_singleton.1 hy]
      intro he
      exact hm (he ▸ hx)
theorem rw_l4 {b : TBook} (hL : b.Limbo.length < 100000) {f : Nat} (hf : 1000000 ≤ f) (hid : ∀ x ∈ b.Limbo, IDr f x.Tx) (hok : ∀ x ∈ b.Limbo, txOK x.Tx = true) (l0 : List Int) (hl0 : l0.length < 100000) (R : Option Bool) : ∀ (k i n : Nat), i + k = b.Limbo.length → k < n →
    ((∀ j x, i ≤ j → b.Limbo[j]? = some x → idS x.Tx ∉ l0) → g_tarnref16_Wide_l4 b f l0 R n (i : Int) = R) ∧ (¬ (∀ j x, i ≤ j → b.Limbo[j]? = some x → idS x.Tx ∉ l0) → g_tarnref16_Wide_l4 b f l0 R n (i : Int) = some false) := by
  intro k
  induction k with
  | zero =>
    intro i n hk hn
    obtain ⟨n, rfl⟩ : ∃ m, n = m + 1 := ⟨n - 1, by omega⟩
    have e : ∀ j x, i ≤ j → b.Limbo[j]? = some x → idS x.Tx ∉ l0 := fun j x hj hx => by have := (List.getElem?_eq_some_iff.1 hx).1; omega
    refine ⟨fun _ => ?_, fun h => absurd e h⟩
    rw [g_tarnref16_Wide_l4]
    simp only [p_lt]
    rw [dec_f (by omega), p_brf]
  | succ k ih =>
    intro i n hk hn
    obtain ⟨n, rfl⟩ : ∃ m, n = m + 1 := ⟨n - 1, by omega⟩
    have hi : i < b.Limbo.length := by omega
    have hx : b.Limbo[i]? = some b.Limbo[i] := List.getElem?_eq_getElem hi
    rw [g_tarnref16_Wide_l4]
    simp only [p_lt]
    obtain ⟨r, e1, e2⟩ := InMarks_ok (l := l0) (idS b.Limbo[i].Tx) (by omega) (f := f) (by omega)
    rw [dec_t (by omega), p_brt, p_ix hx, hid _ (List.getElem_mem _) (hok _ (List.getElem_mem _)), p_bd, e1, p_bd, e2, p_br]
    by_cases hm : idS b.Limbo[i].Tx ∈ l0
    · have : ¬ (∀ j x, i ≤ j → b.Limbo[j]? = some x → idS x.Tx ∉ l0) := fun h => h i _ (Nat.le_refl _) hx hm
      refine ⟨fun h => absurd h this, fun _ => ?_⟩
      simp only [hm, decide_true, if_true]
    · simp only [hm, decide_false, Bool.false_eq_true, if_false]
      rw [wr_s i (by omega)]
      have e : (∀ j x, i ≤ j → b.Limbo[j]? = some x → idS x.Tx ∉ l0) ↔ (∀ j x, i + 1 ≤ j → b.Limbo[j]? = some x → idS x.Tx ∉ l0) := by
        constructor
        · exact fun h j x hj => h j x (by omega)
        · intro h j x hj hjx
          by_cases ej : j = i
          · subst ej; rw [hx] at hjx; cases hjx; exact hm
          · exact h j x (by omega) hjx
      rw [e]
      exact ih (i + 1) n (by omega) (by omega)
theorem ref16_Wide {b : TBook} (hb : WF b) {f : Nat} (hf : 1000000 ≤ f) (hT : ∀ t ∈ b.Txs, IDr f t) (hL : ∀ x ∈ b.Limbo, IDr f x.Tx) : g_tarnref16_Wide f b = some (wideB b) := by
  simp only [g_tarnref16_Wide, p_lt, p_jn, p_br, ref16_Head, p_bd]
  have nA := hb.nA; have nT := hb.nT; have nL := hb.nL
  rw [ref16_Accts (l := b.Accts) (by omega) (show b.Accts.length < f by omega), p_bd, ref7_Txs hb.txs nT (by omega), p_bd, ref16_Limbo hb.lim nL (by omega) hL, p_bd]
  cases h1 : headB b.Head with
  | false => rw [wideB_f fun h => by have := h.1; rw [h1] at this; cases this]; simp
  | true =>
  cases h2 : acctsB b.Accts with
  | false => rw [wideB_f fun h => by have := h.2.1; rw [h2] at this; cases this]; simp
  | true =>
  simp only [Bool.not_true, Bool.false_eq_true, if_false]
  by_cases h4 : ((b.Txs.length : Nat) : Int) > 48
  · rw [dec_t h4, wideB_f fun h => by have := h.2.2.2.1; omega]; simp
  rw [dec_f h4]
  simp only [Bool.false_eq_true, if_false]
  cases h5 : b.Txs.all txOK with
  | false =>
    rw [wideB_f fun h => by
      have : b.Txs.all txOK = true := List.all_eq_true.2 fun t ht => (h.2.2.2.2.1.1 t ht).1
      rw [h5] at this; cases this]
    simp
  | true =>
  have hok := List.all_eq_true.1 h5
  cases h3 : limboB b.Limbo with
  | false => rw [wideB_f fun h => by have := h.2.2.1; rw [h3] at this; cases this]; simp
  | true =>
  simp only [Bool.not_true, Bool.false_eq_true, if_false]
  have h8 : b.Accts.length = 8 := by
    unfold acctsB at h2
    simp only [Bool.and_eq_true, decide_eq_true_eq] at h2
    exact h2.1
  have hlim := limGo_lt b.Limbo none (by unfold limboB at h3; simp only [Bool.and_eq_true] at h3; exact h3.2)
  have hokL : ∀ x ∈ b.Limbo, txOK x.Tx = true := fun x hx => (hlim.2.2 x hx).1
  have l1 := rw_l1 nT (g_tarnref16_Wide_l2 f b (g_tarnref16_Wide_l3 b f (fun l226 => g_tarnref16_Wide_l4 b f l226 (some true) f 0) f [] 0) f 0) f (max 1 b.Txs.length - 1) 1 f (Nat.le_refl _) (by omega) (by omega)
  have l2 := rw_l2 hb h8 hok (g_tarnref16_Wide_l3 b f (fun l226 => g_tarnref16_Wide_l4 b f l226 (some true) f 0) f [] 0) hf 8 0 f (by omega) (by omega)
  have l3 := rw_l3 nT hf hT hok (fun l226 => g_tarnref16_Wide_l4 b f l226 (some true) f 0) b.Txs.length 0 f (by omega) (by omega) (by simp [idsT])
  have l4 := rw_l4 nL hf hL hokL (idsT b.Txs) (by simp [idsT]; exact nT) (some true) b.Limbo.length 0 f (by omega) (by omega)
  rw [Adj_SS] at l1
  by_cases hS : SS b.Txs
  rotate_left
  · rw [wideB_f fun h => hS h.2.2.2.2.1.2.1]
    exact l1.2 hS
  refine (l1.1 hS).trans ?_
  by_cases hC : ∀ a, 0 ≤ a → a < 8 → CC b.Accts a (ofS b.Txs (a : Int))
  rotate_left
  · rw [wideB_f fun h => hC fun a _ ha => h.2.2.2.2.1.2.2 a ha]
    exact l2.2 hC
  refine (l2.1 hC).trans ?_
  have hR : RR b.Accts b.Txs (-1) := ⟨fun t ht => ⟨hok t ht, by have := txOK_from (hok t ht); omega⟩, hS, fun a ha => hC a (by omega) ha⟩
  by_cases hN : (idsT b.Txs).Nodup
  rotate_left
  · rw [wideB_f fun h => hN (List.nodup_append.1 h.2.2.2.2.2).1]
    exact l3.2 hN
  refine (l3.1 hN).trans ?_
  by_cases hD : ∀ j x, 0 ≤ j → b.Limbo[j]? = some x → idS x.Tx ∉ idsT b.Txs
  · refine (l4.1 hD).trans ?_
    rw [(wideB_iff b).2 ⟨h1, h2, h3, by omega, hR, ?_⟩]
    refine List.nodup_append.2 ⟨hN, ?_, fun x hx y hy he => ?_⟩
    · exact hlim.1.imp fun h => by omega
    · unfold idsH at hy
      simp only [List.mem_map] at hy
      obtain ⟨z, hz, rfl⟩ := hy
      obtain ⟨j, hj, rfl⟩ := List.getElem_of_mem hz
      exact hD j _ (Nat.zero_le _) (List.getElem?_eq_getElem hj) (he ▸ hx)
  · rw [wideB_f fun h => hD fun j x _ hx hm => by
      have := (List.nodup_append.1 h.2.2.2.2.2).2.2 _ hm (idS x.Tx) (by unfold idsH; exact List.mem_map.2 ⟨x, List.mem_of_getElem? hx, rfl⟩)
      exact this rfl]
    exact l4.2 hD
end Go.Proofs
