/- What MeterSlots computes is true: what weighs too much is let go; the whole. -/
import Derived.Test.YtcbjobfklcefpaaGreatLZa
set_option linter.unusedVariables false
set_option linter.unusedSimpArgs false
set_option maxRecDepth 100000
set_option maxHeartbeats 400000
namespace Go.Proofs
open Gw
attribute [local irreducible] idS txOK markS txB bytesL wideB
def LtT (t : TTx) : Prop := t.Hashes.length ≤ 140737488355328 ∧ t.Blobs.length ≤ 140737488355328 ∧ ∀ s ∈ t.Blobs, slen s ≤ 140737488355328
theorem txsw {l : List TTx} (hl : l.length ≤ 140737488355328) (ht : ∀ t ∈ l, LtT t) {f : Nat} (hf : 2000000 ≤ f) :
    ∃ r : Nat, g_tarnlaw0_TxsWeight f l = some (r : Int) ∧ l.length ≤ r ∧ r ≤ 1100000000000000 ∧ (r ≤ 4000 → ∀ t ∈ l, Sm t) := by
  simp only [g_tarnlaw0_TxsWeight, p_jn]
  have go : ∀ (k i n : Nat) (w : Nat), i ≤ l.length → 1048576 ≤ i + k → k < n → l.length ≤ w → w ≤ 1100000000000000 → (w ≤ 4000 → ∀ t ∈ l.take i, Sm t) →
      ∃ r : Nat, g_tarnlaw0_TxsWeight_l1 l f (fun x3 => some x3) n (w : Int) (i : Int) = some (r : Int) ∧ l.length ≤ r ∧ r ≤ 1100000000000000 ∧ (r ≤ 4000 → ∀ t ∈ l, Sm t) := by
    intro k
    induction k with
    | zero =>
      intro i n w hi hk hn hw1 hw2 hw3
      obtain ⟨n, rfl⟩ : ∃ m, n = m + 1 := ⟨n - 1, by omega⟩
      rw [g_tarnlaw0_TxsWeight_l1]
      simp only [p_lt, p_jn, p_br]
      have e : decide ((w : Int) < 1048576) = false := dec_f (by omega)
      rw [e]
      refine ⟨w, ?_, hw1, hw2, fun h => by omega⟩
      simp
    | succ k ih =>
      intro i n w hi hk hn hw1 hw2 hw3
      obtain ⟨n, rfl⟩ : ∃ m, n = m + 1 := ⟨n - 1, by omega⟩
      rw [g_tarnlaw0_TxsWeight_l1]
      simp only [p_lt, p_jn]
      by_cases c1 : i < l.length
      · by_cases c2 : w < 1048576
        · have hx : l[i]? = some l[i] := List.getElem?_eq_getElem c1
          obtain ⟨v, e, v1, v2, v3⟩ := txw (ht _ (List.getElem_mem c1)) hf
          rw [dec_t (by omega), p_brt, dec_t (by omega), p_brt, p_ix hx, e, p_bd, wr_a w v (by omega) (by omega), wr_s i (by omega)]
          refine ih (i + 1) n (w + v) (by omega) (by omega) (by omega) (by omega) (by omega) fun h t htm => ?_
          rw [← List.take_append_getElem c1] at htm
          rcases List.mem_append.1 htm with htm | htm
          · exact hw3 (by omega) t htm
          · rw [List.mem_singleton.1 htm]
            exact ⟨by omega, by omega⟩
        · rw [dec_t (by omega), p_brt, dec_f (by omega), p_brf]
          exact ⟨w, rfl, hw1, hw2, fun h => by omega⟩
      · rw [dec_f (by omega), p_brf, p_brf]
        have e : l.take i = l := List.take_of_length_le (by omega)
        rw [e] at hw3
        exact ⟨w, rfl, hw1, hw2, hw3⟩
  exact go 1048576 0 f l.length (by omega) (by omega) (by omega) (Nat.le_refl _) (by omega) (fun _ t ht => by simp at ht)
theorem limw {l : List THeld} (hl : l.length ≤ 140737488355328) (ht : ∀ x ∈ l, LtT x.Tx) {f : Nat} (hf : 2000000 ≤ f) :
    ∃ r : Nat, g_tarnlaw0_LimboWeight f l = some (r : Int) ∧ l.length ≤ r ∧ r ≤ 1100000000000000 ∧ (r ≤ 4000 → ∀ x ∈ l, Sm x.Tx) := by
  simp only [g_tarnlaw0_LimboWeight, p_jn]
  have go : ∀ (k i n : Nat) (w : Nat), i ≤ l.length → 1048576 ≤ i + k → k < n → l.length ≤ w → w ≤ 1100000000000000 → (w ≤ 4000 → ∀ x ∈ l.take i, Sm x.Tx) →
      ∃ r : Nat, g_tarnlaw0_LimboWeight_l1 l f (fun x3 => some x3) n (w : Int) (i : Int) = some (r : Int) ∧ l.length ≤ r ∧ r ≤ 1100000000000000 ∧ (r ≤ 4000 → ∀ x ∈ l, Sm x.Tx) := by
    intro k
    induction k with
    | zero =>
      intro i n w hi hk hn hw1 hw2 hw3
      obtain ⟨n, rfl⟩ : ∃ m, n = m + 1 := ⟨n - 1, by omega⟩
      rw [g_tarnlaw0_LimboWeight_l1]
      simp only [p_lt, p_jn, p_br]
      have e : decide ((w : Int) < 1048576) = false := dec_f (by omega)
      rw [e]
      refine ⟨w, ?_, hw1, hw2, fun h => by omega⟩
      simp
    | succ k ih =>
      intro i n w hi hk hn hw1 hw2 hw3
      obtain ⟨n, rfl⟩ : ∃ m, n = m + 1 := ⟨n - 1, by omega⟩
      rw [g_tarnlaw0_LimboWeight_l1]
      simp only [p_lt, p_jn]
      by_cases c1 : i < l.length
      · by_cases c2 : w < 1048576
        · have hx : l[i]? = some l[i] := List.getElem?_eq_getElem c1
          obtain ⟨v, e, v1, v2, v3⟩ := txw (ht _ (List.getElem_mem c1)) hf
          rw [dec_t (by omega), p_brt, dec_t (by omega), p_brt, p_ix hx, e, p_bd, wr_a w v (by omega) (by omega), wr_s i (by omega)]
          refine ih (i + 1) n (w + v) (by omega) (by omega) (by omega) (by omega) (by omega) fun h t htm => ?_
          rw [← List.take_append_getElem c1] at htm
          rcases List.mem_append.1 htm with htm | htm
          · exact hw3 (by omega) t htm
          · rw [List.mem_singleton.1 htm]
            exact ⟨by omega, by omega⟩
        · rw [dec_t (by omega), p_brt, dec_f (by omega), p_brf]
          exact ⟨w, rfl, hw1, hw2, fun h => by omega⟩
      · rw [dec_f (by omega), p_brf, p_brf]
        have e : l.take i = l := List.take_of_length_le (by omega)
        rw [e] at hw3
        exact ⟨w, rfl, hw1, hw2, hw3⟩
  exact go 1048576 0 f l.length (by omega) (by omega) (by omega) (Nat.le_refl _) (by omega) (fun _ t ht => by simp at ht)
theorem heavy_ok {b : TBook} (h : Lt b) {f : Nat} (hf : 2000000 ≤ f) : ∃ c, g_tarnlaw16_Heavy f b = some c ∧ (c = false → WF b) := by
  simp only [g_tarnlaw16_Heavy, g_tarnlaw0_BookWeight, p_jn, p_lt, p_br]
  have hT := h.nT; have hL := h.nL; have hA := h.nA
  obtain ⟨r1, e1, a1, a2, a3⟩ := txsw hT h.lT hf
  obtain ⟨r2, e2, b1, b2, b3⟩ := limw hL h.lL hf
  rw [e1, p_bd, e2, p_bd, wr_a _ r1 (by omega) (by omega), wr_a _ r2 (by omega) (by omega), p_bd]
  by_cases c1 : ((b.Accts.length + r1 + r2 : Nat) : Int) > 4000
  · rw [if_pos (dec_t c1)]; exact ⟨true, rfl, fun h => by cases h⟩
  · rw [if_neg (by simpa using c1)]
    have w : WF b := ⟨h.txs, h.lim, h.acc, a3 (by omega), b3 (by omega), by omega, by omega, by omega, h.room⟩
    by_cases c2 : ((b.Txs.length : Nat) : Int) > 60
    · rw [if_pos (dec_t c2)]; exact ⟨true, rfl, fun h => by cases h⟩
    · rw [if_neg (by simpa using c2)]
      exact ⟨_, rfl, fun _ => w⟩
/-! an empty book -/
theorem B_ok (f : Nat) (hf : 10 ≤ f) (n : Int) : g_tarnlaw16_B f n = some (TBook.mk n (THead.mk 0 (TU256.mk 0 0 0 0) 0) (List.replicate 8 (TAcct.mk 0 (TU256.mk 0 1 0 0))) [] []) := by
  simp only [g_tarnlaw16_B, p_jn]
  have l1 := idx_loop (fun m (s : List TAcct) i => g_tarnlaw16_B_l1 (fun l13 => some (TBook.mk n (THead.mk 0 (TU256.mk 0 0 0 0) 0) l13 [] [])) f m s i) 8 (fun i => List.replicate i (TAcct.mk 0 (TU256.mk 0 1 0 0))) (some (TBook.mk n (THead.mk 0 (TU256.mk 0 0 0 0) 0) (List.replicate 8 (TAcct.mk 0 (TU256.mk 0 1 0 0))) [] []))
    (fun m => by
      rw [g_tarnlaw16_B_l1]
      simp only [p_lt]
      rw [dec_f (by omega), p_brf])
    (fun m i hi => by
      rw [g_tarnlaw16_B_l1]
      simp only [p_lt]
      rw [dec_t (by omega), p_brt, p_gd (by simp; omega), wr_s i (by omega), ← List.replicate_succ']) f (by omega)
  exact l1
def emB (n : Int) : TBook := TBook.mk n (THead.mk 0 (TU256.mk 0 0 0 0) 0) (List.replicate 8 (TAcct.mk 0 (TU256.mk 0 1 0 0))) [] []
theorem emB_WF {n : Int} (hn : I1 n) : WF (emB n) where
  txs := by intro t h; simp [emB] at h
  lim := by intro t h; simp [emB] at h
  acc := by
    intro a ha
    rw [(List.mem_replicate.1 (show a ∈ List.replicate 8 (TAcct.mk 0 (TU256.mk 0 1 0 0)) from ha)).2]
    simp only [U, U1, I1]
    omega
  sT := by intro t h; simp [emB] at h
  sL := by intro t h; simp [emB] at h
  nT := by simp [emB]
  nL := by simp [emB]
  nA := by simp [emB]
  room := hn
theorem emB_Fl {n : Int} {f : Nat} (hf : 1000000 ≤ f) : Fl (emB n) f where
  big := hf
  aT := by intro t h; simp [emB] at h
  aL := by intro t h; simp [emB] at h
  rT := by intro t h; simp [emB] at h
  rL := by intro t h; simp [emB] at h
  sz := by
    intro _
    refine ⟨?_, ?_⟩
    · intro t h; simp [emB] at h
    · intro t h; simp [emB] at h
theorem emB_wide (n : Int) : wideB (emB n) = true := by
  refine (wideB_iff _).2 ⟨?_, ?_, ?_, ?_, ?_, ?_⟩
  · show headB (THead.mk 0 (TU256.mk 0 0 0 0) 0) = true
    decide +kernel
  · show acctsB (List.replicate 8 (TAcct.mk 0 (TU256.mk 0 1 0 0))) = true
    decide +kernel
  · show limboB [] = true
    decide +kernel
  · simp [emB]
  · exact RR_nil _ _
  · simp [emB, idsT, idsH]
theorem wakes_ok {f : Nat} (hf : 1000000 ≤ f) : g_tarnlaw27_wakes f = some true := by
  simp only [g_tarnlaw27_wakes, p_jn, p_lt]
  rw [B_ok f (by omega), p_bd]
  have h := meter_Slots (b := emB 1024) (emB_WF (by simp only [I1]; omega)) (f := f) (emB_Fl hf)
  have hb : bookB (emB 1024) = true := by
    unfold bookB
    rw [emB_wide]
    decide +kernel
  rw [hb] at h
  simp only [if_true] at h
  have h' : g_meter_Slots f (TBook.mk 1024 (THead.mk 0 (TU256.mk 0 0 0 0) 0) (List.replicate 8 (TAcct.mk 0 (TU256.mk 0 1 0 0))) [] []) = some (metS (emB 1024), 0) := h
  rw [h', p_bd]
  simp only [g_tarnlaw27_num, p_bd]
  rw [show ((0 : Int) == 0) = true from rfl, p_brt, p_gd (by omega)]
  have e : metS (emB 1024) = List.replicate (Int.toNat 8) (0 : Int) := by decide +kernel
  rw [e, EqNumbers_refl (by simp) (by omega), p_bd]
theorem law_l1 {p : Ttarnlaw16_Ask} (hL : p.B.Limbo.length < 100000) {f : Nat} (hf : 1000000 ≤ f) (K : List TTx → Option Bool) : g_tarnlaw27_MeterSlots_l1 p K f f [] 0 = K (p.B.Limbo.map fun x => x.Tx) := by
  have l1 := idx_loop (fun n (s : List TTx) i => g_tarnlaw27_MeterSlots_l1 p K f n s i) p.B.Limbo.length (fun i => (p.B.Limbo.take i).map fun x => x.Tx) (K (p.B.Limbo.map fun x => x.Tx))
    (fun n => by
      rw [g_tarnlaw27_MeterSlots_l1]
      simp only [p_lt]
      rw [dec_f (by omega), p_brf, List.take_of_length_le (Nat.le_refl _)])
    (fun n i hi => by
      rw [g_tarnlaw27_MeterSlots_l1]
      simp only [p_lt]
      have hx : p.B.Limbo[i]? = some p.B.Limbo[i] := List.getElem?_eq_getElem hi
      rw [dec_t (by omega), p_brt, p_ix hx, p_gd (by simp; omega), wr_s i (by omega)]
      congr 1
      rw [← List.take_append_getElem hi, List.map_append]; rfl) f (by omega)
  exact l1
theorem meterSlots_law (p : Ttarnlaw16_Ask) (h : Lt p.B) : Ev (fun f => g_tarnlaw27_MeterSlots f p) true := by
  by_cases hwf : WF p.B
  · obtain ⟨N, hN⟩ := Fl_ev hwf
    refine ⟨max N 2000000, fun f hf => ?_⟩
    simp only [g_tarnlaw27_MeterSlots, p_lt, p_jn]
    obtain ⟨c, e, _⟩ := heavy_ok h (f := f) (by omega)
    have hfl := hN f (by omega)
    rw [e, p_bd]
    cases c with
    | true => rw [p_brt]
    | false =>
      rw [p_brf, meter_Slots hwf hfl, p_bd, ref16_Book hwf hfl, p_bd]
      rcases Bool.eq_false_or_eq_true (bookB p.B) with hb | hb
      · rw [hb]
        simp only [Bool.not_true, if_true]
        rw [p_brf, law_l1 hwf.nL (by omega)]
        simp only [g_tarnlaw27_num, p_bd]
        have hw : wideB p.B = true := by unfold bookB at hb; simp only [Bool.and_eq_true] at hb; exact hb.2.1
        obtain ⟨f1, f2⟩ := wide_fine hwf hw
        obtain ⟨s1, s2⟩ := hfl.sz hw
        have hL := hwf.nL
        have hT := hwf.nT
        rw [show ((0 : Int) == 0) = true from rfl, p_brt, law_slots hT (by omega) f1 (fun t ht => (s1 t ht).2.2), p_bd,
          law_slots (l := p.B.Limbo.map fun x => x.Tx) (by simpa using hL) (by omega) (fun t ht => by obtain ⟨x, hx, rfl⟩ := List.mem_map.1 ht; exact f2 x hx) (fun t ht => by obtain ⟨x, hx, rfl⟩ := List.mem_map.1 ht; exact (s2 x hx).2.2), p_bd,
          p_gd (by rw [cnt_len, cnt_len]; simp)]
        have e2 : cnt (shTs p.B.Txs) (List.replicate 4 0) ++ cnt (shTs (p.B.Limbo.map fun x => x.Tx)) (List.replicate 4 0) = metS p.B := by
          unfold metS shHs shTs; rw [List.map_map]; rfl
        rw [e2, EqNumbers_refl (by unfold metS; rw [List.length_append, cnt_len, cnt_len]; simp) (by omega), p_bd, p_brt, wakes_ok (by omega), p_bd]
      · rw [hb]
        simp only [Bool.not_false, Bool.false_eq_true, if_false]
        rw [p_brt]
        simp only [g_tarnlaw27_num, p_bd]
        rw [show ((1 : Int) == 1) = true from rfl, p_brt]
        have e0 : ((((([] : List Int).length : Nat) : Int)) == 0) = true := rfl
        rw [e0, p_brt, wakes_ok (by omega), p_bd]
  · refine ⟨2000000, fun f hf => ?_⟩
    simp only [g_tarnlaw27_MeterSlots, p_lt, p_jn]
    obtain ⟨c, e, hc⟩ := heavy_ok h (f := f) (by omega)
    cases c with
    | true => rw [e, p_bd, p_brt]
    | false => exact absurd (hc rfl) hwf
end Go.Proofs
