/- What MeterSlots computes is true. -/
import Derived.Test.YtcbjobfklcefpaaGreatLZ
set_option linter.unusedVariables false
set_option linter.unusedSimpArgs false
set_option maxRecDepth 100000
set_option maxHeartbeats 400000
namespace Go.Proofs
open Gw
attribute [local irreducible] idS txOK markS txB bytesL wideB
def shTs (l : List TTx) : List Nat := l.map shT
def shHs (l : List THeld) : List Nat := l.map fun x => shT x.Tx
theorem cnt_take {l : List TTx} {i : Nat} (h : i < l.length) (s : List Int) : cnt (shTs (l.take (i + 1))) s = bump (cnt (shTs (l.take i)) s) (shT l[i]) := by
  unfold shTs cnt; rw [← List.take_append_getElem h, List.map_append, List.foldl_append]; rfl
theorem cntH_take {l : List THeld} {i : Nat} (h : i < l.length) (s : List Int) : cnt ((shHs (l.take (i + 1))).map (fun k => 4 + k)) s = bump (cnt ((shHs (l.take i)).map (fun k => 4 + k)) s) (4 + shT l[i].Tx) := by
  unfold shHs cnt; rw [← List.take_append_getElem h, List.map_append, List.map_append, List.foldl_append]; rfl
theorem zeros {n : Nat} : ∀ x ∈ List.replicate n (0 : Int), 0 ≤ x ∧ x ≤ 0 := by
  intro x hx; rw [(List.mem_replicate.1 hx).2]; omega
/-- one is counted -/
theorem p_bump {β : Type} {s : List Int} {k : Nat} (hk : k < s.length) (hs : ∀ x ∈ s, 0 ≤ x ∧ x ≤ 200000) (K : List Int → Option β) :
    gd ((0 : Int) ≤ (k : Int) ∧ (k : Int) < ((s.length : Nat) : Int)) (bd (s[Int.toNat (k : Int)]?) fun x53 => gd ((0 : Int) ≤ (k : Int) ∧ (k : Int) < ((s.length : Nat) : Int)) (K (List.set s (Int.toNat (k : Int)) (wr .i64 (x53 + 1))))) = K (bump s k) := by
  have hx : s[k]? = some s[k] := List.getElem?_eq_getElem hk
  have hv := hs _ (List.getElem_mem hk)
  rw [p_ix hx, p_gd (by omega), Int.toNat_natCast, wr_i _ (by omega) (by omega)]
  unfold bump
  rw [hx]; rfl
def metS (b : TBook) : List Int := cnt (shTs b.Txs) (List.replicate 4 0) ++ cnt (shHs b.Limbo) (List.replicate 4 0)
theorem shT_lt (t : TTx) : shT t < 4 := shN_lt _
theorem cnt_met (b : TBook) : cnt ((shHs b.Limbo).map (fun k => 4 + k)) (cnt (shTs b.Txs) (List.replicate 8 0)) = metS b := by
  have e : List.replicate 8 (0 : Int) = List.replicate 4 0 ++ List.replicate 4 0 := rfl
  rw [e, cnt_left _ _ _ fun k hk => by
    unfold shTs at hk
    obtain ⟨t, _, rfl⟩ := List.mem_map.1 hk
    have := shT_lt t
    simp; omega]
  have hl : (cnt (shTs b.Txs) (List.replicate 4 (0 : Int))).length = 4 := by rw [cnt_len]; rfl
  have := cnt_right (shHs b.Limbo) (cnt (shTs b.Txs) (List.replicate 4 (0 : Int))) (List.replicate 4 0)
  rw [hl] at this
  exact this
theorem meter_Slots {b : TBook} (hb : WF b) {f : Nat} (hf : Fl b f) : g_meter_Slots f b = some (if bookB b then (metS b, 0) else ([], 1)) := by
  simp only [g_meter_Slots, p_lt, p_jn]
  rw [pool_Check hb hf, p_bd]
  rcases Bool.eq_false_or_eq_true (bookB b) with h | h
  rotate_left
  · rw [h]; simp [p_brt]
  rw [h]
  simp only [if_true]
  rw [show ((0 : Int) != 0) = false from rfl, p_brf, p_gd (by omega)]
  have hw : wideB b = true := by unfold bookB at h; simp only [Bool.and_eq_true] at h; exact h.2.1
  have hT := hb.nT; have hL := hb.nL; have hbig := hf.big
  obtain ⟨s1, s2⟩ := hf.sz hw
  have l1 := idx_loop (fun n (s : List Int) i => g_meter_Slots_l1 b f (fun l23 => g_meter_Slots_l2 b f (fun l63 => some (l63, 0)) f l23 0) n s i) b.Txs.length (fun i => cnt (shTs (b.Txs.take i)) (List.replicate 8 0)) (some (metS b, 0))
    (fun n => by
      rw [g_meter_Slots_l1]
      simp only [p_lt]
      rw [dec_f (by omega), p_brf, List.take_of_length_le (Nat.le_refl _)]
      have l2 := idx_loop (fun n (s : List Int) i => g_meter_Slots_l2 b f (fun l63 => some (l63, (0 : Int))) n s i) b.Limbo.length (fun i => cnt ((shHs (b.Limbo.take i)).map (fun k => 4 + k)) (cnt (shTs b.Txs) (List.replicate 8 0))) (some (metS b, 0))
        (fun n => by
          rw [g_meter_Slots_l2]
          simp only [p_lt]
          rw [dec_f (by omega), p_brf, List.take_of_length_le (Nat.le_refl _), cnt_met])
        (fun n i hi => by
          rw [g_meter_Slots_l2]
          simp only [p_lt]
          have hx : b.Limbo[i]? = some b.Limbo[i] := List.getElem?_eq_getElem hi
          have hsz := (s2 _ (List.getElem_mem hi)).1
          unfold SOf at hsz
          have h4 := shT_lt b.Limbo[i].Tx
          rw [dec_t (by omega), p_brt, p_ix hx, hsz, p_bd, wr_s i (by omega), cntH_take hi]
          simp only
          have e4 : wr .i64 (4 + ((shT b.Limbo[i].Tx : Nat) : Int)) = ((4 + shT b.Limbo[i].Tx : Nat) : Int) := by rw [wr_i _ (by omega) (by omega)]; omega
          rw [e4]
          have hc := cnt_le (shTs b.Txs) (List.replicate 8 0) 0 zeros
          have hc2 := cnt_le ((shHs (b.Limbo.take i)).map (fun k => 4 + k)) (cnt (shTs b.Txs) (List.replicate 8 0)) _ hc
          have hl1 : (shTs b.Txs).length = b.Txs.length := by simp [shTs]
          have hl2 : ((shHs (b.Limbo.take i)).map (fun k => 4 + k)).length ≤ i := by simp [shHs]; omega
          exact p_bump (by rw [cnt_len, cnt_len]; simp; omega) (fun x hx => by have := hc2 x hx; omega) (fun l97 => g_meter_Slots_l2 b f (fun l63 => some (l63, (0 : Int))) n l97 ((i + 1 : Nat) : Int))) f (by omega)
      exact l2)
    (fun n i hi => by
      rw [g_meter_Slots_l1]
      simp only [p_lt]
      have hx : b.Txs[i]? = some b.Txs[i] := List.getElem?_eq_getElem hi
      have hsz := (s1 _ (List.getElem_mem hi)).1
      unfold SOf at hsz
      have h4 := shT_lt b.Txs[i]
      rw [dec_t (by omega), p_brt, p_ix hx, hsz, p_bd, wr_s i (by omega), cnt_take hi]
      simp only
      have hc := cnt_le (shTs (b.Txs.take i)) (List.replicate 8 0) 0 zeros
      have hl1 : (shTs (b.Txs.take i)).length ≤ i := by simp [shTs]; omega
      exact p_bump (by rw [cnt_len]; simp; omega) (fun x hx => by have := hc x hx; omega) (fun l97 => g_meter_Slots_l1 b f (fun l23 => g_meter_Slots_l2 b f (fun l63 => some (l63, 0)) f l23 0) n l97 ((i + 1 : Nat) : Int))) f (by omega)
  exact l1
theorem law_slots {l : List TTx} (hl : l.length < 100000) {f : Nat} (hf : 1000000 ≤ f) (hfi : ∀ t ∈ l, Fine t) (hs : ∀ t ∈ l, RBy f t) : g_tarnlaw27_slots f l = some (cnt (shTs l) (List.replicate 4 0)) := by
  simp only [g_tarnlaw27_slots, p_jn]
  rw [p_gd (by omega)]
  have l1 := idx_loop (fun n (s : List Int) i => g_tarnlaw27_slots_l1 l f (fun l9 => some l9) n s i) l.length (fun i => cnt (shTs (l.take i)) (List.replicate 4 0)) (some (cnt (shTs l) (List.replicate 4 0)))
    (fun n => by
      rw [g_tarnlaw27_slots_l1]
      simp only [p_lt]
      rw [dec_f (by omega), p_brf, List.take_of_length_le (Nat.le_refl _)])
    (fun n i hi => by
      rw [g_tarnlaw27_slots_l1]
      simp only [p_lt, p_jn]
      have hx : l[i]? = some l[i] := List.getElem?_eq_getElem hi
      have hsz := hs _ (List.getElem_mem hi)
      unfold RBy at hsz
      have h4 := shT_lt l[i]
      have hln := txB_len (hfi _ (List.getElem_mem hi))
      rw [dec_t (by omega), p_brt, p_ix hx, hsz, p_bd, slen_lsb, ref7_Shelf (by omega) (by omega), p_bd]
      simp only
      rw [p_brt, wr_s i (by omega), cnt_take hi]
      have hc := cnt_le (shTs (l.take i)) (List.replicate 4 0) 0 zeros
      have hl1 : (shTs (l.take i)).length ≤ i := by simp [shTs]; omega
      exact p_bump (by rw [cnt_len]; simp; exact h4) (fun x hx => by have := hc x hx; omega) (fun l97 => g_tarnlaw27_slots_l1 l f (fun l9 => some l9) n l97 ((i + 1 : Nat) : Int))) f (by omega)
  exact l1
theorem EqNumbers_refl {l : List Int} (hl : l.length < 100000) {f : Nat} (hf : 100000 ≤ f) : g_tarnref0_EqNumbers f l l = some true := by
  simp only [g_tarnref0_EqNumbers, p_lt, p_jn]
  rw [show ((((l.length : Nat) : Int)) != (((l.length : Nat) : Int))) = false by simp, p_brf]
  have l1 := idx_loop (fun n (_ : Unit) i => g_tarnref0_EqNumbers_l1 l l (some true) f n i) l.length (fun _ => ()) (some true)
    (fun n => by
      rw [g_tarnref0_EqNumbers_l1]
      simp only [p_lt]
      rw [dec_f (by omega), p_brf])
    (fun n i hi => by
      rw [g_tarnref0_EqNumbers_l1]
      simp only [p_lt]
      have hx : l[i]? = some l[i] := List.getElem?_eq_getElem hi
      rw [dec_t (by omega), p_brt, p_ix hx, p_ix hx, show (l[i] != l[i]) = false by simp, p_brf, wr_s i (by omega)]) f (by omega)
  exact l1
/-! what weighs too much is let go -/
/-- what the memory lets be there -/
structure Lt (b : TBook) : Prop where
  txs : UTs b.Txs
  lim : UHs b.Limbo
  acc : ∀ a ∈ b.Accts, U a.Balance ∧ I1 a.Nonce
  room : I1 b.Room
  nT : b.Txs.length ≤ 140737488355328
  nL : b.Limbo.length ≤ 140737488355328
  nA : b.Accts.length ≤ 140737488355328
  lT : ∀ t ∈ b.Txs, t.Hashes.length ≤ 140737488355328 ∧ t.Blobs.length ≤ 140737488355328 ∧ ∀ s ∈ t.Blobs, slen s ≤ 140737488355328
  lL : ∀ x ∈ b.Limbo, x.Tx.Hashes.length ≤ 140737488355328 ∧ x.Tx.Blobs.length ≤ 140737488355328 ∧ ∀ s ∈ x.Tx.Blobs, slen s ≤ 140737488355328
theorem txw {t : TTx} (h : t.Hashes.length ≤ 140737488355328 ∧ t.Blobs.length ≤ 140737488355328 ∧ ∀ s ∈ t.Blobs, slen s ≤ 140737488355328) {f : Nat} (hf : 2000000 ≤ f) :
    ∃ w : Nat, g_tarnlaw0_TxWeight f t = some (w : Int) ∧ t.Hashes.length ≤ w ∧ t.Blobs.length ≤ w ∧ w ≤ 900000000000000 := by
  obtain ⟨h1, h2, h3⟩ := h
  simp only [g_tarnlaw0_TxWeight, p_lt, p_jn]
  have e1 : wr .i64 (wr .i64 (1 + ((t.Hashes.length : Nat) : Int)) + ((t.Blobs.length : Nat) : Int)) = ((1 + t.Hashes.length + t.Blobs.length : Nat) : Int) := by
    rw [wr_i (1 + _) (by omega) (by omega), wr_i _ (by omega) (by omega)]; omega
  rw [e1]
  have go : ∀ (k i n : Nat) (w : Nat), i ≤ t.Blobs.length → 1048576 ≤ i + k → k < n → i ≤ w → t.Hashes.length ≤ w → t.Blobs.length ≤ w → w ≤ 600000000000000 →
      ∃ w' : Nat, g_tarnlaw0_TxWeight_l1 t (fun x12 => some x12) f n (w : Int) (i : Int) = some (w' : Int) ∧ t.Hashes.length ≤ w' ∧ t.Blobs.length ≤ w' ∧ w' ≤ 900000000000000 := by
    intro k
    induction k with
    | zero =>
      intro i n w hi hk hn hiw hw1 hw2 hw3
      obtain ⟨n, rfl⟩ : ∃ m, n = m + 1 := ⟨n - 1, by omega⟩
      rw [g_tarnlaw0_TxWeight_l1]
      simp only [p_lt, p_jn, p_br]
      have e : decide ((w : Int) < 1048576) = false := dec_f (by omega)
      rw [e]
      refine ⟨w, ?_, hw1, hw2, by omega⟩
      simp
    | succ k ih =>
      intro i n w hi hk hn hiw hw1 hw2 hw3
      obtain ⟨n, rfl⟩ : ∃ m, n = m + 1 := ⟨n - 1, by omega⟩
      rw [g_tarnlaw0_TxWeight_l1]
      simp only [p_lt, p_jn]
      by_cases c1 : i < t.Blobs.length
      · by_cases c2 : w < 1048576
        · have hx : t.Blobs[i]? = some t.Blobs[i] := List.getElem?_eq_getElem c1
          have h4 := h3 _ (List.getElem_mem c1)
          rw [slen_lsb] at h4
          have hb0 : 0 < t.Blobs.length := by omega
          rw [dec_t (by omega), p_brt, dec_t (by omega), p_brt, p_ix hx, slen_lsb, wr_a w _ (by omega) (by omega), wr_s i (by omega)]
          -- the weight is ahead of the place
          exact ih (i + 1) n (w + (lsb t.Blobs[i]).length) (by omega) (by omega) (by omega) (by omega) (by omega) (by omega) (by omega)
        · rw [dec_t (by omega), p_brt, dec_f (by omega), p_brf]
          exact ⟨w, rfl, hw1, hw2, by omega⟩
      · rw [dec_f (by omega), p_brf, p_brf]
        exact ⟨w, rfl, hw1, hw2, by omega⟩
  exact go 1048576 0 f (1 + t.Hashes.length + t.Blobs.length) (by omega) (by omega) (by omega) (by omega) (by omega) (by omega) (by omega)
end Go.Proofs
