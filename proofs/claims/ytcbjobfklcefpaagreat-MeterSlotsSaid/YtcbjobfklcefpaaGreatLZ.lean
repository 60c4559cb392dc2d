/- Slots, shelves; books that may be; what the meter tells. -/
import Derived.Test.YtcbjobfklcefpaaGreatLY
import Derived.Test.YtcbjobfklcefpaaGreatY4
set_option linter.unusedVariables false
set_option linter.unusedSimpArgs false
set_option maxRecDepth 100000
set_option maxHeartbeats 400000
namespace Go.Proofs
open Gw
attribute [local irreducible] idS txOK markS txB bytesL wideB
def shN (n : Nat) : Nat := if n ≤ 112 then 0 else if n ≤ 240 then 1 else if n ≤ 496 then 2 else 3
def shT (t : TTx) : Nat := shN (lsb (txB t)).length
def slotN (k : Nat) : Nat := 128 * 2 ^ k
theorem shN_lt (n : Nat) : shN n < 4 := by unfold shN; (repeat' split) <;> omega
theorem ishl128 : ishl .i64 128 0 = 128 ∧ ishl .i64 128 1 = 256 ∧ ishl .i64 128 2 = 512 ∧ ishl .i64 128 3 = 1024 := by decide +kernel
theorem size_Shelf {n : Nat} (h : n ≤ 1008) {f : Nat} (hf : 10 ≤ f) : g_size_Shelf f (n : Int) = some ((shN n : Int), 0) := by
  obtain ⟨g, rfl⟩ : ∃ g, f = g + 5 := ⟨f - 5, by omega⟩
  obtain ⟨e0, e1, e2, e3⟩ := ishl128
  have w1 : wr .i64 (0 + 1) = 1 := wr_i _ (by omega) (by omega)
  have w2 : wr .i64 (1 + 1) = 2 := wr_i _ (by omega) (by omega)
  have w3 : wr .i64 (2 + 1) = 3 := wr_i _ (by omega) (by omega)
  have a0 : wr .i64 (128 - 16) = 112 := wr_i _ (by omega) (by omega)
  have a1 : wr .i64 (256 - 16) = 240 := wr_i _ (by omega) (by omega)
  have a2 : wr .i64 (512 - 16) = 496 := wr_i _ (by omega) (by omega)
  have a3 : wr .i64 (1024 - 16) = 1008 := wr_i _ (by omega) (by omega)
  simp only [g_size_Shelf, p_lt, p_jn]
  rw [dec_f (by omega), p_brf, g_size_Shelf_l1]
  simp only [p_lt]
  rw [dec_t (by omega), p_brt, p_gd (by omega), e0, a0, w1]
  unfold shN
  by_cases c0 : n ≤ 112
  · rw [dec_t (by omega), p_brt, if_pos c0]; rfl
  rw [dec_f (by omega), p_brf, if_neg c0, g_size_Shelf_l1]
  simp only [p_lt]
  rw [dec_t (by omega), p_brt, p_gd (by omega), e1, a1, w2]
  by_cases c1 : n ≤ 240
  · rw [dec_t (by omega), p_brt, if_pos c1]; rfl
  rw [dec_f (by omega), p_brf, if_neg c1, g_size_Shelf_l1]
  simp only [p_lt]
  rw [dec_t (by omega), p_brt, p_gd (by omega), e2, a2, w3]
  by_cases c2 : n ≤ 496
  · rw [dec_t (by omega), p_brt, if_pos c2]; rfl
  rw [dec_f (by omega), p_brf, if_neg c2, g_size_Shelf_l1]
  simp only [p_lt]
  rw [dec_t (by omega), p_brt, p_gd (by omega), e3, a3, dec_t (by omega), p_brt]; rfl
theorem ref7_Shelf {n : Nat} (h : n ≤ 1008) {f : Nat} (hf : 10 ≤ f) : g_tarnref7_Shelf f (n : Int) = some ((shN n : Int), true) := by
  obtain ⟨g, rfl⟩ : ∃ g, f = g + 5 := ⟨f - 5, by omega⟩
  obtain ⟨e0, e1, e2, e3⟩ := ishl128
  have w1 : wr .i64 (0 + 1) = 1 := wr_i _ (by omega) (by omega)
  have w2 : wr .i64 (1 + 1) = 2 := wr_i _ (by omega) (by omega)
  have w3 : wr .i64 (2 + 1) = 3 := wr_i _ (by omega) (by omega)
  have a0 : wr .i64 (128 - 16) = 112 := wr_i _ (by omega) (by omega)
  have a1 : wr .i64 (256 - 16) = 240 := wr_i _ (by omega) (by omega)
  have a2 : wr .i64 (512 - 16) = 496 := wr_i _ (by omega) (by omega)
  have a3 : wr .i64 (1024 - 16) = 1008 := wr_i _ (by omega) (by omega)
  simp only [g_tarnref7_Shelf, p_jn]
  rw [g_tarnref7_Shelf_l1]
  simp only [p_lt, g_tarnref7_Slot]
  rw [dec_t (by omega), p_brt, p_gd (by omega), e0, p_bd, a0, w1]
  unfold shN
  by_cases c0 : n ≤ 112
  · rw [dec_t (by omega), p_brt, if_pos c0]; rfl
  rw [dec_f (by omega), p_brf, if_neg c0, g_tarnref7_Shelf_l1]
  simp only [p_lt, g_tarnref7_Slot]
  rw [dec_t (by omega), p_brt, p_gd (by omega), e1, p_bd, a1, w2]
  by_cases c1 : n ≤ 240
  · rw [dec_t (by omega), p_brt, if_pos c1]; rfl
  rw [dec_f (by omega), p_brf, if_neg c1, g_tarnref7_Shelf_l1]
  simp only [p_lt, g_tarnref7_Slot]
  rw [dec_t (by omega), p_brt, p_gd (by omega), e2, p_bd, a2, w3]
  by_cases c2 : n ≤ 496
  · rw [dec_t (by omega), p_brt, if_pos c2]; rfl
  rw [dec_f (by omega), p_brf, if_neg c2, g_tarnref7_Shelf_l1]
  simp only [p_lt, g_tarnref7_Slot]
  rw [dec_t (by omega), p_brt, p_gd (by omega), e3, p_bd, a3, dec_t (by omega), p_brt]; rfl
theorem ishl_slot {k : Nat} (h : k < 4) : ishl .i64 128 (k : Int) = (slotN k : Int) := by
  obtain ⟨e0, e1, e2, e3⟩ := ishl128
  rcases (show k = 0 ∨ k = 1 ∨ k = 2 ∨ k = 3 by omega) with rfl | rfl | rfl | rfl
  · exact e0
  · exact e1
  · exact e2
  · exact e3
def SOf (f : Nat) (t : TTx) : Prop := g_size_Of f t = some (slen (txB t), (shT t : Int), (slotN (shT t) : Int), 0)
def RRm (f : Nat) (t : TTx) : Prop := g_tarnref7_Room f t = some (slotN (shT t) : Int)
def RBy (f : Nat) (t : TTx) : Prop := g_tarnref7_Bytes f t = some (txB t)
theorem SOf_ev {t : TTx} (h : Fine t) : ∃ N, ∀ f, N ≤ f → SOf f t := by
  obtain ⟨N, hN⟩ := tx_Bytes h.ut
  refine ⟨max N 10, fun f hf => ?_⟩
  have hl := txB_len h
  have e : g_tx_Bytes f t = some (txB t, 0) := by
    have := hN f (by omega)
    rw [if_pos h.ok] at this; exact this
  unfold SOf
  simp only [g_size_Of, e, p_bd, p_lt]
  rw [show ((0 : Int) != 0) = false from rfl, p_brf, slen_lsb, size_Shelf (by omega) (by omega), p_bd]
  simp only
  rw [show ((0 : Int) != 0) = false from rfl, p_brf, p_gd (by omega), ishl_slot (shN_lt _)]
  rfl
theorem RRm_ev {t : TTx} (h : Fine t) : ∃ N, ∀ f, N ≤ f → RRm f t ∧ RBy f t := by
  obtain ⟨N, hN⟩ := ref7_Bytes h
  refine ⟨max N 10, fun f hf => ?_⟩
  have hl := txB_len h
  have e : g_tarnref7_Bytes f t = some (txB t) := hN f (by omega)
  refine ⟨?_, e⟩
  unfold RRm
  simp only [g_tarnref7_Room, e, p_bd]
  rw [slen_lsb, ref7_Shelf (by omega) (by omega), p_bd]
  simp only [g_tarnref7_Slot, p_lt]
  rw [p_gd (by omega), ishl_slot (shN_lt _), p_bd]
  rfl
def sumSl (l : List TTx) : Nat := (l.map fun t => slotN (shT t)).sum
theorem slotN_le {k : Nat} (h : k < 4) : slotN k ≤ 1024 := by
  rcases (show k = 0 ∨ k = 1 ∨ k = 2 ∨ k = 3 by omega) with rfl | rfl | rfl | rfl <;> decide
theorem sumSl_le : ∀ l : List TTx, sumSl l ≤ l.length * 1024
  | [] => by simp [sumSl]
  | t :: l => by
    have := sumSl_le l
    have := slotN_le (shN_lt (lsb (txB t)).length)
    unfold sumSl shT at *
    simp only [List.map_cons, List.sum_cons, List.length_cons]
    omega
theorem sumSl_take {l : List TTx} {i : Nat} (h : i < l.length) : sumSl (l.take (i + 1)) = sumSl (l.take i) + slotN (shT l[i]) := by
  unfold sumSl; rw [← List.take_append_getElem h, List.map_append, List.sum_append]; simp
theorem pool_Slots {l : List TTx} (hl : l.length < 100000) {f : Nat} (hf : 100000 ≤ f) (hs : ∀ t ∈ l, SOf f t) : g_pool_Slots f l = some (sumSl l : Int) := by
  simp only [g_pool_Slots, p_jn]
  refine idx_loop (fun n (s : Int) i => g_pool_Slots_l1 l f _ n s i) l.length (fun i => (sumSl (l.take i) : Int)) _ ?_ ?_ f (by omega)
  · intro n
    try simp only
    rw [g_pool_Slots_l1]
    simp only [p_lt]
    rw [dec_f (by omega), p_brf, List.take_of_length_le (Nat.le_refl _)]
  · intro n i hi
    try simp only
    rw [g_pool_Slots_l1]
    simp only [p_lt]
    have hx : l[i]? = some l[i] := List.getElem?_eq_getElem hi
    have h1 := sumSl_le (l.take i)
    have h2 := slotN_le (shN_lt (lsb (txB l[i])).length)
    have h3 : (l.take i).length ≤ i := by simp; omega
    have hsz := hs _ (List.getElem_mem hi)
    unfold SOf at hsz
    rw [dec_t (by omega), p_brt, p_ix hx, hsz, p_bd, wr_s i (by omega), sumSl_take hi]
    simp only
    have h4 : slotN (shT l[i]) ≤ 1024 := h2
    rw [wr_a _ _ (by omega) (by omega)]
theorem ref16_Bytes {l : List TTx} (hl : l.length < 100000) {f : Nat} (hf : 100000 ≤ f) (hs : ∀ t ∈ l, RRm f t) : g_tarnref16_Bytes f l = some (sumSl l : Int) := by
  simp only [g_tarnref16_Bytes, p_jn]
  refine idx_loop (fun n (s : Int) i => g_tarnref16_Bytes_l1 l f _ n s i) l.length (fun i => (sumSl (l.take i) : Int)) _ ?_ ?_ f (by omega)
  · intro n
    try simp only
    rw [g_tarnref16_Bytes_l1]
    simp only [p_lt]
    rw [dec_f (by omega), p_brf, List.take_of_length_le (Nat.le_refl _)]
  · intro n i hi
    try simp only
    rw [g_tarnref16_Bytes_l1]
    simp only [p_lt]
    have hx : l[i]? = some l[i] := List.getElem?_eq_getElem hi
    have h1 := sumSl_le (l.take i)
    have h2 := slotN_le (shN_lt (lsb (txB l[i])).length)
    have h3 : (l.take i).length ≤ i := by simp; omega
    have hsz := hs _ (List.getElem_mem hi)
    unfold RRm at hsz
    have h4 : slotN (shT l[i]) ≤ 1024 := h2
    rw [dec_t (by omega), p_brt, p_ix hx, hsz, p_bd, wr_s i (by omega), sumSl_take hi, wr_a _ _ (by omega) (by omega)]
def roomB (n : Int) : Bool := decide (1024 ≤ n ∧ n ≤ 1048576)
theorem pool_roomy (n : Int) (f : Nat) : g_pool_roomy f n = some (roomB n) := by
  simp only [g_pool_roomy, g_size_Slot, p_jn, p_lt]
  rw [dec_f (by omega), p_brf, dec_f (by omega), p_brf, p_gd (by omega), ishl128.2.2.2, p_bd, p_br]
  unfold roomB
  by_cases h1 : n ≥ 1024 <;> by_cases h2 : n ≤ 1048576 <;> simp [h1, h2] <;> omega
theorem ref16_Room (n : Int) (f : Nat) : g_tarnref16_Room f n = some (roomB n) := by
  simp only [g_tarnref16_Room, g_tarnref7_Slot, p_jn, p_lt]
  rw [p_gd (by omega), ishl128.2.2.2, p_bd, p_br]
  unfold roomB
  by_cases h1 : n ≥ 1024 <;> by_cases h2 : n ≤ 1048576 <;> simp [h1, h2] <;> omega
noncomputable def bookB (b : TBook) : Bool := roomB b.Room && (wideB b && decide ((sumSl b.Txs : Int) ≤ b.Room))
theorem wide_fine {b : TBook} (hb : WF b) (h : wideB b = true) : (∀ t ∈ b.Txs, Fine t) ∧ ∀ x ∈ b.Limbo, Fine x.Tx := by
  have hw := (wideB_iff b).1 h
  refine ⟨fun t ht => ⟨hb.txs t ht, (hw.2.2.2.2.1.1 t ht).1⟩, fun x hx => ⟨(hb.lim x hx).1, ?_⟩⟩
  have h3 := hw.2.2.1
  unfold limboB at h3
  simp only [Bool.and_eq_true] at h3
  exact ((limGo_lt _ _ h3.2).2.2 x hx).1
/-- all that a book's walk needs of the fuel -/
structure Fl (b : TBook) (f : Nat) : Prop where
  big : 1000000 ≤ f
  aT : ∀ t ∈ b.Txs, IDa f t
  aL : ∀ x ∈ b.Limbo, IDa f x.Tx
  rT : ∀ t ∈ b.Txs, IDr f t
  rL : ∀ x ∈ b.Limbo, IDr f x.Tx
  sz : wideB b = true → (∀ t ∈ b.Txs, SOf f t ∧ RRm f t ∧ RBy f t) ∧ ∀ x ∈ b.Limbo, SOf f x.Tx ∧ RRm f x.Tx ∧ RBy f x.Tx
theorem all_ev {α : Type} {P : α → Nat → Prop} : ∀ {l : List α}, (∀ x ∈ l, ∃ N, ∀ f, N ≤ f → P x f) → ∃ N, ∀ f, N ≤ f → ∀ x ∈ l, P x f
  | [], _ => ⟨0, fun f _ x hx => by cases hx⟩
  | a :: l, h => by
    obtain ⟨N, hN⟩ := h a (List.mem_cons_self ..)
    obtain ⟨M, hM⟩ := all_ev (l := l) fun x hx => h x (List.mem_cons_of_mem _ hx)
    refine ⟨max N M, fun f hf x hx => ?_⟩
    rcases List.mem_cons.1 hx with rfl | hx
    · exact hN f (by omega)
    · exact hM f (by omega) x hx
theorem Fl_ev {b : TBook} (hb : WF b) : ∃ N, ∀ f, N ≤ f → Fl b f := by
  have hu : UTs (b.Limbo.map fun x => x.Tx) := fun t ht => by
    obtain ⟨x, hx, rfl⟩ := List.mem_map.1 ht
    exact (hb.lim x hx).1
  obtain ⟨N1, h1⟩ := IDa_ev hb.txs
  obtain ⟨N2, h2⟩ := IDa_ev hu
  obtain ⟨N3, h3⟩ := IDr_ev hb.txs
  obtain ⟨N4, h4⟩ := IDr_ev hu
  have key : ∃ N, ∀ f, N ≤ f → wideB b = true → (∀ t ∈ b.Txs, SOf f t ∧ RRm f t ∧ RBy f t) ∧ ∀ x ∈ b.Limbo, SOf f x.Tx ∧ RRm f x.Tx ∧ RBy f x.Tx := by
    by_cases hw : wideB b = true
    · obtain ⟨f1, f2⟩ := wide_fine hb hw
      obtain ⟨M1, g1⟩ := all_ev (P := fun t f => SOf f t) fun t ht => SOf_ev (f1 t ht)
      obtain ⟨M2, g2⟩ := all_ev (P := fun t f => RRm f t ∧ RBy f t) fun t ht => RRm_ev (f1 t ht)
      obtain ⟨M3, g3⟩ := all_ev (P := fun (x : THeld) f => SOf f x.Tx) fun x hx => SOf_ev (f2 x hx)
      obtain ⟨M4, g4⟩ := all_ev (P := fun (x : THeld) f => RRm f x.Tx ∧ RBy f x.Tx) fun x hx => RRm_ev (f2 x hx)
      exact ⟨max (max M1 M2) (max M3 M4), fun f hf _ => ⟨fun t ht => ⟨g1 f (by omega) t ht, g2 f (by omega) t ht⟩, fun x hx => ⟨g3 f (by omega) x hx, g4 f (by omega) x hx⟩⟩⟩
    · exact ⟨0, fun f _ h => absurd h hw⟩
  obtain ⟨N5, h5⟩ := key
  refine ⟨max (max (max N1 N2) (max N3 N4)) (max N5 1000000), fun f hf => ⟨by omega, h1 f (by omega), fun x hx => h2 f (by omega) x.Tx (List.mem_map.2 ⟨x, hx, rfl⟩), h3 f (by omega), fun x hx => h4 f (by omega) x.Tx (List.mem_map.2 ⟨x, hx, rfl⟩), h5 f (by omega)⟩⟩
theorem pool_Check {b : TBook} (hb : WF b) {f : Nat} (hf : Fl b f) : g_pool_Check f b = some (if bookB b then 0 else 1) := by
  simp only [g_pool_Check, p_jn, p_lt, p_br, pool_roomy, p_bd, bookB]
  rcases Bool.eq_false_or_eq_true (roomB b.Room) with h1 | h1
  rotate_left
  · simp [h1]
  simp only [h1, Bool.not_true, Bool.false_eq_true, if_false, Bool.true_and]
  rw [pool_Wide hb hf.big hf.aT hf.aL, p_bd]
  rcases Bool.eq_false_or_eq_true (wideB b) with h2 | h2
  rotate_left
  · simp [h2]
  simp only [h2, Bool.not_true, Bool.false_eq_true, if_false, Bool.true_and]
  have hT := hb.nT
  have hbig := hf.big
  rw [pool_Slots hT (by omega) fun t ht => ((hf.sz h2).1 t ht).1, p_bd]
  by_cases h3 : (sumSl b.Txs : Int) > b.Room
  · have h4 : ¬ ((sumSl b.Txs : Int) ≤ b.Room) := by omega
    simp [h3, h4]
  · have h4 : ((sumSl b.Txs : Int) ≤ b.Room) := by omega
    simp [h3, h4]
theorem ref16_Book {b : TBook} (hb : WF b) {f : Nat} (hf : Fl b f) : g_tarnref16_Book f b = some (bookB b) := by
  simp only [g_tarnref16_Book, p_jn, p_lt, p_br, bookB]
  rw [ref16_Wide hb hf.big hf.rT hf.rL, p_bd, ref16_Room, p_bd]
  rcases Bool.eq_false_or_eq_true (wideB b) with h2 | h2
  rotate_left
  · simp [h2]
  rcases Bool.eq_false_or_eq_true (roomB b.Room) with h1 | h1
  rotate_left
  · simp [h1]
  simp only [h1, h2, if_true, Bool.true_and]
  have hT := hb.nT
  have hbig := hf.big
  rw [ref16_Bytes hT (by omega) fun t ht => ((hf.sz h2).1 t ht).2.1, p_bd]
/-! counting -/
def bump (s : List Int) (k : Nat) : List Int := s.set k (s[k]?.getD 0 + 1)
def cnt (l : List Nat) (s : List Int) : List Int := l.foldl bump s
theorem bump_len (s : List Int) (k : Nat) : (bump s k).length = s.length := by simp [bump]
theorem cnt_len : ∀ (l : List Nat) (s : List Int), (cnt l s).length = s.length
  | [], s => rfl
  | k :: l, s => by show (cnt l (bump s k)).length = _; rw [cnt_len l, bump_len]
theorem cnt_left : ∀ (l : List Nat) (a b : List Int), (∀ k ∈ l, k < a.length) → cnt l (a ++ b) = cnt l a ++ b
  | [], a, b, _ => rfl
  | k :: l, a, b, h => by
    have hk := h k (List.mem_cons_self ..)
    have e : bump (a ++ b) k = bump a k ++ b := by
      unfold bump
      rw [List.set_append_left _ _ hk, List.getElem?_append_left hk]
    show cnt l (bump (a ++ b) k) = cnt l (bump a k) ++ b
    rw [e, cnt_left l _ b fun j hj => by rw [bump_len]; exact h j (List.mem_cons_of_mem _ hj)]
theorem cnt_right : ∀ (l : List Nat) (a b : List Int), cnt (l.map (fun k => a.length + k)) (a ++ b) = a ++ cnt l b
  | [], a, b => rfl
  | k :: l, a, b => by
    have e : bump (a ++ b) (a.length + k) = a ++ bump b k := by
      unfold bump
      rw [List.set_append_right _ _ (by omega), List.getElem?_append_right (by omega), Nat.add_sub_cancel_left]
    show cnt (l.map _) (bump (a ++ b) (a.length + k)) = a ++ cnt l (bump b k)
    rw [e, cnt_right l a]
/-- how much is counted is no more than who was counted -/
theorem cnt_le : ∀ (l : List Nat) (s : List Int) (m : Int), (∀ x ∈ s, 0 ≤ x ∧ x ≤ m) → ∀ x ∈ cnt l s, 0 ≤ x ∧ x ≤ m + l.length
  | [], s, m, h => fun x hx => by have := h x hx; simp; omega
  | k :: l, s, m, h => fun x hx => by
    have hb : ∀ x ∈ bump s k, 0 ≤ x ∧ x ≤ m + 1 := by
      intro y hy
      unfold bump at hy
      by_cases hk : k < s.length
      · rcases List.mem_or_eq_of_mem_set hy with hy | rfl
        · have := h y hy; omega
        · have := h s[k] (List.getElem_mem _)
          rw [List.getElem?_eq_getElem hk]
          simp only [Option.getD_some]
          omega
      · rw [List.set_eq_of_length_le (by omega)] at hy
        have := h y hy; omega
    have := cnt_le l (bump s k) (m + 1) hb x hx
    simp only [List.length_cons]
    omega
end Go.Proofs
