/- The page's chains. -/
import Derived.Test.YtcbjobfklcefpaaGreatLT
import Derived.Test.YtcbjobfklcefpaaGreatY4
set_option linter.unusedVariables false
set_option linter.unusedSimpArgs false
set_option maxRecDepth 100000
set_option maxHeartbeats 2000000
namespace Go.Proofs
open Gw
theorem p_ix0 {α β : Type} {l : List α} {x : α} (h : l[0]? = some x) (f : α → Option β) : gd ((0 : Int) ≤ 0 ∧ (0 : Int) < ((l.length : Nat) : Int)) (bd (l[Int.toNat 0]?) f) = f x := p_ix (i := 0) h f
theorem CopyMarks_ok {l : List Int} (hl : l.length < 1000000) {f : Nat} (hf : l.length < f) : g_tarnref0_CopyMarks f l = some l := by
  simp only [g_tarnref0_CopyMarks, p_jn]
  refine idx_loop (fun n (s : List Int) i => g_tarnref0_CopyMarks_l1 l _ f n s i) l.length (fun i => l.take i) _ ?_ ?_ f hf
  · intro n
    try simp only
    rw [g_tarnref0_CopyMarks_l1]
    simp only [p_lt]
    rw [dec_f (by omega), p_brf, List.take_of_length_le (Nat.le_refl _)]
  · intro n i hi
    try simp only
    rw [g_tarnref0_CopyMarks_l1]
    simp only [p_lt]
    have hx : l[i]? = some l[i] := List.getElem?_eq_getElem hi
    rw [dec_t (by omega), p_brt, p_ix hx, p_gd (by simp; omega), wr_s i (by omega), List.take_append_getElem hi]
theorem CopyStrings_ok {l : List ByteArray} (hl : l.length < 1000000) {f : Nat} (hf : l.length < f) : g_tarnref0_CopyStrings f l = some l := by
  simp only [g_tarnref0_CopyStrings, p_jn]
  refine idx_loop (fun n (s : List ByteArray) i => g_tarnref0_CopyStrings_l1 l _ f n s i) l.length (fun i => l.take i) _ ?_ ?_ f hf
  · intro n
    try simp only
    rw [g_tarnref0_CopyStrings_l1]
    simp only [p_lt]
    rw [dec_f (by omega), p_brf, List.take_of_length_le (Nat.le_refl _)]
  · intro n i hi
    try simp only
    rw [g_tarnref0_CopyStrings_l1]
    simp only [p_lt]
    have hx : l[i]? = some l[i] := List.getElem?_eq_getElem hi
    rw [dec_t (by omega), p_brt, p_ix hx, p_gd (by simp; omega), wr_s i (by omega), List.take_append_getElem hi]
/-- not too much -/
def Sm (t : TTx) : Prop := t.Hashes.length < 100000 ∧ t.Blobs.length < 100000
theorem CopyTx_ok {t : TTx} (h : Sm t) {f : Nat} (hf : 100000 ≤ f) : g_tarnref0_CopyTx f t = some t := by
  obtain ⟨h1, h2⟩ := h
  simp only [g_tarnref0_CopyTx, CopyMarks_ok (l := t.Hashes) (by omega) (show t.Hashes.length < f by omega), CopyStrings_ok (l := t.Blobs) (by omega) (show t.Blobs.length < f by omega), p_bd, p_jn, p_lt]
def ofS (l : List TTx) (a : Int) : List TTx := l.filter (fun t => t.From == a)
theorem ref16_Of {l : List TTx} (hs : ∀ t ∈ l, Sm t) (hl : l.length < 100000) (a : Int) {f : Nat} (hf : 100000 ≤ f) : g_tarnref16_Of f l a = some (ofS l a) := by
  simp only [g_tarnref16_Of, p_jn]
  refine idx_loop (fun n (s : List TTx) i => g_tarnref16_Of_l1 l a f _ n s i) l.length (fun i => ofS (l.take i) a) _ ?_ ?_ f (by omega)
  · intro n
    try simp only
    rw [g_tarnref16_Of_l1]
    simp only [p_lt]
    rw [dec_f (by omega), p_brf, List.take_of_length_le (Nat.le_refl _)]
  · intro n i hi
    try simp only
    rw [g_tarnref16_Of_l1]
    simp only [p_lt, p_jn]
    have hx : l[i]? = some l[i] := List.getElem?_eq_getElem hi
    have hle : (ofS (l.take i) a).length ≤ i := Nat.le_trans (List.length_filter_le _ _) (by simp; omega)
    rw [dec_t (by omega), p_brt, p_ix hx, p_br, wr_s i (by omega), ← List.take_append_getElem hi]
    have e : ofS (l.take i ++ [l[i]]) a = ofS (l.take i) a ++ if l[i].From == a then [l[i]] else [] := by
      unfold ofS; rw [List.filter_append, List.filter_cons, List.filter_nil]
    rw [e]
    by_cases h : (l[i].From == a) = true
    · rw [if_pos h, if_pos h, p_ix hx, CopyTx_ok (hs _ (List.getElem_mem _)) hf, p_bd, p_gd (by simp; omega)]
    · rw [if_neg h, if_neg h, List.append_nil]
theorem ref7_Txs {l : List TTx} (hu : UTs l) (hl : l.length < 100000) {f : Nat} (hf : 100000 ≤ f) : g_tarnref7_Txs f l = some (l.all txOK) := by
  simp only [g_tarnref7_Txs, p_jn]
  have e := for_all (fun n (_ : Unit) i => g_tarnref7_Txs_l1 l f (some true) n i) l (fun i t _ => if txOK t then .inr () else .inl false) (fun _ => some true)
    (fun n _ => by
      simp only [g_tarnref7_Txs_l1, p_lt]
      rw [dec_f (by omega), p_brf])
    (fun n _ i x hx hi => by
      simp only [g_tarnref7_Txs_l1, p_lt]
      rw [dec_t (by omega), p_brt, p_ix hx, ref7_Tx (hu x (List.mem_of_getElem? hx)) f (by omega), p_bd, wr_s i (by omega), p_br]
      cases txOK x <;> rfl) f () (by omega)
  rw [e, runl_chk, zip_all txOK]
  cases l.all txOK <;> rfl
theorem rspent_l1 {l : List TTx} (hu : UTs l) (hn4 : ∀ t ∈ l, n4 t) (hl : l.length < 100000) {f : Nat} (hf : 20 ≤ f) : ∀ (k i n : Nat) (s : TU256), U s → i + k = l.length → k < n →
    g_tarnref14_Spent_l1 l f (fun x8 x9 x10 x11 => some (TU256.mk x8 x9 x10 x11, true)) n s.e0 s.e1 s.e2 s.e3 (i : Int) = some (match sumS (l.drop i) s with | some r => (r, true) | none => (oU, false)) := by
  intro k
  induction k with
  | zero =>
    intro i n s hs hk hn
    obtain ⟨n, rfl⟩ : ∃ m, n = m + 1 := ⟨n - 1, by omega⟩
    rw [g_tarnref14_Spent_l1]
    simp only [p_lt]
    rw [dec_f (by omega), p_brf, List.drop_of_length_le (by omega)]; rfl
  | succ k ih =>
    intro i n s hs hk hn
    obtain ⟨n, rfl⟩ : ∃ m, n = m + 1 := ⟨n - 1, by omega⟩
    have hi : i < l.length := by omega
    have hx : l[i]? = some l[i] := List.getElem?_eq_getElem hi
    rw [g_tarnref14_Spent_l1]
    simp only [p_lt]
    obtain ⟨g, rfl⟩ : ∃ g, f = g + 5 := ⟨f - 5, by omega⟩
    rw [dec_t (by omega), p_brt, p_ix hx, ref7_Cost (hu _ (List.getElem_mem _)) (hn4 _ (List.getElem_mem _)) (g + 5) (by omega), p_bd, wr_s i (by omega)]
    have hs' : (TU256.mk s.e0 s.e1 s.e2 s.e3) = s := rfl
    rw [hs', ref1_Add hs (costS_U l[i]) g, p_bd, List.drop_eq_getElem_cons hi, sumS]
    by_cases ha : (addS s (costS l[i]).1).2 = 0
    · rw [if_pos ha]
      simp only [okB, ha]
      rw [show (!((0 : Int) == 0)) = false from rfl, p_brf]
      exact ih (i + 1) n _ (addS_U _ _) (by omega) (by omega)
    · rw [if_neg ha]
      simp only [okB]
      rw [show (!((addS s (costS l[i]).1).2 == 0)) = true by simp [ha], p_brt]; rfl
theorem ref14_Spent {l : List TTx} (hu : UTs l) (hn4 : ∀ t ∈ l, n4 t) (hl : l.length < 100000) {f : Nat} (hf : 100020 ≤ f) :
    g_tarnref14_Spent f l = some (match sumS l oU with | some r => (r, true) | none => (oU, false)) := by
  simp only [g_tarnref14_Spent, p_jn]
  have := rspent_l1 hu hn4 hl (f := f) (by omega) l.length 0 f oU oU_U (by omega) (by omega)
  simp only [List.drop_zero] at this
  exact this
theorem ok_n4 {t : TTx} (h : txOK t = true) : n4 t := fits_n4 (of_decide_eq_true h).2.2.2.2.1
noncomputable def chainB (l : List TTx) : Bool := @decide (ChainP l) (Classical.propDecidable _)
theorem chainB_iff (l : List TTx) : chainB l = true ↔ ChainP l := by unfold chainB; exact @decide_eq_true_iff _ (Classical.propDecidable _)
theorem ref14_Chain {l : List TTx} (hu : UTs l) (hl : l.length < 100000) {f : Nat} (hf : 100020 ≤ f) : g_tarnref14_Chain f l = some (chainB l) := by
  simp only [g_tarnref14_Chain, p_lt, p_jn, p_br]
  have hno : ¬ ChainP l → chainB l = false := fun h => by
    cases e : chainB l
    · rfl
    · exact absurd ((chainB_iff l).1 e) h
  by_cases h6 : 6 < l.length
  · rw [if_pos (dec_t (by omega)), hno fun h => by have := h.1; omega]; rfl
  rw [if_neg (by simp; omega), ref7_Txs hu hl (by omega), p_bd]
  by_cases hall : l.all txOK = true
  rotate_left
  · rw [hno fun h => hall (List.all_eq_true.2 h.2.1)]
    have e : l.all txOK = false := by simpa using hall
    rw [e]; rfl
  rw [hall]
  simp only [Bool.not_true]
  rw [if_neg (by simp)]
  have hok := List.all_eq_true.1 hall
  rw [ref14_Spent hu (fun t ht => ok_n4 (hok t ht)) hl hf, p_bd]
  -- the links
  have loop : ∀ (k i n : Nat) (R : Option Bool), 1 ≤ i → i + k = max 1 l.length → k < n →
      ((∀ j x y z, i ≤ j + 1 → l[0]? = some z → l[j]? = some x → l[j + 1]? = some y → y.From = z.From ∧ y.Nonce = x.Nonce + 1) → g_tarnref14_Chain_l1 l R f n (i : Int) = R) ∧
      (¬ (∀ j x y z, i ≤ j + 1 → l[0]? = some z → l[j]? = some x → l[j + 1]? = some y → y.From = z.From ∧ y.Nonce = x.Nonce + 1) → g_tarnref14_Chain_l1 l R f n (i : Int) = some false) := by
    intro k
    induction k with
    | zero =>
      intro i n R hi1 hk hn
      obtain ⟨n, rfl⟩ : ∃ m, n = m + 1 := ⟨n - 1, by omega⟩
      have e : ∀ j x y z, i ≤ j + 1 → l[0]? = some z → l[j]? = some x → l[j + 1]? = some y → y.From = z.From ∧ y.Nonce = x.Nonce + 1 := by
        intro j x y z hj _ _ hy
        have := (List.getElem?_eq_some_iff.1 hy).1; omega
      refine ⟨fun _ => ?_, fun h => absurd e h⟩
      rw [g_tarnref14_Chain_l1]
      simp only [p_lt]
      rw [dec_f (by omega), p_brf]
    | succ k ih =>
      intro i n R hi1 hk hn
      obtain ⟨n, rfl⟩ : ∃ m, n = m + 1 := ⟨n - 1, by omega⟩
      have hi : i < l.length := by omega
      have hx : l[i]? = some l[i] := List.getElem?_eq_getElem hi
      have h00 : l[0]? = some l[0] := List.getElem?_eq_getElem (by omega)
      have hp : l[i - 1]? = some l[i - 1] := List.getElem?_eq_getElem (by omega)
      rw [g_tarnref14_Chain_l1]
      simp only [p_lt, p_jn]
      have g0 : (0 : Int) ≤ 0 ∧ (0 : Int) < ((l.length : Nat) : Int) := by omega
      rw [dec_t (by omega), p_brt, p_ix hx, p_ix0 h00, wr_s i (by omega)]
      by_cases hf1 : l[i].From = l[0].From
      rotate_left
      · refine ⟨fun h => absurd (h (i - 1) _ _ _ (by omega) h00 hp (by rw [show i - 1 + 1 = i by omega]; exact hx)).1 hf1, fun _ => ?_⟩
        rw [show (l[i].From != l[0].From) = true by simp [hf1], p_brt, p_brt]
      have hr := (of_decide_eq_true (hok l[i - 1] (List.getElem_mem _))).2.1
      have hw : wr .i64 (l[i - 1].Nonce + 1) = l[i - 1].Nonce + 1 := wr_i _ (by omega) (by omega)
      rw [show (l[i].From != l[0].From) = false by simp [hf1], p_brf, p_ix hx, wr_p i (by omega) (by omega), p_ix hp, hw]
      by_cases hnn : l[i].Nonce = l[i - 1].Nonce + 1
      rotate_left
      · refine ⟨fun h => absurd (h (i - 1) _ _ _ (by omega) h00 hp (by rw [show i - 1 + 1 = i by omega]; exact hx)).2 hnn, fun _ => ?_⟩
        rw [show (l[i].Nonce != l[i - 1].Nonce + 1) = true by simp [hnn], p_brt]
      rw [show (l[i].Nonce != l[i - 1].Nonce + 1) = false by simp [hnn], p_brf]
      have e : (∀ j x y z, i ≤ j + 1 → l[0]? = some z → l[j]? = some x → l[j + 1]? = some y → y.From = z.From ∧ y.Nonce = x.Nonce + 1) ↔ (∀ j x y z, i + 1 ≤ j + 1 → l[0]? = some z → l[j]? = some x → l[j + 1]? = some y → y.From = z.From ∧ y.Nonce = x.Nonce + 1) := by
        constructor
        · exact fun h j x y z hj => h j x y z (by omega)
        · intro h j x y z hj hz hx' hy
          by_cases e : j + 1 = i
          · have ej : j = i - 1 := by omega
            rw [e] at hy
            rw [ej] at hx'
            rw [h00] at hz; rw [hp] at hx'; rw [hx] at hy
            cases hz; cases hx'; cases hy
            exact ⟨hf1, hnn⟩
          · exact h j x y z (by omega) hz hx' hy
      rw [e]
      exact ih (i + 1) n R (by omega) (by omega) (by omega)
  have hl2 := loop (max 1 l.length - 1) 1 f (some (match sumS l oU with | some r => (r, true) | none => (oU, false)).2) (Nat.le_refl _) (by omega) (by omega)
  have e0 : (∀ j x y z, 1 ≤ j + 1 → l[0]? = some z → l[j]? = some x → l[j + 1]? = some y → y.From = z.From ∧ y.Nonce = x.Nonce + 1) ↔ Lnk l := by
    unfold Lnk
    constructor
    · exact fun h i x y z => h i x y z (by omega)
    · exact fun h j x y z _ => h j x y z
  rw [e0] at hl2
  by_cases hk : Lnk l
  · refine Eq.trans (hl2.1 hk) ?_
    cases hs : sumS l oU with
    | none =>
      rw [hno fun h => by have := h.2.2.2; rw [hs] at this; cases this]
    | some r =>
      rw [(chainB_iff l).2 ⟨by omega, hok, hk, by rw [hs]; rfl⟩]
  · refine Eq.trans (hl2.2 hk) ?_
    rw [hno fun h => hk h.2.2.1]
/-! covered -/
def okc (l : List TTx) (bal : TU256) : Bool := match sumS l oU with | some r => decide (cU r bal ≤ 0) | none => false
def covGo (l : List TTx) (bal : TU256) : Nat → Nat
  | 0 => 0
  | n + 1 => if okc (l.take (n + 1)) bal then n + 1 else covGo l bal n
def covS (l : List TTx) (bal : TU256) : Nat := covGo l bal l.length
theorem ref14_Covered {l : List TTx} (hu : UTs l) (hn4 : ∀ t ∈ l, n4 t) (hl : l.length < 100000) (bal : TU256) {f : Nat} (hf : 100020 ≤ f) : g_tarnref14_Covered f l bal = some ((covS l bal : Nat) : Int) := by
  simp only [g_tarnref14_Covered, p_jn]
  have : ∀ (k n : Nat), k ≤ l.length → k < n → g_tarnref14_Covered_l1 l f bal (some 0) n (k : Int) = some ((covGo l bal k : Nat) : Int) := by
    intro k
    induction k with
    | zero =>
      intro n hk hn
      obtain ⟨n, rfl⟩ : ∃ m, n = m + 1 := ⟨n - 1, by omega⟩
      rw [g_tarnref14_Covered_l1]
      simp only [p_lt]
      rw [dec_f (by omega), p_brf]; rfl
    | succ k ih =>
      intro n hk hn
      obtain ⟨n, rfl⟩ : ∃ m, n = m + 1 := ⟨n - 1, by omega⟩
      rw [g_tarnref14_Covered_l1]
      simp only [p_lt, p_jn]
      rw [dec_t (by omega), p_brt, p_gd (by omega), Int.toNat_natCast, ref14_Spent (fun t ht => hu t (List.mem_of_mem_take ht)) (fun t ht => hn4 t (List.mem_of_mem_take ht)) (by simp; omega) hf, p_bd, wr_p (k + 1) (by omega) (by omega), Nat.add_sub_cancel]
      unfold covGo okc
      cases hs : sumS (l.take (k + 1)) oU with
      | none =>
        simp only
        rw [p_brf, p_brf, if_neg (by simp)]
        exact ih n (by omega) (by omega)
      | some r =>
        simp only
        obtain ⟨g, rfl⟩ : ∃ g, f = g + 5 := ⟨f - 5, by omega⟩
        rw [p_brt, ref1_Cmp, p_bd, p_br]
        by_cases h : cU r bal ≤ 0
        · rw [if_pos (dec_t h), if_pos (dec_t h)]
        · rw [if_neg (by simpa using h), if_neg (by simpa using h)]
          exact ih n (by omega) (by omega)
  exact this l.length f (Nat.le_refl _) (by omega)
theorem covGo_le (l : List TTx) (bal : TU256) : ∀ n, covGo l bal n ≤ n
  | 0 => Nat.le_refl _
  | n + 1 => by
    unfold covGo
    split
    · exact Nat.le_refl _
    · exact Nat.le_trans (covGo_le l bal n) (by omega)
theorem covS_all (l : List TTx) (bal : TU256) : covS l bal = l.length ↔ l = [] ∨ okc l bal = true := by
  unfold covS
  cases l with
  | nil => simp [covGo]
  | cons a t =>
    simp only [List.length_cons, reduceCtorEq, false_or]
    unfold covGo
    have e : (a :: t).take (t.length + 1) = a :: t := List.take_of_length_le (by simp)
    rw [e]
    by_cases h : okc (a :: t) bal = true
    · simp [h]
    · have := covGo_le (a :: t) bal t.length
      simp only [h]
      constructor
      · intro g; simp at g; omega
      · intro g; exact absurd g (by simp)
end Go.Proofs
