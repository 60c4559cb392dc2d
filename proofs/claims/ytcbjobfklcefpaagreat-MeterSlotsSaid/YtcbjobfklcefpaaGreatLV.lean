/- Which books may be: limbo, chains of accounts. -/
import Derived.Test.YtcbjobfklcefpaaGreatLU
import Derived.Test.YtcbjobfklcefpaaGreatY4
set_option linter.unusedVariables false
set_option linter.unusedSimpArgs false
set_option maxRecDepth 100000
set_option maxHeartbeats 200000
namespace Go.Proofs
open Gw
attribute [local irreducible] idS txOK markS txB bytesL
def UHs (l : List THeld) : Prop := ∀ x ∈ l, UT x.Tx ∧ I1 x.Block
def blkB (x : THeld) : Bool := decide (0 ≤ x.Block ∧ x.Block ≤ 1099511627776)
def prv : Option Int → Int → Bool
  | none, _ => true
  | some q, v => decide (q < v)
def limGo : Option Int → List THeld → Bool
  | _, [] => true
  | p, x :: t => txOK x.Tx && (prv p (idS x.Tx) && (blkB x && limGo (some (idS x.Tx)) t))
def limboB (l : List THeld) : Bool := decide (l.length ≤ 48) && limGo none l
/-- at this fuel the IDs of these are known -/
def IDa (f : Nat) (t : TTx) : Prop := g_tx_ID f t = some (if txOK t then (idS t, 0) else (0, 1))
def IDr (f : Nat) (t : TTx) : Prop := txOK t = true → g_tarnref7_ID f t = some (idS t)
theorem IDa_ev {l : List TTx} (hu : UTs l) : ∃ N, ∀ f, N ≤ f → ∀ t ∈ l, IDa f t := Ev.all (F := fun f t => g_tx_ID f t) (s := fun t => if txOK t then (idS t, 0) else (0, 1)) fun t ht => tx_ID (hu t ht)
theorem IDr_ev : ∀ {l : List TTx} (hu : UTs l), ∃ N, ∀ f, N ≤ f → ∀ t ∈ l, IDr f t
  | [], _ => ⟨0, fun f _ t ht => by cases ht⟩
  | a :: l, hu => by
    obtain ⟨N, hN⟩ := IDr_ev (l := l) fun t ht => hu t (List.mem_cons_of_mem _ ht)
    by_cases h : txOK a = true
    · obtain ⟨M, hM⟩ := ref7_ID ⟨hu a (List.mem_cons_self ..), h⟩
      refine ⟨max N M, fun f hf t ht => ?_⟩
      rcases List.mem_cons.1 ht with rfl | ht
      · exact fun _ => hM f (by omega)
      · exact hN f (by omega) t ht
    · refine ⟨N, fun f hf t ht => ?_⟩
      rcases List.mem_cons.1 ht with rfl | ht
      · exact fun g => absurd g h
      · exact hN f hf t ht
theorem lim_l1 {l : List THeld} (hl : l.length < 100000) {f : Nat} (hid : ∀ x ∈ l, IDa f x.Tx) : ∀ (k i n : Nat) (last : Int), i + k = l.length → k < n →
    g_pool_Limbo_l1 l f (some true) n last (i : Int) = some (limGo (if i = 0 then none else some last) (l.drop i)) := by
  intro k
  induction k with
  | zero =>
    intro i n last hk hn
    obtain ⟨n, rfl⟩ : ∃ m, n = m + 1 := ⟨n - 1, by omega⟩
    rw [g_pool_Limbo_l1]
    simp only [p_lt]
    rw [dec_f (by omega), p_brf, List.drop_of_length_le (by omega)]; simp [limGo]
  | succ k ih =>
    intro i n last hk hn
    obtain ⟨n, rfl⟩ : ∃ m, n = m + 1 := ⟨n - 1, by omega⟩
    have hi : i < l.length := by omega
    have hx : l[i]? = some l[i] := List.getElem?_eq_getElem hi
    rw [g_pool_Limbo_l1]
    simp only [p_lt, p_jn, p_br]
    rw [if_pos (dec_t (by omega)), p_ix hx, hid _ (List.getElem_mem _), p_bd, wr_s i (by omega), List.drop_eq_getElem_cons hi, limGo]
    by_cases hok : txOK l[i].Tx = true
    rotate_left
    · rw [if_neg hok]
      have e : txOK l[i].Tx = false := by simpa using hok
      rw [e]; simp
    rw [if_pos hok, hok]
    simp only [Bool.true_and, bne_self_eq_false, Bool.false_eq_true, if_false]
    have ih' := ih (i + 1) n (idS l[i].Tx) (by omega) (by omega)
    rw [if_neg (show ¬ (i + 1 = 0) by omega)] at ih'
    by_cases h0 : i = 0
    · subst h0
      rw [if_neg (by simp), if_pos rfl]
      simp only [prv, Bool.true_and]
      by_cases hb1 : l[0].Block < 0
      · rw [if_pos (dec_t hb1)]
        have e : blkB l[0] = false := dec_f (by omega)
        rw [e]; simp
      · rw [if_neg (by simpa using hb1)]
        by_cases hb2 : l[0].Block > 1099511627776
        · rw [dec_t hb2]
          have e : blkB l[0] = false := dec_f (by omega)
          rw [e]; simp
        · rw [dec_f hb2]
          have e : blkB l[0] = true := dec_t (by omega)
          rw [e, Bool.true_and]
          simp only [Bool.false_eq_true, if_false]
          exact ih'
    · have hi0 : (i : Int) > 0 := by omega
      simp only [dec_t hi0, h0, if_true, if_false, prv]
      by_cases hlt : last < idS l[i].Tx
      · rw [if_neg (by simpa using hlt), dec_t hlt, Bool.true_and]
        by_cases hb1 : l[i].Block < 0
        · rw [if_pos (dec_t hb1)]
          have e : blkB l[i] = false := dec_f (by omega)
          rw [e]; simp
        · rw [if_neg (by simpa using hb1)]
          by_cases hb2 : l[i].Block > 1099511627776
          · rw [dec_t hb2]
            have e : blkB l[i] = false := dec_f (by omega)
            rw [e]; simp
          · rw [dec_f hb2]
            have e : blkB l[i] = true := dec_t (by omega)
            rw [e, Bool.true_and]
            simp only [Bool.false_eq_true, if_false]
            exact ih'
      · rw [if_pos (dec_t (by omega)), dec_f hlt]; simp
theorem pool_Limbo {l : List THeld} (hl : l.length < 100000) {f : Nat} (hf : l.length < f) (hid : ∀ x ∈ l, IDa f x.Tx) : g_pool_Limbo f l = some (limboB l) := by
  simp only [g_pool_Limbo, p_lt, p_br, p_jn, limboB]
  by_cases h : l.length ≤ 48
  · rw [if_neg (by simp; omega), dec_t h, Bool.true_and]
    have := lim_l1 hl hid l.length 0 f 0 (by omega) hf
    rw [if_pos rfl] at this
    simpa using this
  · rw [if_pos (dec_t (by omega)), dec_f h]; rfl
theorem rlim_l1 {l : List THeld} (hu : UHs l) (hl : l.length < 100000) {f : Nat} (hf : 100 ≤ f) (hid : ∀ x ∈ l, IDr f x.Tx) (R : Option Bool) : ∀ (k i n : Nat), i + k = l.length → k < n → (∀ j x, j < i → l[j]? = some x → txOK x.Tx = true) →
    g_tarnref16_Limbo_l1 l f R n (i : Int) = if limGo (if i = 0 then none else (l[i - 1]?).map (fun x => idS x.Tx)) (l.drop i) then R else some false := by
  intro k
  induction k with
  | zero =>
    intro i n hk hn hp
    obtain ⟨n, rfl⟩ : ∃ m, n = m + 1 := ⟨n - 1, by omega⟩
    rw [g_tarnref16_Limbo_l1]
    simp only [p_lt]
    rw [dec_f (by omega), p_brf, List.drop_of_length_le (by omega)]; simp [limGo]
  | succ k ih =>
    intro i n hk hn hp
    obtain ⟨n, rfl⟩ : ∃ m, n = m + 1 := ⟨n - 1, by omega⟩
    have hi : i < l.length := by omega
    have hx : l[i]? = some l[i] := List.getElem?_eq_getElem hi
    obtain ⟨hut, hbl⟩ := hu l[i] (List.getElem_mem _)
    rw [g_tarnref16_Limbo_l1]
    simp only [p_lt, p_jn, p_br]
    rw [if_pos (dec_t (by omega)), p_ix hx, ref7_Tx hut f hf, p_bd, wr_s i (by omega), List.drop_eq_getElem_cons hi, limGo]
    by_cases hok : txOK l[i].Tx = true
    rotate_left
    · have e : txOK l[i].Tx = false := by simpa using hok
      rw [e]; simp
    rw [hok]
    simp only [Bool.true_and, Bool.not_true, Bool.false_eq_true, if_false]
    rw [p_ix hx, ref0_Num, p_bd]
    have eb : decide (0 ≤ l[i].Block ∧ l[i].Block ≤ 1099511627776) = blkB l[i] := rfl
    rw [eb]
    have ih' := ih (i + 1) n (by omega) (by omega) (fun j x hj hjx => by
      by_cases e : j = i
      · subst e; rw [hx] at hjx; cases hjx; exact hok
      · exact hp j x (by omega) hjx)
    rw [if_neg (show ¬ (i + 1 = 0) by omega), Nat.add_sub_cancel, hx] at ih'
    simp only [Option.map_some] at ih'
    cases hb : blkB l[i] with
    | false => simp
    | true =>
      simp only [Bool.not_true, Bool.false_eq_true, if_false, Bool.true_and]
      by_cases h0 : i = 0
      · subst h0
        rw [if_neg (by simp), if_pos rfl]
        simp only [prv, Bool.true_and]
        exact ih'
      · have hp1 : l[i - 1]? = some l[i - 1] := List.getElem?_eq_getElem (by omega)
        have hi0 : (i : Int) > 0 := by omega
        simp only [dec_t hi0, h0, if_true, if_false]
        rw [wr_p i (by omega) (by omega), p_ix hp1, hid _ (List.getElem_mem _) (hp (i - 1) _ (by omega) hp1), p_bd, p_ix hx, hid _ (List.getElem_mem _) hok, p_bd, hp1]
        simp only [Option.map_some, prv]
        by_cases hlt : idS l[i - 1].Tx < idS l[i].Tx
        · have hng : ¬ (idS l[i - 1].Tx ≥ idS l[i].Tx) := by omega
          simp only [dec_f hng, dec_t hlt, Bool.true_and, Bool.false_eq_true, if_false]
          exact ih'
        · have hge : idS l[i - 1].Tx ≥ idS l[i].Tx := by omega
          simp only [dec_t hge, dec_f hlt, if_true, Bool.false_and, Bool.false_eq_true, if_false]
theorem ref16_Limbo {l : List THeld} (hu : UHs l) (hl : l.length < 100000) {f : Nat} (hf : 100000 ≤ f) (hid : ∀ x ∈ l, IDr f x.Tx) : g_tarnref16_Limbo f l = some (limboB l) := by
  simp only [g_tarnref16_Limbo, p_lt, p_jn, limboB]
  have := rlim_l1 hu hl (f := f) (by omega) hid (some (decide (((l.length : Nat) : Int) ≤ 48))) l.length 0 f (by omega) (by omega) (fun j x hj => by omega)
  have h2 : g_tarnref16_Limbo_l1 l f (some (decide (((l.length : Nat) : Int) ≤ 48))) f 0 = _ := this
  rw [h2, if_pos rfl, List.drop_zero]
  have e : decide (((l.length : Nat) : Int) ≤ 48) = decide (l.length ≤ 48) := decide_eq_decide.2 (by omega)
  rw [e]
  cases limGo none l <;> simp
theorem limGo_lt : ∀ (l : List THeld) (p : Option Int), limGo p l = true → (l.map fun x => idS x.Tx).Pairwise (fun a b => a < b) ∧ (∀ q, p = some q → ∀ x ∈ l, q < idS x.Tx) ∧ ∀ x ∈ l, txOK x.Tx = true ∧ blkB x = true
  | [], p, _ => by simp
  | x :: t, p, h => by
    unfold limGo at h
    simp only [Bool.and_eq_true] at h
    obtain ⟨h1, h2, h3, h4⟩ := h
    obtain ⟨g1, g2, g3⟩ := limGo_lt t _ h4
    refine ⟨?_, ?_, ?_⟩
    · rw [List.map_cons, List.pairwise_cons]
      refine ⟨fun b hb => ?_, g1⟩
      simp only [List.mem_map] at hb
      obtain ⟨y, hy, rfl⟩ := hb
      exact g2 _ rfl y hy
    · intro q hq y hy
      subst hq
      have h2' := of_decide_eq_true h2
      rcases List.mem_cons.1 hy with rfl | hy
      · exact h2'
      · have := g2 _ rfl y hy; omega
    · intro y hy
      rcases List.mem_cons.1 hy with rfl | hy
      · exact ⟨h1, h3⟩
      · exact g3 y hy
/-! heads and accounts -/
def headB (h : THead) : Bool := decide ((0 ≤ h.Number ∧ h.Number ≤ 1099511627776) ∧ (0 ≤ h.Excess ∧ h.Excess ≤ 1099511627776))
theorem pool_Head (h : THead) (f : Nat) : g_pool_Head f h = some (headB h) := by
  simp only [g_pool_Head, p_lt, p_jn, p_br, headB]
  by_cases h1 : h.Number ≥ 0 <;> by_cases h2 : h.Number ≤ 1099511627776 <;> by_cases h3 : h.Excess ≥ 0 <;> by_cases h4 : h.Excess ≤ 1099511627776 <;> simp [h1, h2, h3, h4] <;> omega
theorem ref16_Head (h : THead) (f : Nat) : g_tarnref16_Head f h = some (headB h) := by
  simp only [g_tarnref16_Head, p_lt, p_jn, p_br, headB, ref0_Num, p_bd]
  by_cases h1 : (0 ≤ h.Number ∧ h.Number ≤ 1099511627776) <;> simp [h1]
def nonB (a : TAcct) : Bool := decide (0 ≤ a.Nonce ∧ a.Nonce ≤ 1099511627776)
def acctsB (l : List TAcct) : Bool := decide (l.length = 8) && l.all nonB
theorem IndexFunc_ok {l : List TAcct} (hl : l.length < 1000000000000000) (q : TAcct → Option Bool) (p : TAcct → Bool) (hq : ∀ x ∈ l, q x = some (p x)) {f : Nat} (hf : l.length < f) : ∃ r : Int, g_sIdx f l q = some r ∧ (decide (r ≥ 0) = l.any p) := by
  simp only [g_sIdx, p_jn]
  have go : ∀ (k i n : Nat), i + k = l.length → k < n → ∃ r : Int, g_sIdx_l1 l q (some (-1)) f n (i : Int) = some r ∧ (decide (r ≥ 0) = (l.drop i).any p) := by
    intro k
    induction k with
    | zero =>
      intro i n hk hn
      obtain ⟨n, rfl⟩ : ∃ m, n = m + 1 := ⟨n - 1, by omega⟩
      rw [g_sIdx_l1]
      simp only [p_lt]
      rw [dec_f (by omega), p_brf, List.drop_of_length_le (by omega)]
      exact ⟨-1, rfl, rfl⟩
    | succ k ih =>
      intro i n hk hn
      obtain ⟨n, rfl⟩ : ∃ m, n = m + 1 := ⟨n - 1, by omega⟩
      have hi : i < l.length := by omega
      have hx : l[i]? = some l[i] := List.getElem?_eq_getElem hi
      rw [g_sIdx_l1]
      simp only [p_lt]
      rw [dec_t (by omega), p_brt, p_ix hx, hq _ (List.getElem_mem _), p_bd, p_br, wr_s i (by omega), List.drop_eq_getElem_cons hi, List.any_cons]
      by_cases h : p l[i] = true
      · rw [if_pos h, h]
        exact ⟨i, rfl, by rw [dec_t (by omega)]; rfl⟩
      · rw [if_neg h]
        have e : p l[i] = false := by simpa using h
        rw [e, Bool.false_or]
        exact ih (i + 1) n (by omega) (by omega)
  have := go l.length 0 f (by omega) hf
  simpa using this
theorem pool_Accts {l : List TAcct} (hl : l.length < 1000000000000000) {f : Nat} (hf : l.length < f) : g_pool_Accts f l = some (acctsB l) := by
  simp only [g_pool_Accts, p_lt, p_jn, p_br, g_sCon, acctsB]
  by_cases h8 : l.length = 8
  · rw [if_pos (by simp [h8])]
    obtain ⟨r, e, hr⟩ := IndexFunc_ok hl (fun x => g_pool_Accts_1 f x) (fun x => !nonB x) (fun x _ => by
      simp only [g_pool_Accts_1, p_lt, p_jn, p_br, nonB]
      by_cases h1 : x.Nonce < 0 <;> by_cases h2 : x.Nonce > 1099511627776 <;> simp [h1, h2] <;> omega) hf
    rw [e, p_bd, p_bd, hr]
    simp [h8, List.all_eq_not_any_not]
  · rw [if_neg (by simp; omega)]
    simp [h8]
theorem ref16_Accts {l : List TAcct} (hl : l.length < 1000000000000000) {f : Nat} (hf : l.length < f) : g_tarnref16_Accts f l = some (acctsB l) := by
  simp only [g_tarnref16_Accts, p_lt, p_jn]
  have e := for_all (fun n (_ : Unit) i => g_tarnref16_Accts_l1 l f (some (((l.length : Nat) : Int) == 8)) n i) l (fun i t _ => if nonB t then .inr () else .inl false) (fun _ => some (((l.length : Nat) : Int) == 8))
    (fun n _ => by
      simp only [g_tarnref16_Accts_l1, p_lt]
      rw [dec_f (by omega), p_brf])
    (fun n _ i x hx hi => by
      simp only [g_tarnref16_Accts_l1, p_lt]
      rw [dec_t (by omega), p_brt, p_ix hx, ref0_Num, p_bd, wr_s i (by omega), p_br]
      have eb : decide (0 ≤ x.Nonce ∧ x.Nonce ≤ 1099511627776) = nonB x := rfl
      rw [eb]
      cases nonB x <;> rfl) f () hf
  rw [e, runl_chk, zip_all nonB]
  have e2 : (((l.length : Nat) : Int) == 8) = decide (l.length = 8) := by
    by_cases h : l.length = 8
    · simp [h]
    · simp [h]; omega
  rw [e2]
  unfold acctsB
  cases l.all nonB <;> simp
end Go.Proofs
