/- Which books may be: the chains of all accounts. -/
import Derived.Test.YtcbjobfklcefpaaGreatLV
set_option linter.unusedVariables false
set_option linter.unusedSimpArgs false
set_option maxRecDepth 100000
set_option maxHeartbeats 400000
namespace Go.Proofs
open Gw
attribute [local irreducible] idS txOK markS txB bytesL
def SS (l : List TTx) : Prop := l.Pairwise (fun p t => p.From < t.From ∨ (p.From = t.From ∧ p.Nonce < t.Nonce))
def CC (accts : List TAcct) (a : Nat) (m : List TTx) : Prop := ChainP m ∧ ∀ z, m[0]? = some z → ∀ c, accts[a]? = some c → z.Nonce = c.Nonce ∧ okc m c.Balance = true
def RR (accts : List TAcct) (l : List TTx) (last : Int) : Prop := (∀ t ∈ l, txOK t = true ∧ last < t.From) ∧ SS l ∧ ∀ a : Nat, a < 8 → CC accts a (ofS l (a : Int))
def runF (F : Int) (l : List TTx) : List TTx := l.takeWhile (fun t => t.From == F)
def rstF (F : Int) (l : List TTx) : List TTx := l.dropWhile (fun t => t.From == F)
theorem run_app (F : Int) (l : List TTx) : l = runF F l ++ rstF F l := (List.takeWhile_append_dropWhile ..).symm
theorem run_from {F : Int} {l : List TTx} : ∀ t ∈ runF F l, t.From = F := by
  intro t ht
  have := List.all_takeWhile (p := fun t : TTx => t.From == F) (l := l)
  have := List.all_eq_true.1 this t ht
  simpa using this
theorem rst_head {F : Int} {l : List TTx} {h : TTx} {r : List TTx} (e : rstF F l = h :: r) : h.From ≠ F := by
  have := List.head?_dropWhile_not (p := fun t : TTx => t.From == F) (l := l)
  unfold rstF at e
  rw [e] at this
  simp at this
  exact this
theorem rst_gt {F : Int} {l : List TTx} {t : TTx} {u : List TTx} (e : l = t :: u) (hF : t.From = F) (hs : SS l) : ∀ x ∈ rstF F l, F < x.From := by
  have hs' := hs
  have happ := run_app F l
  have hle : ∀ x ∈ l, F ≤ x.From := by
    intro x hx
    subst e
    rcases List.mem_cons.1 hx with rfl | hx
    · omega
    · have := (List.pairwise_cons.1 hs).1 x hx; omega
  have hsr : SS (rstF F l) := by
    have : SS (runF F l ++ rstF F l) := by rw [← happ]; exact hs
    exact (List.pairwise_append.1 this).2.1
  have hmem : ∀ x ∈ rstF F l, x ∈ l := fun x hx => by rw [happ]; exact List.mem_append_right _ hx
  intro x hx
  cases e2 : rstF F l with
  | nil => rw [e2] at hx; cases hx
  | cons h r =>
    have h1 := rst_head e2
    have h2 := hle h (hmem h (by rw [e2]; exact List.mem_cons_self ..))
    rw [e2] at hx hsr
    rcases List.mem_cons.1 hx with rfl | hx
    · omega
    · have := (List.pairwise_cons.1 hsr).1 x hx; omega
theorem ofS_append (l m : List TTx) (a : Int) : ofS (l ++ m) a = ofS l a ++ ofS m a := List.filter_append ..
theorem ofS_all {l : List TTx} {a : Int} (h : ∀ t ∈ l, t.From = a) : ofS l a = l := List.filter_eq_self.2 fun t ht => by simp [h t ht]
theorem ofS_none {l : List TTx} {a : Int} (h : ∀ t ∈ l, t.From ≠ a) : ofS l a = [] := List.filter_eq_nil_iff.2 fun t ht => by simpa using h t ht
theorem Lnk_nonce {l : List TTx} (h : Lnk l) {z : TTx} (hz : l[0]? = some z) : ∀ (i : Nat) (x : TTx), l[i]? = some x → x.Nonce = z.Nonce + i := by
  intro i
  induction i with
  | zero => intro x hx; rw [hz] at hx; cases hx; omega
  | succ i ih =>
    intro x hx
    have hi : i < l.length := by have := (List.getElem?_eq_some_iff.1 hx).1; omega
    have e : l[i]? = some l[i] := List.getElem?_eq_getElem hi
    have := (h i _ _ _ hz e hx).2
    have := ih _ e
    omega
theorem SS_chain {l : List TTx} (h : Lnk l) (hf : ∀ t ∈ l, ∀ u ∈ l, t.From = u.From) : SS l := by
  unfold SS
  rw [List.pairwise_iff_getElem]
  intro i j hi hj hij
  right
  refine ⟨hf _ (List.getElem_mem _) _ (List.getElem_mem _), ?_⟩
  have hz : l[0]? = some l[0] := List.getElem?_eq_getElem (by omega)
  have h1 := Lnk_nonce h hz i _ (List.getElem?_eq_getElem hi)
  have h2 := Lnk_nonce h hz j _ (List.getElem?_eq_getElem hj)
  omega
theorem CC_nil (accts : List TAcct) (a : Nat) : CC accts a [] := ⟨⟨by simp, by simp, fun i x y z h => by simp at h, rfl⟩, fun z h => by simp at h⟩
theorem txOK_from {t : TTx} (h : txOK t = true) : 0 ≤ t.From ∧ t.From < 8 := by
  unfold txOK at h
  exact (of_decide_eq_true h).1
theorem RR_step {accts : List TAcct} {l : List TTx} {last : Int} {t : TTx} {u : List TTx} (e : l = t :: u) (hlast : -1 ≤ last) :
    RR accts l last ↔ (last < t.From ∧ t.From < 8 ∧ CC accts t.From.toNat (runF t.From l) ∧ RR accts (rstF t.From l) t.From) := by
  have happ := run_app t.From l
  constructor
  · rintro ⟨h1, h2, h3⟩
    have ht := h1 t (by rw [e]; exact List.mem_cons_self ..)
    have hfr := txOK_from ht.1
    have hgt := rst_gt e rfl h2
    have hof : ofS l t.From = runF t.From l := by
      conv => lhs; rw [happ]
      rw [ofS_append, ofS_all run_from, ofS_none fun x hx => by have := hgt x hx; omega, List.append_nil]
    have hmem : ∀ x ∈ rstF t.From l, x ∈ l := fun x hx => by rw [happ]; exact List.mem_append_right _ hx
    refine ⟨ht.2, hfr.2, ?_, fun x hx => ⟨(h1 x (hmem x hx)).1, hgt x hx⟩, ?_, fun a ha => ?_⟩
    · have := h3 t.From.toNat (by omega)
      rw [show ((t.From.toNat : Nat) : Int) = t.From by omega, hof] at this
      exact this
    · have : SS (runF t.From l ++ rstF t.From l) := by rw [← happ]; exact h2
      exact (List.pairwise_append.1 this).2.1
    · by_cases ea : (a : Int) = t.From
      · rw [ofS_none fun x hx => by have := hgt x hx; omega]
        exact CC_nil _ _
      · have := h3 a ha
        rw [happ, ofS_append, ofS_none (l := runF t.From l) fun x hx => by have := run_from x hx; omega, List.nil_append] at this
        exact this
  · rintro ⟨h1, h2, h3, h4, h5, h6⟩
    have hrun : ∀ x ∈ runF t.From l, txOK x = true := h3.1.2.1
    have hSr : SS (runF t.From l) := SS_chain h3.1.2.2.1 fun x hx y hy => by rw [run_from x hx, run_from y hy]
    refine ⟨fun x hx => ?_, ?_, fun a ha => ?_⟩
    · rw [happ] at hx
      rcases List.mem_append.1 hx with hx | hx
      · exact ⟨hrun x hx, by have := run_from x hx; omega⟩
      · have := h4 x hx; exact ⟨this.1, by omega⟩
    · rw [happ]
      refine List.pairwise_append.2 ⟨hSr, h5, fun x hx y hy => Or.inl ?_⟩
      have := run_from x hx
      have := (h4 y hy).2
      omega
    · rw [happ, ofS_append]
      by_cases ea : (a : Int) = t.From
      · rw [ea, ofS_all run_from, ofS_none fun x hx => by have := (h4 x hx).2; omega, List.append_nil]
        have : t.From.toNat = a := by omega
        rw [this] at h3; exact h3
      · rw [ofS_none (l := runF t.From l) fun x hx => by have := run_from x hx; omega, List.nil_append]
        exact h6 a ha
theorem RR_nil (accts : List TAcct) (last : Int) : RR accts [] last := ⟨by simp, List.Pairwise.nil, fun a _ => CC_nil _ _⟩
theorem ch_l2 {σ : Type} (K : Int → Option σ) (l : List TTx) (x : TTx) (hl : l.length < 100000) (f : Nat) : ∀ (k i n : Nat), i + k = l.length → k < n →
    g_pool_chains_1_l2 K l x f n (i : Int) = K ((i + ((l.drop i).takeWhile (fun t => t.From == x.From)).length : Nat) : Int) := by
  intro k
  induction k with
  | zero =>
    intro i n hk hn
    obtain ⟨n, rfl⟩ : ∃ m, n = m + 1 := ⟨n - 1, by omega⟩
    rw [g_pool_chains_1_l2]
    simp only [p_lt, p_jn]
    rw [dec_f (by omega), p_brf, p_brf, List.drop_of_length_le (by omega)]; rfl
  | succ k ih =>
    intro i n hk hn
    obtain ⟨n, rfl⟩ : ∃ m, n = m + 1 := ⟨n - 1, by omega⟩
    have hi : i < l.length := by omega
    have hx : l[i]? = some l[i] := List.getElem?_eq_getElem hi
    rw [g_pool_chains_1_l2]
    simp only [p_lt, p_jn]
    rw [dec_t (by omega), p_brt, p_ix hx, List.drop_eq_getElem_cons hi, List.takeWhile_cons, p_br, wr_s i (by omega)]
    by_cases h : (l[i].From == x.From) = true
    · rw [if_pos h, if_pos h, ih (i + 1) n (by omega) (by omega)]
      congr 1
      simp only [List.length_cons]
      omega
    · rw [if_neg h, if_neg h]; rfl
theorem ch_l1 {accts : List TAcct} (q : (Int × List TTx) → (Unit × Nat) → Option ((Unit × Nat) × Bool)) (f : Nat) (hf : 100000 ≤ f) (P : List TTx → Prop)
    (hP : ∀ l F, P l → P (runF F l) ∧ P (rstF F l))
    (hq1 : ∀ (a : Nat) (m : List TTx), a < 8 → P m → m ≠ [] → CC accts a m → q ((a : Int), m) ((), 0) = some (((), 0), true))
    (hq2 : ∀ (a : Nat) (m : List TTx), a < 8 → P m → m ≠ [] → ¬ CC accts a m → q ((a : Int), m) ((), 0) = some (((), 1), false))
    (hq3 : ∀ m : List TTx, q (-1, m) ((), 0) = some (((), 1), false)) :
    ∀ (k : Nat) (l : List TTx) (last : Int) (n : Nat), l.length < 100000 → l.length ≤ k → k < n → P l → -1 ≤ last →
    (RR accts l last → g_pool_chains_1_l1 q f (fun _ l13 => some l13) n l ((), 0) last = some ((), 0)) ∧ (¬ RR accts l last → g_pool_chains_1_l1 q f (fun _ l13 => some l13) n l ((), 0) last = some ((), 1)) := by
  intro k
  induction k with
  | zero =>
    intro l last n hl hk hn hp hlast
    obtain ⟨n, rfl⟩ : ∃ m, n = m + 1 := ⟨n - 1, by omega⟩
    have e : l = [] := List.eq_nil_of_length_eq_zero (by omega)
    subst e
    refine ⟨fun _ => ?_, fun h => absurd (RR_nil _ _) h⟩
    rw [g_pool_chains_1_l1]
    simp only [p_lt]
    rw [dec_f (by simp), p_brf]
  | succ k ih =>
    intro l last n hl hk hn hp hlast
    obtain ⟨n, rfl⟩ : ∃ m, n = m + 1 := ⟨n - 1, by omega⟩
    cases e : l with
    | nil =>
      refine ⟨fun _ => ?_, fun h => absurd (RR_nil _ _) h⟩
      rw [g_pool_chains_1_l1]
      simp only [p_lt]
      rw [dec_f (by simp), p_brf]
    | cons t u =>
      rw [← e, RR_step e hlast]
      have h0 : l[0]? = some t := by rw [e]; rfl
      rw [g_pool_chains_1_l1]
      simp only [p_lt, p_jn]
      rw [dec_t (by rw [e]; simp), p_brt, p_ix0 h0]
      have e2 := ch_l2 (fun x44 => br (decide (t.From ≤ last)) (bd2 (q (-1, l) ((), 0)) fun z97 c98 => some z97)
        (br (decide (t.From ≥ 8)) (bd2 (q (-1, l) ((), 0)) fun z97 c98 => some z97)
          (gd ((0 : Int) ≤ 0 ∧ 0 ≤ x44 ∧ x44 ≤ ((l.length : Nat) : Int)) (bd2 (q (t.From, l.take (Int.toNat x44)) ((), 0)) fun z79 c80 => br (!c80) (some z79)
            (gd ((0 : Int) ≤ x44 ∧ x44 ≤ ((l.length : Nat) : Int) ∧ ((l.length : Nat) : Int) ≤ ((l.length : Nat) : Int)) (g_pool_chains_1_l1 q f (fun _ l13 => some l13) n (List.drop (Int.toNat x44) (List.take (Int.toNat ((l.length : Nat) : Int)) l)) z79 t.From)))))) l t hl f l.length 0 f (by omega) (by omega)
      rw [List.drop_zero, Nat.zero_add] at e2
      have hrun : (l.takeWhile (fun x => x.From == t.From)) = runF t.From l := rfl
      rw [hrun] at e2
      refine ⟨fun hR => Eq.trans e2 ?_, fun hR => Eq.trans e2 ?_⟩
      · obtain ⟨r1, r2, r3, r4⟩ := hR
        have hlen : (runF t.From l).length ≤ l.length := by conv => rhs; rw [run_app t.From l]
                                                            rw [List.length_append]; omega
        have htake : l.take (runF t.From l).length = runF t.From l := by
          conv => lhs; rw [run_app t.From l]
          have : (runF t.From (runF t.From l ++ rstF t.From l)) = runF t.From l := by rw [← run_app]
          rw [this, List.take_left']; rfl
        have hdrop : l.drop (runF t.From l).length = rstF t.From l := by
          conv => lhs; rw [run_app t.From l]
          have : (runF t.From (runF t.From l ++ rstF t.From l)) = runF t.From l := by rw [← run_app]
          rw [this, List.drop_left']; rfl
        have hne : runF t.From l ≠ [] := by rw [e]; unfold runF; rw [List.takeWhile_cons, if_pos (by simp)]; simp
        rw [dec_f (by omega), p_brf, dec_f (by omega), p_brf, p_gd (by omega), Int.toNat_natCast, htake]
        have hfn : t.From = ((t.From.toNat : Nat) : Int) := by omega
        have hq := hq1 t.From.toNat (runF t.From l) (by omega) (hP l _ hp).1 hne r3
        rw [← hfn] at hq
        rw [hq, p_bd2]
        simp only [Bool.not_true]
        rw [p_brf, p_gd (by omega), Int.toNat_natCast, List.take_of_length_le (Nat.le_refl _), hdrop]
        have hl2 : (rstF t.From l).length + (runF t.From l).length = l.length := by conv => rhs; rw [run_app t.From l]
                                                                                    rw [List.length_append]; omega
        have hpos : 0 < (runF t.From l).length := List.length_pos_iff.2 hne
        exact (ih (rstF t.From l) t.From n (by omega) (by omega) (by omega) (hP l _ hp).2 (by omega)).1 r4
      · by_cases c1 : t.From ≤ last
        · rw [dec_t c1, p_brt, hq3, p_bd2]
        rw [dec_f c1, p_brf]
        by_cases c2 : t.From ≥ 8
        · rw [dec_t c2, p_brt, hq3, p_bd2]
        rw [dec_f c2, p_brf]
        have hlen : (runF t.From l).length ≤ l.length := by conv => rhs; rw [run_app t.From l]
                                                            rw [List.length_append]; omega
        have htake : l.take (runF t.From l).length = runF t.From l := by
          conv => lhs; rw [run_app t.From l]
          have : (runF t.From (runF t.From l ++ rstF t.From l)) = runF t.From l := by rw [← run_app]
          rw [this, List.take_left']; rfl
        have hdrop : l.drop (runF t.From l).length = rstF t.From l := by
          conv => lhs; rw [run_app t.From l]
          have : (runF t.From (runF t.From l ++ rstF t.From l)) = runF t.From l := by rw [← run_app]
          rw [this, List.drop_left']; rfl
        have hne : runF t.From l ≠ [] := by rw [e]; unfold runF; rw [List.takeWhile_cons, if_pos (by simp)]; simp
        have hfn : t.From = ((t.From.toNat : Nat) : Int) := by omega
        rw [p_gd (by omega), Int.toNat_natCast, htake]
        by_cases c3 : CC accts t.From.toNat (runF t.From l)
        · have hq := hq1 t.From.toNat (runF t.From l) (by omega) (hP l _ hp).1 hne c3
          rw [← hfn] at hq
          rw [hq, p_bd2]
          simp only [Bool.not_true]
          rw [p_brf, p_gd (by omega), Int.toNat_natCast, List.take_of_length_le (Nat.le_refl _), hdrop]
          have hl2 : (rstF t.From l).length + (runF t.From l).length = l.length := by conv => rhs; rw [run_app t.From l]
                                                                                      rw [List.length_append]; omega
          have hpos : 0 < (runF t.From l).length := List.length_pos_iff.2 hne
          exact (ih (rstF t.From l) t.From n (by omega) (by omega) (by omega) (hP l _ hp).2 (by omega)).2 fun r4 => hR ⟨by omega, by omega, c3, r4⟩
        · have hq := hq2 t.From.toNat (runF t.From l) (by omega) (hP l _ hp).1 hne c3
          rw [← hfn] at hq
          rw [hq, p_bd2]
          simp only [Bool.not_false]
          rw [p_brt]
end Go.Proofs
