import Derived.Test.YtjcagpcpbfmldaaW11
import Derived.IntWalk
/- What the heap's code computes is what the reference computes. -/
set_option linter.unusedVariables false
set_option linter.unusedSimpArgs false
set_option maxRecDepth 100000
namespace Go.Proofs
open Gw Go.RowKit Go.IntWalk

variable {α β : Type}
theorem p_lt (a : α) (f : α → Option β) : lt a f = f a := rfl
theorem p_jn (a : α) (f : α → Option β) : jn a f = f a := rfl
theorem p_bd (a : α) (f : α → Option β) : bd (some a) f = f a := rfl
theorem p_brt (x y : Option β) : br true x y = x := rfl
theorem p_brf (x y : Option β) : br false x y = y := rfl
theorem p_br (c : Bool) (x y : Option β) : br c x y = if c then x else y := by cases c <;> rfl
theorem p_gd {c : Prop} [Decidable c] {b : Option β} (h : c) : gd c b = b := if_pos h

theorem par_a {i : Nat} (h0 : 0 < i) (h : i < 100000) : wr .i64 ((i : Int) - 1) = ((i - 1 : Nat) : Int) := by
  rw [show wr .i64 ((i : Int) - 1) = (i : Int) - 1 from i64_in _ (by omega)]; omega
theorem par_b {i : Nat} (h : i < 100000) : wr .i64 (Int.tdiv ((i : Nat) : Int) 2) = ((i / 2 : Nat) : Int) := by
  rw [Int.tdiv_eq_ediv_of_nonneg (by omega)]
  rw [show wr .i64 ((i : Int) / 2) = (i : Int) / 2 from i64_in _ (by omega)]; omega
theorem inc_a {i : Nat} (h : i < 100000) : wr .i64 ((i : Int) + 1) = ((i + 1 : Nat) : Int) := by
  rw [show wr .i64 ((i : Int) + 1) = (i : Int) + 1 from i64_in _ (by omega)]; omega
theorem dbl_a {i : Nat} (h : i < 100000) : wr .i64 (2 * (i : Int)) = ((2 * i : Nat) : Int) := by
  rw [show wr .i64 (2 * (i : Int)) = 2 * (i : Int) from i64_in _ (by omega)]; omega

def cU (a b : TU256) : Int :=
  if a.e3 < b.e3 then -1 else if b.e3 < a.e3 then 1 else
  if a.e2 < b.e2 then -1 else if b.e2 < a.e2 then 1 else
  if a.e1 < b.e1 then -1 else if b.e1 < a.e1 then 1 else
  if a.e0 < b.e0 then -1 else if b.e0 < a.e0 then 1 else 0
def cR (a b : TRank) : Int :=
  if a.Dist < b.Dist then -1 else if b.Dist < a.Dist then 1 else cU a.Tip b.Tip
def bel (a b : TNode) : Bool := decide (cR a.Rank b.Rank < 0) || (decide (cR a.Rank b.Rank = 0) && decide (a.Acct < b.Acct))
def okN (n : TNode) : Bool := (decide (0 ≤ n.Acct) && decide (n.Acct ≤ 7)) && (decide (-4096 ≤ n.Rank.Dist) && decide (n.Rank.Dist ≤ 0))

theorem m3 : wr .i64 2 = 2 := by kernel_rfl
theorem m2 : wr .i64 1 = 1 := by kernel_rfl
theorem m1 : wr .i64 0 = 0 := by kernel_rfl
theorem m0 : wr .i64 (-1) = -1 := by kernel_rfl

theorem ite_some {c : Prop} [Decidable c] {a b : α} : (if c then some a else some b) = some (if c then a else b) := by split <;> rfl
theorem u256_cmp (a b : TU256) (k : Nat) : g_u256_Cmp (k + 5) a b = some (cU a b) := by
  simp [g_u256_Cmp, g_u256_Cmp_l1, p_lt, p_jn, p_br, p_gd, p_bd, m3, m2, m1, m0, cU, ite_some]
theorem ref_cmp (a b : TU256) (k : Nat) : g_tarnref1_Cmp (k + 5) a b = some (cU a b) := by
  simp [g_tarnref1_Cmp, g_tarnref1_Cmp_l1, p_lt, p_jn, p_br, p_gd, p_bd, m3, m2, m1, m0, cU, ite_some]
theorem rank_cmp (a b : TRank) (k : Nat) : g_rank_Cmp (k + 5) a b = some (cR a b) := by
  simp [g_rank_Cmp, u256_cmp, p_lt, p_jn, p_br, p_bd, cR, ite_some]
theorem refr_cmp (a b : TRank) (k : Nat) : g_tarnref12_Cmp (k + 5) a b = some (cR a b) := by
  simp [g_tarnref12_Cmp, ref_cmp, p_lt, p_jn, p_br, p_bd, cR, ite_some]
theorem below_is (a b : TNode) (k : Nat) : g_tarnref12_Below (k + 5) a b = some (bel a b) := by
  simp only [g_tarnref12_Below, refr_cmp, p_bd, p_jn, p_lt, p_br, bel]
  by_cases h : cR a.Rank b.Rank < 0
  · simp [h]
  · by_cases h2 : cR a.Rank b.Rank = 0 <;> simp [h, h2]
def ordN (a b : TNode) : Int := if cR a.Rank b.Rank = 0 then wr .i64 (a.Acct - b.Acct) else cR a.Rank b.Rank
theorem order_is (a b : TNode) (k : Nat) : g_heap_order (k + 5) a b = some (ordN a b) := by
  simp only [g_heap_order, rank_cmp, p_bd, p_jn, p_lt, p_br, ordN]
  by_cases h2 : cR a.Rank b.Rank = 0 <;> simp [h2]
def okA (n : TNode) : Prop := 0 ≤ n.Acct ∧ n.Acct ≤ 7
theorem ord_neg {a b : TNode} (ha : okA a) (hb : okA b) : decide (ordN a b < 0) = bel a b := by
  unfold okA at *
  unfold ordN bel
  split
  · rename_i h
    rw [show wr .i64 (a.Acct - b.Acct) = a.Acct - b.Acct from i64_in _ (by omega)]
    simp only [h, decide_true, Bool.true_and, show ¬ ((0 : Int) < 0) from by omega, decide_false, Bool.false_or]
    apply decide_eq_decide.2; omega
  · rename_i h; simp [h]
theorem ord_pos {a b : TNode} (ha : okA a) (hb : okA b) : decide (ordN a b ≥ 0) = !bel a b := by
  rw [← ord_neg ha hb, ← decide_not]
  apply decide_eq_decide.2; omega
theorem may_is (n : TNode) (k : Nat) : g_heap_may k n = some (okN n) := by
  simp only [g_heap_may, g_rank_Check, okN, p_bd, p_jn, p_lt, p_br]
  by_cases h1 : 0 ≤ n.Acct <;> by_cases h2 : n.Acct < 8 <;> by_cases h3 : n.Rank.Dist < -4096 <;> by_cases h4 : n.Rank.Dist > 0 <;>
    simp [h1, h2, h3, h4, p_bd] <;> omega
theorem node_is (n : TNode) (k : Nat) : g_tarnref12_Node k n = some (okN n) := by
  simp only [g_tarnref12_Node, g_tarnref12_Rank, g_tarnref0_Num, okN, p_bd, p_jn, p_lt, p_br]
  by_cases h1 : 0 ≤ n.Acct <;> by_cases h2 : n.Acct ≤ 7 <;> by_cases h3 : -4096 ≤ n.Rank.Dist <;> by_cases h4 : n.Rank.Dist ≤ 0 <;>
    simp [h1, h2, h3, h4, p_bd]
theorem okN_A {n : TNode} (h : okN n = true) : okA n := by
  simp [okN] at h; unfold okA; omega

def fnd (a : Int) : List TNode → Nat → Int
  | [], _ => -1
  | x :: r, i => if x.Acct = a then (i : Int) else fnd a r (i + 1)
theorem find_l1 (l : List TNode) (a : Int) (fuel : Nat) (hl : l.length < 10000) : ∀ n i, i ≤ l.length → l.length < n + i →
    g_tarnref12_Find_l1 l a (some (-1)) fuel n (i : Int) = some (fnd a (l.drop i) i) := by
  intro n
  induction n with
  | zero => intro i h1 h2; omega
  | succ n ih =>
    intro i h1 h2
    simp only [g_tarnref12_Find_l1, p_lt, p_br, decide_eq_true_eq, Int.ofNat_lt]
    by_cases h : i < l.length
    · rw [if_pos h, p_gd (by omega), List.drop_eq_getElem_cons h]
      simp only [Int.toNat_natCast, List.getElem?_eq_getElem h, p_bd, fnd, inc_a (show i < 100000 by omega)]
      by_cases hx : l[i].Acct = a
      · simp [hx]
      · simp only [hx, beq_iff_eq, if_false]
        exact ih (i + 1) (by omega) (by omega)
    · rw [if_neg h, List.drop_eq_nil_of_le (by omega)]; rfl
theorem index_l1 (l : List TNode) (a : Int) (fuel : Nat) (hl : l.length < 10000) : ∀ n i, i ≤ l.length → l.length < n + i →
    g_slices_IndexFunc_api_Node_api_Node_l1 l (fun x => g_heap_place_1 fuel x a) (some (-1)) fuel n (i : Int) = some (fnd a (l.drop i) i) := by
  intro n
  induction n with
  | zero => intro i h1 h2; omega
  | succ n ih =>
    intro i h1 h2
    simp only [g_slices_IndexFunc_api_Node_api_Node_l1, g_heap_place_1, p_lt, p_br, decide_eq_true_eq, Int.ofNat_lt]
    by_cases h : i < l.length
    · rw [if_pos h, p_gd (by omega), List.drop_eq_getElem_cons h]
      simp only [Int.toNat_natCast, List.getElem?_eq_getElem h, p_bd, fnd, inc_a (show i < 100000 by omega)]
      by_cases hx : l[i].Acct = a
      · simp [hx]
      · simp only [hx, beq_iff_eq, if_false]
        exact ih (i + 1) (by omega) (by omega)
    · rw [if_neg h, List.drop_eq_nil_of_le (by omega)]; rfl
theorem find_is (l : List TNode) (a : Int) (fuel : Nat) (hl : l.length < 10000) (hf : l.length < fuel) : g_tarnref12_Find fuel l a = some (fnd a l 0) :=
  find_l1 l a fuel hl fuel 0 (by omega) (by omega)
theorem place_is (l : List TNode) (a : Int) (fuel : Nat) (hl : l.length < 10000) (hf : l.length < fuel) : g_heap_place fuel l a = some (fnd a l 0) := by
  unfold g_heap_place g_slices_IndexFunc_api_Node_api_Node
  rw [show ∀ f : Option Int → Option Int, jn (some (-1)) f = f (some (-1)) from fun _ => rfl]
  rw [show ((0 : Int)) = ((0 : Nat) : Int) from rfl, index_l1 l a fuel hl fuel 0 (by omega) (by omega)]; rfl
theorem fnd_range (a : Int) : ∀ (l : List TNode) (i : Nat), fnd a l i = -1 ∨ (∃ j : Nat, fnd a l i = ((i + j : Nat) : Int) ∧ j < l.length)
  | [], i => .inl rfl
  | x :: r, i => by
    unfold fnd
    split
    · exact .inr ⟨0, by simp, by simp⟩
    · rcases fnd_range a r (i + 1) with h | ⟨j, h, hj⟩
      · exact .inl h
      · exact .inr ⟨j + 1, by rw [h]; congr 1; omega, by simp; omega⟩

def good (l : List TNode) (i : Nat) : Bool := match l[i]? with
  | none => true
  | some x => okN x && (decide (fnd x.Acct l 0 = (i : Int)) && (decide (i = 0) || match l[(i - 1) / 2]? with | none => true | some y => !bel x y))
def chk (l : List TNode) : Nat → Nat → Bool
  | 0, _ => true
  | k + 1, i => good l i && chk l k (i + 1)
theorem chk_good {l : List TNode} : ∀ {k i}, chk l k i = true → ∀ j, i ≤ j → j < i + k → good l j = true
  | 0, i, _, j, h1, h2 => by omega
  | k + 1, i, h, j, h1, h2 => by
    simp only [chk, Bool.and_eq_true] at h
    by_cases e : j = i
    · subst e; exact h.1
    · exact chk_good h.2 j (by omega) (by omega)
theorem good_ok {l : List TNode} {i : Nat} {x : TNode} (h : good l i = true) (hx : l[i]? = some x) : okN x = true := by
  simp only [good, hx, Bool.and_eq_true] at h; exact h.1

theorem heap_l1 (l : List TNode) (fuel : Nat) (hl : l.length ≤ 8) : ∀ k i, i + k = l.length → ∀ n, k < n →
    g_tarnref12_Heap_l1 l (fuel + 100) (some true) n (i : Int) = some (chk l k i) := by
  intro k
  induction k with
  | zero =>
    intro i h n hn
    obtain ⟨n, rfl⟩ : ∃ m, n = m + 1 := ⟨n - 1, by omega⟩
    simp only [g_tarnref12_Heap_l1, p_lt, p_br]
    rw [if_neg (by simp; omega)]; rfl
  | succ k ih =>
    intro i h n hn
    obtain ⟨n, rfl⟩ : ∃ m, n = m + 1 := ⟨n - 1, by omega⟩
    have hi : i < l.length := by omega
    have hp : (i - 1) / 2 < l.length := by omega
    have ci : (0 : Int) ≤ (i : Int) ∧ (i : Int) < ((l.length : Nat) : Int) := by omega
    have cp : (0 : Int) ≤ (((i - 1) / 2 : Nat) : Int) ∧ (((i - 1) / 2 : Nat) : Int) < ((l.length : Nat) : Int) := by omega
    have IH := ih (i + 1) (by omega) n (by omega)
    simp only [g_tarnref12_Heap_l1, p_lt, p_jn, p_br]
    rw [if_pos (by simpa using hi)]
    simp only [p_gd ci, Int.toNat_natCast, List.getElem?_eq_getElem hi, p_bd, node_is, find_is l _ (fuel + 100) (by omega) (by omega), inc_a (show i < 100000 by omega), IH]
    simp only [chk, good, List.getElem?_eq_getElem hi]
    by_cases h1 : okN l[i] = true
    · simp only [h1, Bool.not_true, Bool.false_eq_true, if_false, Bool.true_and]
      by_cases h2 : fnd l[i].Acct l 0 = (i : Int)
      · simp only [h2, bne_self_eq_false, Bool.false_eq_true, if_false, decide_true, Bool.true_and]
        by_cases h3 : 0 < i
        · rw [par_a h3 (by omega), par_b (by omega)]
          rw [if_pos (by simpa using (by omega : 0 < i))]
          simp only [p_gd cp, Int.toNat_natCast, List.getElem?_eq_getElem hp, p_bd, below_is, show ¬ i = 0 from by omega, decide_false, Bool.false_or]
          cases bel l[i] l[(i - 1) / 2] <;> simp
        · rw [if_neg (by simp; omega)]
          simp [show i = 0 from by omega]
      · simp [h2]
    · simp [h1]

theorem check_l1 (l : List TNode) (fuel : Nat) (hl : l.length ≤ 8) : ∀ k i, i + k = l.length → (∀ j, j < i → good l j = true) → ∀ n, k < n →
    g_heap_Check_l1 l (fuel + 100) (some 0) n (i : Int) = some (if chk l k i = true then 0 else 1) := by
  intro k
  induction k with
  | zero =>
    intro i h _ n hn
    obtain ⟨n, rfl⟩ : ∃ m, n = m + 1 := ⟨n - 1, by omega⟩
    simp only [g_heap_Check_l1, p_lt, p_br]
    rw [if_neg (by simp; omega)]; rfl
  | succ k ih =>
    intro i h hg n hn
    obtain ⟨n, rfl⟩ : ∃ m, n = m + 1 := ⟨n - 1, by omega⟩
    have hi : i < l.length := by omega
    have hp : (i - 1) / 2 < l.length := by omega
    have ci : (0 : Int) ≤ (i : Int) ∧ (i : Int) < ((l.length : Nat) : Int) := by omega
    have cp : (0 : Int) ≤ (((i - 1) / 2 : Nat) : Int) ∧ (((i - 1) / 2 : Nat) : Int) < ((l.length : Nat) : Int) := by omega
    simp only [g_heap_Check_l1, p_lt, p_jn, p_br]
    rw [if_pos (by simpa using hi)]
    simp only [p_gd ci, Int.toNat_natCast, List.getElem?_eq_getElem hi, p_bd, may_is, place_is l _ (fuel + 100) (by omega) (by omega), inc_a (show i < 100000 by omega)]
    have IH : good l i = true → g_heap_Check_l1 l (fuel + 100) (some 0) n ((i + 1 : Nat) : Int) = some (if chk l k (i + 1) = true then 0 else 1) := by
      intro hgi
      refine ih (i + 1) (by omega) (fun j hj => ?_) n (by omega)
      by_cases e : j = i
      · subst e; exact hgi
      · exact hg j (by omega)
    have hc : chk l (k + 1) i = (good l i && chk l k (i + 1)) := rfl
    rw [hc]
    by_cases hgi : good l i = true
    · rw [IH hgi, hgi]
      simp only [good, List.getElem?_eq_getElem hi, Bool.and_eq_true, decide_eq_true_eq] at hgi
      obtain ⟨h1, h2, h3⟩ := hgi
      simp only [h1, h2, Bool.not_true, Bool.false_eq_true, if_false, bne_self_eq_false, Bool.true_and]
      by_cases h4 : 0 < i
      · rw [par_a h4 (by omega), par_b (by omega)]
        rw [if_pos (by simpa using (by omega : 0 < i))]
        have hpp := good_ok (hg ((i - 1) / 2) (by omega)) (List.getElem?_eq_getElem hp)
        simp only [p_gd cp, Int.toNat_natCast, List.getElem?_eq_getElem hp, p_bd, order_is, ord_neg (okN_A h1) (okN_A hpp)]
        simp only [show ¬ i = 0 from by omega, decide_false, Bool.false_or, List.getElem?_eq_getElem hp] at h3
        simp at h3
        simp [h3]
      · rw [if_neg (by simpa using (by omega : ¬ 0 < i))]
    · have hgf : good l i = false := by simpa using hgi
      rw [hgf]
      simp only [good, List.getElem?_eq_getElem hi] at hgf
      simp only [Bool.false_and, Bool.false_eq_true, if_false]
      by_cases h1 : okN l[i] = true
      · simp only [h1, Bool.true_and] at hgf
        simp only [h1, Bool.not_true, Bool.false_eq_true, if_false]
        by_cases h2 : fnd l[i].Acct l 0 = (i : Int)
        · simp only [h2, decide_true, Bool.true_and] at hgf
          simp only [h2, bne_self_eq_false, Bool.false_eq_true, if_false]
          by_cases h4 : 0 < i
          · rw [par_a h4 (by omega), par_b (by omega)]
            rw [if_pos (by simpa using (by omega : 0 < i))]
            have hpp := good_ok (hg ((i - 1) / 2) (by omega)) (List.getElem?_eq_getElem hp)
            simp only [p_gd cp, Int.toNat_natCast, List.getElem?_eq_getElem hp, p_bd, order_is, ord_neg (okN_A h1) (okN_A hpp)]
            simp only [show ¬ i = 0 from by omega, decide_false, Bool.false_or, List.getElem?_eq_getElem hp] at hgf
            simp at hgf
            simp [hgf]
          · simp [show i = 0 from by omega] at hgf
        · simp [h2]
      · simp [h1]
def isH (l : List TNode) : Bool := decide (l.length ≤ 8) && chk l l.length 0
theorem heap_is (l : List TNode) (fuel : Nat) : g_tarnref12_Heap (fuel + 100) l = some (isH l) := by
  simp only [g_tarnref12_Heap, p_lt, p_jn, p_br, isH]
  by_cases h : l.length ≤ 8
  · rw [if_neg (by simp; omega), show ((0 : Int)) = ((0 : Nat) : Int) from rfl, heap_l1 l fuel h l.length 0 (by omega) _ (by omega)]; simp [h]
  · rw [if_pos (by simp; omega)]; simp [h]
theorem check_is (l : List TNode) (fuel : Nat) : g_heap_Check (fuel + 100) l = some (if isH l = true then 0 else 1) := by
  simp only [g_heap_Check, p_lt, p_jn, p_br, isH]
  by_cases h : l.length ≤ 8
  · rw [if_neg (by simp; omega), show g_heap_Check_l1 l (fuel + 100) (some 0) (fuel + 100) 0 = _ from check_l1 l fuel h l.length 0 (by omega) (fun j hj => by omega) _ (by omega)]; simp [h]
  · rw [if_pos (by simp; omega)]; simp [h]
theorem isH_ok {l : List TNode} (h : isH l = true) : l.length ≤ 8 ∧ ∀ x ∈ l, okA x := by
  simp only [isH, Bool.and_eq_true, decide_eq_true_eq] at h
  refine ⟨h.1, fun x hx => ?_⟩
  obtain ⟨i, hi, rfl⟩ := List.getElem_of_mem hx
  exact okN_A (good_ok (chk_good h.2 i (by omega) (by omega)) (List.getElem?_eq_getElem hi))

theorem rise_both (fuel : Nat) (K K' : List TNode → Int → Option (List TNode × Int)) : ∀ (m i : Nat), i ≤ m → ∀ (l : List TNode), (∀ x ∈ l, okA x) → i < l.length → l.length ≤ 100 → ∀ n, m < n →
    ∃ l' j, g_heap_rise_l1 K (fuel + 100) n l (i : Int) = K l' ((j : Nat) : Int) ∧ g_tarnref12_rises_l1 K' (fuel + 100) n l (i : Int) = K' l' ((j : Nat) : Int) ∧ l'.length = l.length ∧ (∀ x ∈ l', okA x) ∧ j < l.length := by
  intro m
  induction m with
  | zero =>
    intro i him l hok hi hl n hn
    obtain ⟨n, rfl⟩ : ∃ m, n = m + 1 := ⟨n - 1, by omega⟩
    obtain rfl : i = 0 := by omega
    exact ⟨l, 0, rfl, rfl, rfl, hok, hi⟩
  | succ m ih =>
    intro i him l hok hi hl n hn
    obtain ⟨n, rfl⟩ : ∃ m, n = m + 1 := ⟨n - 1, by omega⟩
    by_cases h0 : 0 < i
    · have hp : (i - 1) / 2 < l.length := by omega
      have ci : (0 : Int) ≤ (i : Int) ∧ (i : Int) < ((l.length : Nat) : Int) := by omega
      have cp : (0 : Int) ≤ (((i - 1) / 2 : Nat) : Int) ∧ (((i - 1) / 2 : Nat) : Int) < ((l.length : Nat) : Int) := by omega
      have c0 : decide ((i : Int) > 0) = true := by simpa using h0
      have ox := hok l[i] (List.getElem_mem hi)
      have op := hok l[(i - 1) / 2] (List.getElem_mem hp)
      simp only [g_heap_rise_l1, g_tarnref12_rises_l1, p_lt, p_jn, c0, p_brt, par_a h0 (show i < 100000 by omega), par_b (show i - 1 < 100000 by omega), p_gd ci, p_gd cp, Int.toNat_natCast, List.getElem?_eq_getElem hi, List.getElem?_eq_getElem hp, p_bd, order_is, below_is, ord_neg ox op]
      by_cases hb : bel l[i] l[(i - 1) / 2] = true
      · simp only [hb, p_brt]
        obtain ⟨l', j, e1, e2, e3, e4, e5⟩ := ih ((i - 1) / 2) (by omega) ((l.set i l[(i - 1) / 2]).set ((i - 1) / 2) l[i])
          (fun x hx => by
            rcases List.mem_or_eq_of_mem_set hx with hx | rfl
            · rcases List.mem_or_eq_of_mem_set hx with hx | rfl
              · exact hok x hx
              · exact op
            · exact ox) (by simpa using hp) (by simpa using hl) n (by omega)
        exact ⟨l', j, e1, e2, by simpa using e3, e4, by simpa using e5⟩
      · rw [Bool.not_eq_true] at hb
        simp only [hb, p_brf]
        exact ⟨l, i, rfl, rfl, rfl, hok, hi⟩
    · obtain rfl : i = 0 := by omega
      exact ⟨l, 0, rfl, rfl, rfl, hok, hi⟩

theorem sink_both (fuel : Nat) (K : List TNode → Option (List TNode)) : ∀ (m i : Nat) (l : List TNode), l.length ≤ i + m → (∀ x ∈ l, okA x) → i < l.length → l.length ≤ 100 → ∀ n, m < n →
    ∃ l', g_heap_sink_l1 (fuel + 100) K n l (i : Int) = K l' ∧ g_tarnref12_sinks_l1 (fuel + 100) n l (i : Int) = some l' ∧ l'.length = l.length ∧ (∀ x ∈ l', okA x) := by
  intro m
  induction m with
  | zero => intro i l h _ hi; omega
  | succ m ih =>
    intro i l hm hok hi hl n hn
    obtain ⟨n, rfl⟩ : ∃ m, n = m + 1 := ⟨n - 1, by omega⟩
    simp only [g_heap_sink_l1, g_tarnref12_sinks_l1, p_lt, p_jn, dbl_a (show i < 100000 by omega), inc_a (show 2 * i < 100000 by omega), inc_a (show 2 * i + 1 < 100000 by omega)]
    by_cases hk : 2 * i + 1 < l.length
    · have c0 : decide (((2 * i + 1 : Nat) : Int) < ((l.length : Nat) : Int)) = true := decide_eq_true (by omega)
      have c1 : decide (((2 * i + 1 : Nat) : Int) ≥ ((l.length : Nat) : Int)) = false := by simp; omega
      have ci : (0 : Int) ≤ (i : Int) ∧ (i : Int) < ((l.length : Nat) : Int) := by omega
      have ck : (0 : Int) ≤ ((2 * i + 1 : Nat) : Int) ∧ ((2 * i + 1 : Nat) : Int) < ((l.length : Nat) : Int) := by omega
      have ox := hok l[i] (List.getElem_mem hi)
      -- the child that is taken
      have key : ∀ k : Nat, i < k → ∀ hk : k < l.length, ∃ l',
          (if (!bel l[k] l[i]) = true then K l else g_heap_sink_l1 (fuel + 100) K n ((l.set i l[k]).set k l[i]) ((k : Nat) : Int)) = K l' ∧
          (if (!bel l[k] l[i]) = true then some l else g_tarnref12_sinks_l1 (fuel + 100) n ((l.set i l[k]).set k l[i]) ((k : Nat) : Int)) = some l' ∧ l'.length = l.length ∧ (∀ x ∈ l', okA x) := by
        intro k hik hk
        by_cases hb : (!bel l[k] l[i]) = true
        · rw [if_pos hb, if_pos hb]; exact ⟨l, rfl, rfl, rfl, hok⟩
        · rw [if_neg hb, if_neg hb]
          obtain ⟨l', e1, e2, e3, e4⟩ := ih k ((l.set i l[k]).set k l[i]) (by simp; omega)
            (fun x hx => by
              rcases List.mem_or_eq_of_mem_set hx with hx | rfl
              · rcases List.mem_or_eq_of_mem_set hx with hx | rfl
                · exact hok x hx
                · exact hok _ (List.getElem_mem hk)
              · exact ox) (by simpa using hk) (by simpa using hl) n (by omega)
          exact ⟨l', e1, e2, by simpa using e3, e4⟩
      have ok1 := hok l[2 * i + 1] (List.getElem_mem hk)
      simp only [c0, c1, p_brt, p_brf]
      by_cases hk2 : 2 * i + 1 + 1 < l.length
      · have c2 : decide (((2 * i + 1 + 1 : Nat) : Int) < ((l.length : Nat) : Int)) = true := decide_eq_true (by omega)
        have ck2 : (0 : Int) ≤ ((2 * i + 1 + 1 : Nat) : Int) ∧ ((2 * i + 1 + 1 : Nat) : Int) < ((l.length : Nat) : Int) := by omega
        have ok2 := hok l[2 * i + 1 + 1] (List.getElem_mem hk2)
        simp only [c2, p_brt, p_gd ck, p_gd ck2, p_gd ci, Int.toNat_natCast, List.getElem?_eq_getElem hk, List.getElem?_eq_getElem hk2, List.getElem?_eq_getElem hi, p_bd, order_is, below_is, ord_neg ok2 ok1, ord_pos ok1 ox, ord_pos ok2 ox]
        by_cases hb : bel l[2 * i + 1 + 1] l[2 * i + 1] = true
        · simp only [hb, p_brt, p_gd ck2, Int.toNat_natCast, List.getElem?_eq_getElem hk2, p_bd, order_is, below_is, ord_pos ok2 ox, p_br]
          exact key (2 * i + 1 + 1) (by omega) hk2
        · rw [Bool.not_eq_true] at hb
          simp only [hb, p_brf, p_gd ck, Int.toNat_natCast, List.getElem?_eq_getElem hk, p_bd, order_is, below_is, ord_pos ok1 ox, p_br]
          exact key (2 * i + 1) (by omega) hk
      · have c2 : decide (((2 * i + 1 + 1 : Nat) : Int) < ((l.length : Nat) : Int)) = false := by simp; omega
        simp only [c2, p_brf, p_gd ck, p_gd ci, Int.toNat_natCast, List.getElem?_eq_getElem hk, List.getElem?_eq_getElem hi, p_bd, order_is, below_is, ord_pos ok1 ox, p_br]
        exact key (2 * i + 1) (by omega) hk
    · have c0 : decide (((2 * i + 1 : Nat) : Int) < ((l.length : Nat) : Int)) = false := by simp; omega
      have c1 : decide (((2 * i + 1 : Nat) : Int) ≥ ((l.length : Nat) : Int)) = true := by simp; omega
      simp only [c0, c1, p_brt, p_brf]
      exact ⟨l, rfl, rfl, rfl, hok⟩

theorem rise_is (fuel : Nat) (l : List TNode) (i : Nat) (hok : ∀ x ∈ l, okA x) (hi : i < l.length) (hl : l.length ≤ 100) :
    ∃ l' j, g_heap_rise (fuel + 200) l (i : Int) = some (l', ((j : Nat) : Int)) ∧ g_tarnref12_rises (fuel + 200) l (i : Int) = some (l', ((j : Nat) : Int)) ∧ l'.length = l.length ∧ (∀ x ∈ l', okA x) ∧ j < l.length :=
  rise_both (fuel + 100) _ _ i i (by omega) l hok hi hl (fuel + 200) (by omega)
theorem settle_is (fuel : Nat) (l : List TNode) (i : Nat) (hok : ∀ x ∈ l, okA x) (hi : i < l.length) (hl : l.length ≤ 100) :
    ∃ l', g_heap_settle (fuel + 200) l (i : Int) = some l' ∧ g_tarnref12_moves (fuel + 200) l (i : Int) = some l' ∧ l'.length = l.length := by
  obtain ⟨l1, j, e1, e2, e3, e4, e5⟩ := rise_is fuel l i hok hi hl
  have c0 : decide ((i : Int) < ((l.length : Nat) : Int)) = true := by simpa using hi
  simp only [g_heap_settle, g_tarnref12_moves, e1, e2, p_bd, p_lt, p_jn, c0, p_brt]
  by_cases hj : j = i
  · subst hj
    obtain ⟨l2, s1, s2, s3, s4⟩ := sink_both (fuel + 100) (fun l6 => some l6) l1.length j l1 (by omega) e4 (by omega) (by omega) (fuel + 200) (by omega)
    simp only [beq_self_eq_true, p_brt]
    refine ⟨l2, ?_, ?_, by omega⟩
    · simp only [g_heap_sink, p_jn, s1, p_bd]
    · simp only [g_tarnref12_sinks, s2, p_bd]
  · have : ((j : Int) == (i : Int)) = false := by simp; omega
    simp only [this, p_brf]
    exact ⟨l1, rfl, rfl, e3⟩

theorem copy_l1 (l : List TNode) (fuel : Nat) (hl : l.length ≤ 1000) (K : List TNode → Option (List TNode)) : ∀ n i (a : List TNode), i ≤ l.length → l.length < n + i → a.length = i →
    g_tarnref0_CopyNodes_l1 l K fuel n a (i : Int) = K (a ++ l.drop i) := by
  intro n
  induction n with
  | zero => intro i a h1 h2; omega
  | succ n ih =>
    intro i a h1 h2 ha
    by_cases h : i < l.length
    · have c0 : decide ((i : Int) < ((l.length : Nat) : Int)) = true := by simpa using h
      have ci : (0 : Int) ≤ (i : Int) ∧ (i : Int) < ((l.length : Nat) : Int) := by omega
      have hx := List.getElem?_eq_getElem h
      simp only [g_tarnref0_CopyNodes_l1, p_lt, c0, p_brt, p_gd ci, Int.toNat_natCast, hx, p_bd, inc_a (show i < 100000 by omega)]
      rw [p_gd (by simp only [List.length_cons, List.length_nil]; omega), ih (i + 1) _ (by omega) (by omega) (by simp; omega), List.drop_eq_getElem_cons h]
      simp
    · have c0 : decide ((i : Int) < ((l.length : Nat) : Int)) = false := by simpa using h
      simp only [g_tarnref0_CopyNodes_l1, p_lt, c0, p_brf]
      rw [List.drop_eq_nil_of_le (by omega)]; simp
theorem copy_is (l : List TNode) (fuel : Nat) (hl : l.length ≤ 1000) : g_tarnref0_CopyNodes (fuel + 2000) l = some l :=
  copy_l1 l _ hl _ (fuel + 2000) 0 [] (by omega) (by omega) rfl
theorem clone_is (l : List TNode) (fuel : Nat) (hl : l.length ≤ 1000) : g_slices_Clone_api_Node_api_Node fuel l = some l :=
  p_gd (by simp only [List.length_nil]; omega)
theorem nodes_l1 (fuel : Nat) (K : List TNode → Option Unit) : ∀ n i (a : List TNode), i ≤ a.length → a.length < n + i → a.length ≤ 1000 →
    ∃ b, b.length = a.length ∧ g_tarnlaw0_Nodes_l1 K fuel n a (i : Int) = K b := by
  intro n
  induction n with
  | zero => intro i a h1 h2; omega
  | succ n ih =>
    intro i a h1 h2 ha
    by_cases h : i < a.length
    · have c0 : decide ((i : Int) < ((a.length : Nat) : Int)) = true := by simpa using h
      have ci : (0 : Int) ≤ (i : Int) ∧ (i : Int) < ((a.length : Nat) : Int) := by omega
      simp only [g_tarnlaw0_Nodes_l1, p_lt, c0, p_brt, p_gd ci, Int.toNat_natCast, inc_a (show i < 100000 by omega)]
      obtain ⟨b, hb, e⟩ := ih (i + 1) (a.set i (TNode.mk ((-9)) (TRank.mk 0 (TU256.mk 0 0 0 0)))) (by simp; omega) (by simp; omega) (by simpa using ha)
      exact ⟨b, by simpa using hb, e⟩
    · have c0 : decide ((i : Int) < ((a.length : Nat) : Int)) = false := by simpa using h
      simp only [g_tarnlaw0_Nodes_l1, p_lt, c0, p_brf]
      exact ⟨a, rfl, rfl⟩
theorem nodes_is (l : List TNode) (fuel : Nat) (hl : l.length ≤ 1000) : g_tarnlaw0_Nodes (fuel + 2000) l = some () := by
  unfold g_tarnlaw0_Nodes
  rw [p_jn]
  obtain ⟨b, hb, e⟩ := nodes_l1 (fuel + 2000) (fun l5 => gd ((List.length l5 + List.length (([TNode.mk 0 (TRank.mk 0 (TU256.mk 0 0 0 0))] : List TNode))) * 48 ≤ 140737488355328) <| lt (l5 ++ (([TNode.mk 0 (TRank.mk 0 (TU256.mk 0 0 0 0))] : List TNode))) fun l48 => some ()) (fuel + 2000) 0 l (by omega) (by omega) hl
  exact e.trans (p_gd (by simp only [List.length_cons, List.length_nil]; omega))
theorem eq_l1 (l : List TNode) (fuel : Nat) (hl : l.length ≤ 1000) : ∀ n i, i ≤ l.length → l.length < n + i →
    g_tarnref0_EqNodes_l1 l l (some true) fuel n (i : Int) = some true := by
  intro n
  induction n with
  | zero => intro i h1 h2; omega
  | succ n ih =>
    intro i h1 h2
    by_cases h : i < l.length
    · have c0 : decide ((i : Int) < ((l.length : Nat) : Int)) = true := by simpa using h
      have ci : (0 : Int) ≤ (i : Int) ∧ (i : Int) < ((l.length : Nat) : Int) := by omega
      simp only [g_tarnref0_EqNodes_l1, p_lt, c0, p_brt, p_gd ci, Int.toNat_natCast, List.getElem?_eq_getElem h, p_bd, inc_a (show i < 100000 by omega), decide_true, Bool.not_true, p_brf]
      exact ih (i + 1) (by omega) (by omega)
    · have c0 : decide ((i : Int) < ((l.length : Nat) : Int)) = false := by simpa using h
      simp only [g_tarnref0_EqNodes_l1, p_lt, c0, p_brf]
theorem eq_is (l : List TNode) (fuel : Nat) (hl : l.length ≤ 1000) : g_tarnref0_EqNodes (fuel + 2000) l l = some true := by
  simp only [g_tarnref0_EqNodes, p_lt, bne_self_eq_false, p_brf, p_jn]
  exact eq_l1 l _ hl (fuel + 2000) 0 (by omega) (by omega)

theorem push_both (fuel : Nat) (l : List TNode) (n : TNode) (hl : l.length ≤ 500) : ∃ x e, g_heap_Push (fuel + 3000) l n = some (x, e) ∧ x.length ≤ 9 ∧
    ((isH l && okN n) = true → g_tarnref12_Push (fuel + 3000) l n = some (x, e)) ∧ ((isH l && okN n) = false → x = [] ∧ e = 1) := by
  simp only [g_heap_Push, g_tarnref12_Push, p_lt, p_jn, check_is, p_bd, may_is, clone_is l (fuel + 3000) (by omega), copy_is l (fuel + 1000) (by omega), find_is l _ (fuel + 3000) (by omega) (by omega), place_is l _ (fuel + 3000) (by omega) (by omega)]
  by_cases h1 : isH l = true
  · obtain ⟨h8, hok⟩ := isH_ok h1
    by_cases h2 : okN n = true
    · simp only [h1, h2, if_true, bne_self_eq_false, p_brf, p_brt, Bool.not_true]
      by_cases h3 : fnd n.Acct l 0 ≥ 0
      · simp only [h3, decide_true, p_brt]
        exact ⟨[], 4, rfl, by simp, by simp, by simp⟩
      · simp only [h3, decide_false, p_brf]
        rw [p_gd (by simp only [List.length_cons, List.length_nil]; omega), p_gd (by simp only [List.length_cons, List.length_nil]; omega)]
        have hlen : (l ++ [n]).length = l.length + 1 := by simp
        rw [show wr .i64 ((((l ++ [n]).length : Nat) : Int) - 1) = ((l.length : Nat) : Int) from by rw [par_a (by omega) (by omega)]; omega]
        obtain ⟨l', j, e1, e2, e3, e4, e5⟩ := rise_is (fuel + 2800) (l ++ [n]) l.length (fun x hx => by
          rcases List.mem_append.1 hx with hx | hx
          · exact hok x hx
          · rw [List.mem_singleton.1 hx]; exact okN_A h2) (by omega) (by omega)
        rw [show g_heap_rise (fuel + 3000) (l ++ [n]) (l.length : Int) = _ from e1, show g_tarnref12_rises (fuel + 3000) (l ++ [n]) (l.length : Int) = _ from e2]
        exact ⟨l', 0, rfl, by omega, fun _ => rfl, by simp⟩
    · rw [Bool.not_eq_true] at h2
      simp only [h1, h2, if_true, bne_self_eq_false, p_brf, p_brt, Bool.not_false]
      exact ⟨[], 1, rfl, by simp, by simp, by simp⟩
  · rw [Bool.not_eq_true] at h1
    simp only [h1, Bool.false_eq_true, if_false, show ((1 : Int) != 0) = true from rfl, p_brt]
    exact ⟨[], 1, rfl, by simp, by simp, by simp⟩
theorem set_both (fuel : Nat) (l : List TNode) (n : TNode) (hl : l.length ≤ 500) : ∃ x e, g_heap_Set (fuel + 3000) l n = some (x, e) ∧ x.length ≤ 9 ∧
    ((isH l && okN n) = true → g_tarnref12_Set (fuel + 3000) l n = some (x, e)) ∧ ((isH l && okN n) = false → x = [] ∧ e = 1) := by
  simp only [g_heap_Set, g_tarnref12_Set, p_lt, p_jn, check_is, p_bd, may_is, clone_is l (fuel + 3000) (by omega), copy_is l (fuel + 1000) (by omega), find_is l _ (fuel + 3000) (by omega) (by omega), place_is l _ (fuel + 3000) (by omega) (by omega)]
  by_cases h1 : isH l = true
  · obtain ⟨h8, hok⟩ := isH_ok h1
    by_cases h2 : okN n = true
    · simp only [h1, h2, if_true, bne_self_eq_false, p_brf, p_brt, Bool.not_true]
      rcases fnd_range n.Acct l 0 with h3 | ⟨j, h3, hj⟩
      · simp only [h3, show decide ((-1 : Int) < 0) = true from rfl, p_brt]
        exact ⟨[], 3, rfl, by simp, by simp, by simp⟩
      · simp only [Nat.zero_add] at h3
        have c0 : decide ((j : Int) < 0) = false := by simp
        have cj : (0 : Int) ≤ (j : Int) ∧ (j : Int) < ((l.length : Nat) : Int) := by omega
        simp only [h3, c0, p_brf, p_gd cj, Int.toNat_natCast]
        obtain ⟨l', e1, e2, e3⟩ := settle_is (fuel + 2800) (l.set j n) j (fun x hx => by
          rcases List.mem_or_eq_of_mem_set hx with hx | rfl
          · exact hok x hx
          · exact okN_A h2) (by simpa using hj) (by simp; omega)
        rw [show g_heap_settle (fuel + 3000) (l.set j n) (j : Int) = _ from e1, show g_tarnref12_moves (fuel + 3000) (l.set j n) (j : Int) = _ from e2]
        exact ⟨l', 0, rfl, by simp at e3; omega, fun _ => rfl, by simp⟩
    · rw [Bool.not_eq_true] at h2
      simp only [h1, h2, if_true, bne_self_eq_false, p_brf, p_brt, Bool.not_false]
      exact ⟨[], 1, rfl, by simp, by simp, by simp⟩
  · rw [Bool.not_eq_true] at h1
    simp only [h1, Bool.false_eq_true, if_false, show ((1 : Int) != 0) = true from rfl, p_brt]
    exact ⟨[], 1, rfl, by simp, by simp, by simp⟩
theorem drop_both (fuel : Nat) (l : List TNode) (a : Int) (hl : l.length ≤ 500) : ∃ x e, g_heap_Drop (fuel + 3000) l a = some (x, e) ∧ x.length ≤ 9 ∧
    (isH l = true → g_tarnref12_Drop (fuel + 3000) l a = some (x, e)) ∧ (isH l = false → x = [] ∧ e = 1) := by
  simp only [g_heap_Drop, g_tarnref12_Drop, p_lt, p_jn, check_is, p_bd, may_is, copy_is l (fuel + 1000) (by omega), find_is l _ (fuel + 3000) (by omega) (by omega), place_is l _ (fuel + 3000) (by omega) (by omega)]
  by_cases h1 : isH l = true
  · obtain ⟨h8, hok⟩ := isH_ok h1
    simp only [h1, if_true, bne_self_eq_false, p_brf, p_brt, Bool.not_true]
    rcases fnd_range a l 0 with h3 | ⟨j, h3, hj⟩
    · simp only [h3, show decide ((-1 : Int) < 0) = true from rfl, p_brt]
      exact ⟨[], 3, rfl, by simp, by simp, by simp⟩
    · simp only [Nat.zero_add] at h3
      have hz : l.length - 1 < l.length := by omega
      have c0 : decide ((j : Int) < 0) = false := by simp
      have cj : (0 : Int) ≤ (j : Int) ∧ (j : Int) < ((l.length : Nat) : Int) := by omega
      have cz : (0 : Int) ≤ ((l.length - 1 : Nat) : Int) ∧ ((l.length - 1 : Nat) : Int) < ((l.length : Nat) : Int) := by omega
      have cc : (0 : Int) ≤ 0 ∧ 0 ≤ ((l.length - 1 : Nat) : Int) ∧ ((l.length - 1 : Nat) : Int) ≤ ((l.length : Nat) : Int) := by omega
      simp only [h3, c0, p_brf, par_a (show 0 < l.length by omega) (show l.length < 100000 by omega), p_gd cj, p_gd cz, p_gd cc, Int.toNat_natCast, List.getElem?_eq_getElem hz, p_bd, clone_is (l.take (l.length - 1)) (fuel + 3000) (by simp; omega)]
      by_cases hlt : j < l.length - 1
      · have c1 : decide ((j : Int) < ((l.length - 1 : Nat) : Int)) = true := decide_eq_true (by omega)
        have hT : (l.take (l.length - 1)).length = l.length - 1 := by simp
        have cg : (0 : Int) ≤ (j : Int) ∧ (j : Int) < (((l.take (l.length - 1)).length : Nat) : Int) := by omega
        simp only [c1, p_brt, p_gd cg]
        obtain ⟨l', e1, e2, e3⟩ := settle_is (fuel + 2800) ((l.take (l.length - 1)).set j l[l.length - 1]) j (fun x hx => by
          rcases List.mem_or_eq_of_mem_set hx with hx | rfl
          · exact hok x (List.mem_of_mem_take hx)
          · exact hok _ (List.getElem_mem hz)) (by simp; omega) (by simp; omega)
        rw [List.take_set, show g_heap_settle (fuel + 3000) _ (j : Int) = _ from e1, show g_tarnref12_moves (fuel + 3000) _ (j : Int) = _ from e2]
        exact ⟨l', 0, rfl, by simp at e3; omega, fun _ => rfl, by simp⟩
      · have c1 : decide ((j : Int) < ((l.length - 1 : Nat) : Int)) = false := decide_eq_false (by omega)
        have hs : (l.set j l[l.length - 1]).take (l.length - 1) = l.take (l.length - 1) := by
          rw [List.take_set, List.set_eq_of_length_le (by simp; omega)]
        have c2 : decide ((j : Int) < (((l.take (l.length - 1)).length : Nat) : Int)) = false := decide_eq_false (by simp; omega)
        simp only [c1, p_brf, hs, g_tarnref12_moves, p_lt, p_jn, c2, p_bd]
        exact ⟨_, 0, rfl, by simp; omega, fun _ => rfl, by simp⟩
  · rw [Bool.not_eq_true] at h1
    simp only [h1, Bool.false_eq_true, if_false, show ((1 : Int) != 0) = true from rfl, p_brt]
    exact ⟨[], 1, rfl, by simp, by simp, by simp⟩

theorem within5 (k : Nat) (d : Int) : ∃ t, g_tarnlaw0_Within k d 5 = some t := by
  simp only [g_tarnlaw0_Within, p_lt]
  rw [p_gd (of_decide_eq_true (by kernel_rfl))]
  exact ⟨_, rfl⟩
theorem tail_is (fuel : Nat) (l x : List TNode) (e : Int) (hl : l.length ≤ 500) (hx : x.length ≤ 9) : ∃ y, y.length ≤ 500 ∧ (bd (g_tarnref0_EqNodes (fuel + 3000) x x) fun t352 => br (!t352) (some (l, false)) (bd (g_tarnref0_EqNodes (fuel + 3000) l l) fun t357 => br (!t357) (some (l, false)) (br (e != 0) (some (l, true)) (bd (g_tarnlaw0_Nodes (fuel + 3000) x) fun t368 => bd (g_tarnref0_EqNodes (fuel + 3000) l l) fun t373 => some (x, t373))))) = some (y, true) := by
  rw [eq_is x (fuel + 1000) (by omega), eq_is l (fuel + 1000) (by omega), nodes_is x (fuel + 1000) (by omega)]
  simp only [p_bd, p_lt, Bool.not_true, p_brf]
  cases (e != 0)
  · exact ⟨x, by omega, rfl⟩
  · exact ⟨l, hl, rfl⟩
theorem step_is (fuel : Nat) (l : List TNode) (a : Ttarnlaw13_Act) (hl : l.length ≤ 500) : ∃ y, y.length ≤ 500 ∧ g_tarnlaw13_step (fuel + 3000) l a = some (y, true) := by
  obtain ⟨t, ht⟩ := within5 (fuel + 3000) a.Do
  have hn : (([] : List TNode).length ≤ 9) := by simp
  simp only [g_tarnlaw13_step, heap_is, copy_is l (fuel + 1000) (by omega), p_bd, p_jn, p_lt, ht, node_is, g_tarnlaw13_num]
  have P : ∃ y, y.length ≤ 500 ∧ (br (isH l)
        (br (okN a.N)
          (bd (g_tarnref12_Push (fuel + 3000) l a.N) fun t302 => bd (g_heap_Push (fuel + 3000) l a.N) fun t313 =>
            br (t313.2 != t302.snd) (some (l, false))
              (bd (g_tarnref0_EqNodes (fuel + 3000) t313.1 t302.fst) fun t352 =>
                br (!t352) (some (l, false))
                  (bd (g_tarnref0_EqNodes (fuel + 3000) l l) fun t357 =>
                    br (!t357) (some (l, false))
                      (br (t302.snd != 0) (some (l, true))
                        (bd (g_tarnlaw0_Nodes (fuel + 3000) t313.1) fun t368 =>
                          bd (g_tarnref0_EqNodes (fuel + 3000) l l) fun t373 => some (t302.fst, t373))))))
          (bd (g_heap_Push (fuel + 3000) l a.N) fun t313 => br (t313.2 != 1) (some (l, false))
            (bd (g_tarnref0_EqNodes (fuel + 3000) t313.1 []) fun t352 =>
              br (!t352) (some (l, false))
                (bd (g_tarnref0_EqNodes (fuel + 3000) l l) fun t357 =>
                  br (!t357) (some (l, false))
                    (br ((1 : Int) != 0) (some (l, true))
                      (bd (g_tarnlaw0_Nodes (fuel + 3000) t313.1) fun t368 =>
                        bd (g_tarnref0_EqNodes (fuel + 3000) l l) fun t373 => some ([], t373)))))))
        (br false
          (bd (g_tarnref12_Push (fuel + 3000) l a.N) fun t302 => bd (g_heap_Push (fuel + 3000) l a.N) fun t313 =>
            br (t313.2 != t302.snd) (some (l, false))
              (bd (g_tarnref0_EqNodes (fuel + 3000) t313.1 t302.fst) fun t352 =>
                br (!t352) (some (l, false))
                  (bd (g_tarnref0_EqNodes (fuel + 3000) l l) fun t357 =>
                    br (!t357) (some (l, false))
                      (br (t302.snd != 0) (some (l, true))
                        (bd (g_tarnlaw0_Nodes (fuel + 3000) t313.1) fun t368 =>
                          bd (g_tarnref0_EqNodes (fuel + 3000) l l) fun t373 => some (t302.fst, t373))))))
          (bd (g_heap_Push (fuel + 3000) l a.N) fun t313 => br (t313.2 != 1) (some (l, false))
            (bd (g_tarnref0_EqNodes (fuel + 3000) t313.1 []) fun t352 =>
              br (!t352) (some (l, false))
                (bd (g_tarnref0_EqNodes (fuel + 3000) l l) fun t357 =>
                  br (!t357) (some (l, false))
                    (br ((1 : Int) != 0) (some (l, true))
                      (bd (g_tarnlaw0_Nodes (fuel + 3000) t313.1) fun t368 =>
                        bd (g_tarnref0_EqNodes (fuel + 3000) l l) fun t373 => some ([], t373)))))))) = some (y, true) := by
    obtain ⟨x, e, h1, h2, h3, h4⟩ := push_both fuel l a.N hl
    rw [h1]
    cases hH : isH l <;> cases hN : okN a.N <;> simp only [hH, hN, Bool.and_true, Bool.and_false, Bool.and_self, Bool.true_eq_false, Bool.false_eq_true, true_implies, false_implies] at h3 h4
    all_goals simp only [p_brt, p_brf, p_bd]
    · obtain ⟨rfl, rfl⟩ := h4; exact tail_is fuel l [] 1 hl hn
    · obtain ⟨rfl, rfl⟩ := h4; exact tail_is fuel l [] 1 hl hn
    · obtain ⟨rfl, rfl⟩ := h4; exact tail_is fuel l [] 1 hl hn
    · rw [h3]; simp only [p_bd, bne_self_eq_false, p_brf]; exact tail_is fuel l x e hl h2
  have S : ∃ y, y.length ≤ 500 ∧ (br (isH l)
        (br (okN a.N)
          (bd (g_tarnref12_Set (fuel + 3000) l a.N) fun t302 => bd (g_heap_Set (fuel + 3000) l a.N) fun t313 =>
            br (t313.2 != t302.snd) (some (l, false))
              (bd (g_tarnref0_EqNodes (fuel + 3000) t313.1 t302.fst) fun t352 =>
                br (!t352) (some (l, false))
                  (bd (g_tarnref0_EqNodes (fuel + 3000) l l) fun t357 =>
                    br (!t357) (some (l, false))
                      (br (t302.snd != 0) (some (l, true))
                        (bd (g_tarnlaw0_Nodes (fuel + 3000) t313.1) fun t368 =>
                          bd (g_tarnref0_EqNodes (fuel + 3000) l l) fun t373 => some (t302.fst, t373))))))
          (bd (g_heap_Set (fuel + 3000) l a.N) fun t313 => br (t313.2 != 1) (some (l, false))
            (bd (g_tarnref0_EqNodes (fuel + 3000) t313.1 []) fun t352 =>
              br (!t352) (some (l, false))
                (bd (g_tarnref0_EqNodes (fuel + 3000) l l) fun t357 =>
                  br (!t357) (some (l, false))
                    (br ((1 : Int) != 0) (some (l, true))
                      (bd (g_tarnlaw0_Nodes (fuel + 3000) t313.1) fun t368 =>
                        bd (g_tarnref0_EqNodes (fuel + 3000) l l) fun t373 => some ([], t373)))))))
        (br false
          (bd (g_tarnref12_Set (fuel + 3000) l a.N) fun t302 => bd (g_heap_Set (fuel + 3000) l a.N) fun t313 =>
            br (t313.2 != t302.snd) (some (l, false))
              (bd (g_tarnref0_EqNodes (fuel + 3000) t313.1 t302.fst) fun t352 =>
                br (!t352) (some (l, false))
                  (bd (g_tarnref0_EqNodes (fuel + 3000) l l) fun t357 =>
                    br (!t357) (some (l, false))
                      (br (t302.snd != 0) (some (l, true))
                        (bd (g_tarnlaw0_Nodes (fuel + 3000) t313.1) fun t368 =>
                          bd (g_tarnref0_EqNodes (fuel + 3000) l l) fun t373 => some (t302.fst, t373))))))
          (bd (g_heap_Set (fuel + 3000) l a.N) fun t313 => br (t313.2 != 1) (some (l, false))
            (bd (g_tarnref0_EqNodes (fuel + 3000) t313.1 []) fun t352 =>
              br (!t352) (some (l, false))
                (bd (g_tarnref0_EqNodes (fuel + 3000) l l) fun t357 =>
                  br (!t357) (some (l, false))
                    (br ((1 : Int) != 0) (some (l, true))
                      (bd (g_tarnlaw0_Nodes (fuel + 3000) t313.1) fun t368 =>
                        bd (g_tarnref0_EqNodes (fuel + 3000) l l) fun t373 => some ([], t373)))))))) = some (y, true) := by
    obtain ⟨x, e, h1, h2, h3, h4⟩ := set_both fuel l a.N hl
    rw [h1]
    cases hH : isH l <;> cases hN : okN a.N <;> simp only [hH, hN, Bool.and_true, Bool.and_false, Bool.and_self, Bool.true_eq_false, Bool.false_eq_true, true_implies, false_implies] at h3 h4
    all_goals simp only [p_brt, p_brf, p_bd]
    · obtain ⟨rfl, rfl⟩ := h4; exact tail_is fuel l [] 1 hl hn
    · obtain ⟨rfl, rfl⟩ := h4; exact tail_is fuel l [] 1 hl hn
    · obtain ⟨rfl, rfl⟩ := h4; exact tail_is fuel l [] 1 hl hn
    · rw [h3]; simp only [p_bd, bne_self_eq_false, p_brf]; exact tail_is fuel l x e hl h2
  have D : ∃ y, y.length ≤ 500 ∧ (br (isH l)
          (bd (g_tarnref12_Drop (fuel + 3000) l a.N.Acct) fun t302 => bd (g_heap_Drop (fuel + 3000) l a.N.Acct) fun t313 =>
            br (t313.2 != t302.snd) (some (l, false))
              (bd (g_tarnref0_EqNodes (fuel + 3000) t313.1 t302.fst) fun t352 =>
                br (!t352) (some (l, false))
                  (bd (g_tarnref0_EqNodes (fuel + 3000) l l) fun t357 =>
                    br (!t357) (some (l, false))
                      (br (t302.snd != 0) (some (l, true))
                        (bd (g_tarnlaw0_Nodes (fuel + 3000) t313.1) fun t368 =>
                          bd (g_tarnref0_EqNodes (fuel + 3000) l l) fun t373 => some (t302.fst, t373))))))
          (bd (g_heap_Drop (fuel + 3000) l a.N.Acct) fun t313 => br (t313.2 != 1) (some (l, false))
            (bd (g_tarnref0_EqNodes (fuel + 3000) t313.1 []) fun t352 =>
              br (!t352) (some (l, false))
                (bd (g_tarnref0_EqNodes (fuel + 3000) l l) fun t357 =>
                  br (!t357) (some (l, false))
                    (br ((1 : Int) != 0) (some (l, true))
                      (bd (g_tarnlaw0_Nodes (fuel + 3000) t313.1) fun t368 =>
                        bd (g_tarnref0_EqNodes (fuel + 3000) l l) fun t373 => some ([], t373))))))) = some (y, true) := by
    obtain ⟨x, e, h1, h2, h3, h4⟩ := drop_both fuel l a.N.Acct hl
    rw [h1]
    cases hH : isH l <;> simp only [hH, Bool.true_eq_false, Bool.false_eq_true, true_implies, false_implies] at h3 h4
    all_goals simp only [p_brt, p_brf, p_bd]
    · obtain ⟨rfl, rfl⟩ := h4; exact tail_is fuel l [] 1 hl hn
    · rw [h3]; simp only [p_bd, bne_self_eq_false, p_brf]; exact tail_is fuel l x e hl h2
  cases h0 : (t == 0)
  · simp only [p_brf]
    cases h1 : (t == 1)
    · simp only [p_brf]
      cases h2 : (t == 2)
      · simp only [p_brf]
        cases h3 : (t == 3)
        · exact D
        · exact S
      · exact S
    · exact P
  · exact P
theorem wakes_is : g_tarnlaw13_wakes 4000 = some true := by kernel_rfl
theorem heavy_is (fuel : Nat) (l : List TNode) (m : List Ttarnlaw13_Act) : g_tarnlaw13_heavy fuel l m = some (!(decide (l.length ≤ 500) && decide (m.length ≤ 500))) := by
  have e1 : decide (((l.length : Nat) : Int) > 500) = !decide (l.length ≤ 500) := by rw [← decide_not]; apply decide_eq_decide.2; omega
  have e2 : decide (((m.length : Nat) : Int) > 500) = !decide (m.length ≤ 500) := by rw [← decide_not]; apply decide_eq_decide.2; omega
  simp only [g_tarnlaw13_heavy, p_lt, p_jn, e1, e2]
  cases decide (l.length ≤ 500) <;> cases decide (m.length ≤ 500) <;> rfl
theorem only_l1 (m : List Ttarnlaw13_Act) (l : List TNode) (d : Int) (hl : l.length ≤ 500) (hm : m.length ≤ 500) : ∀ n i, i ≤ m.length → m.length < n + i →
    g_tarnlaw13_only_l1 m 4000 l d (some true) n (i : Int) = some true := by
  intro n
  induction n with
  | zero => intro i h1 h2; omega
  | succ n ih =>
    intro i h1 h2
    by_cases h : i < m.length
    · have c0 : decide ((i : Int) < ((m.length : Nat) : Int)) = true := by simpa using h
      have ci : (0 : Int) ≤ (i : Int) ∧ (i : Int) < ((m.length : Nat) : Int) := by omega
      obtain ⟨y, _, hs⟩ := step_is 1000 l (Ttarnlaw13_Act.mk d m[i].N) hl
      simp only [g_tarnlaw13_only_l1, p_lt, p_jn, c0, p_brt]
      by_cases h25 : (i : Int) < 25
      · simp only [h25, decide_true, p_brt, p_gd ci, Int.toNat_natCast, List.getElem?_eq_getElem h, p_bd, inc_a (show i < 100000 by omega)]
        rw [show g_tarnlaw13_step 4000 l (Ttarnlaw13_Act.mk d m[i].N) = _ from hs]
        simp only [p_bd, Bool.not_true, p_brf]
        exact ih (i + 1) (by omega) (by omega)
      · simp only [h25, decide_false, p_brf]
    · have c0 : decide ((i : Int) < ((m.length : Nat) : Int)) = false := by simpa using h
      simp only [g_tarnlaw13_only_l1, p_lt, p_jn, c0, p_brf]
theorem only_is (l : List TNode) (m : List Ttarnlaw13_Act) (d : Int) : g_tarnlaw13_only 4000 l m d = some true := by
  simp only [g_tarnlaw13_only, heavy_is, p_bd]
  by_cases h1 : l.length ≤ 500
  · by_cases h2 : m.length ≤ 500
    · simp only [h1, h2, decide_true, Bool.and_self, Bool.not_true, p_brf, p_jn, wakes_is, p_bd]
      exact only_l1 m l d h1 h2 4000 0 (by omega) (by omega)
    · simp only [h2, decide_false, Bool.and_false, Bool.not_false, p_brt]
  · simp only [h1, decide_false, Bool.false_and, Bool.not_false, p_brt]
theorem pushes_law (l : List TNode) (m : List Ttarnlaw13_Act) : g_tarnlaw13_HeapPushes 4000 l m = some true := by
  simp only [g_tarnlaw13_HeapPushes, only_is, p_bd]
theorem sets_law (l : List TNode) (m : List Ttarnlaw13_Act) : g_tarnlaw13_HeapSets 4000 l m = some true := by
  simp only [g_tarnlaw13_HeapSets, only_is, p_bd]
theorem drops_law (l : List TNode) (m : List Ttarnlaw13_Act) : g_tarnlaw13_HeapDrops 4000 l m = some true := by
  simp only [g_tarnlaw13_HeapDrops, only_is, p_bd]

end Go.Proofs
