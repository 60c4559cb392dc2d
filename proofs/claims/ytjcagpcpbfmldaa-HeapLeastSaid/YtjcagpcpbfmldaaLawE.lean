import Derived.Test.YtjcagpcpbfmldaaLawD
/- All of a heap, in order. -/
set_option linter.unusedVariables false
set_option linter.unusedSimpArgs false
set_option maxRecDepth 100000
namespace Go.Proofs
open Gw Go.RowKit Go.IntWalk

abbrev takeq (p : Int) : TNode → List TNode × Nat → Option ((List TNode × Nat) × Bool) :=
  rq (fun (x : TNode) (l : List TNode) => lt ((((List.length l : Nat) : Int)) == p) fun c => br c (some ((l, 1), false)) (gd ((List.length l + List.length (([x] : List TNode))) * 48 ≤ 140737488355328) <| lt (l ++ (([x] : List TNode))) fun l2 => some ((l2, 0), true)))
theorem takeq_stop (x : TNode) (l : List TNode) : takeq ((l.length : Nat) : Int) x (l, 0) = some ((l, 1), false) := by
  simp [takeq, rq, p_lt, p_brt]
theorem takeq_on (x : TNode) (l : List TNode) (p : Nat) (h : l.length < p) (hl : l.length ≤ 1000) : takeq ((p : Nat) : Int) x (l, 0) = some ((l ++ [x], 0), true) := by
  have : ((((l.length : Nat) : Int)) == ((p : Nat) : Int)) = false := by simp; omega
  simp only [takeq, rq, p_lt, this, p_brf]
  rw [p_gd (by simp only [List.length_cons, List.length_nil]; omega)]
theorem order2_loop (fuel p : Nat) : ∀ (m : Nat) (h acc : List TNode) (n : Nat), isH h = true → h.length = m → m < n → acc.length ≤ p → acc.length + m ≤ 500 →
    ∃ j, j ≤ 1 ∧ g_heap_Order_2_l1 (takeq (p : Int)) (fuel + 3000) (fun s => some s) n (acc, 0) h = some (acc ++ (srt [] h).take (p - acc.length), j) := by
  intro m
  induction m with
  | zero =>
    intro h acc n hH hl hn ha hb
    obtain ⟨n, rfl⟩ : ∃ k, n = k + 1 := ⟨n - 1, by omega⟩
    have : h = [] := List.eq_nil_of_length_eq_zero hl
    subst this
    exact ⟨0, by omega, by simp [g_heap_Order_2_l1, p_lt, p_brf, srt]⟩
  | succ m ih =>
    intro h acc n hH hl hn ha hb
    obtain ⟨n, rfl⟩ : ∃ k, n = k + 1 := ⟨n - 1, by omega⟩
    cases h with
    | nil => simp at hl
    | cons x r =>
      have c0 : decide ((((x :: r).length : Nat) : Int) > 0) = true := decide_eq_true (by simp only [List.length_cons]; omega)
      have c1 : (0 : Int) ≤ 0 ∧ 0 < (((x :: r).length : Nat) : Int) := ⟨by omega, by simp only [List.length_cons]; omega⟩
      obtain ⟨h', e1, e2, e3⟩ := drop_root fuel hH rfl
      have es := srt_drop hH rfl e2 e3
      simp only [g_heap_Order_2_l1, p_lt, c0, p_brt, p_gd c1, show Int.toNat 0 = 0 from rfl, List.getElem?_cons_zero, p_bd]
      by_cases hp : acc.length = p
      · subst hp
        rw [takeq_stop]
        exact ⟨1, by omega, by simp [bd2, p_brt]⟩
      · rw [takeq_on x acc p (by omega) (by omega)]
        simp only [bd2, Bool.not_true, p_brf, e1, p_bd]
        obtain ⟨j, hj, e⟩ := ih h' (acc ++ [x]) n e2 (by have := e3.length_eq; simp at hl; omega) (by omega) (by simp; omega) (by simp; omega)
        refine ⟨j, hj, e.trans ?_⟩
        rw [es]
        have : p - acc.length = (p - (acc ++ [x]).length) + 1 := by simp; omega
        rw [this, List.take_succ_cons]
        simp
theorem order_is_take (fuel p : Nat) (l : List TNode) (hl : l.length ≤ 500) : g_tarnlaw13_order (fuel + 3000) l (p : Int) = some (if isH l = true then (srt [] l).take p else []) := by
  simp only [g_tarnlaw13_order, g_heap_Order, check_is, p_bd, p_lt, p_jn]
  by_cases h : isH l = true
  · simp only [h, if_true, bne_self_eq_false, p_brf, clone_is l (fuel + 3000) (by omega), p_bd, It_heap_Order.ap, g_heap_Order_2, p_jn]
    obtain ⟨j, hj, e⟩ := order2_loop fuel p l.length l [] (fuel + 3000) h rfl (by omega) (by simp) (by simp; omega)
    simp only [takeq, p_lt] at e
    rw [e]
    simp only [bd2, List.nil_append, List.length_nil, Nat.sub_zero]
    rcases j with _ | _ | j
    · rfl
    · rfl
    · omega
  · rw [Bool.not_eq_true] at h
    simp only [h, Bool.false_eq_true, if_false, show ((1 : Int) != 0) = true from rfl, p_brt, p_bd, It_heap_Order.ap, g_heap_Order_1, bd2]
    rfl

theorem eq_no (a b : List TNode) (fuel : Nat) (h : a = b) (hl : a.length ≤ 1000) : g_tarnref0_EqNodes (fuel + 2000) a b = some true := by subst h; exact eq_is a fuel hl
theorem orders_l1 (l want : List TNode) (K : Option Bool) (hl : l.length ≤ 500) (hw : want = if isH l = true then srt [] l else []) : ∀ n i, i ≤ want.length + 1 → want.length + 1 < n + i →
    g_tarnlaw13_HeapOrders_l1 want 4000 l K n (i : Int) = K := by
  have hwl : want.length ≤ 500 := by
    rw [hw]; split
    · rw [srt_len]; simp; exact hl
    · simp
  intro n
  induction n with
  | zero => intro i h1 h2; omega
  | succ n ih =>
    intro i h1 h2
    by_cases hi : i ≤ want.length
    · have c0 : decide ((i : Int) ≤ ((want.length : Nat) : Int)) = true := decide_eq_true (by omega)
      have ci : (0 : Int) ≤ 0 ∧ 0 ≤ (i : Int) ∧ (i : Int) ≤ ((want.length : Nat) : Int) := by omega
      have e1 := order_is_take 1000 i l hl
      have e2 : (if isH l = true then (srt [] l).take i else []) = want.take i := by rw [hw]; split <;> simp
      simp only [g_tarnlaw13_HeapOrders_l1, p_lt, p_jn, c0, p_brt]
      rw [show g_tarnlaw13_order 4000 l (i : Int) = _ from e1]
      simp only [p_bd, p_gd ci, Int.toNat_natCast]
      rw [show g_tarnref0_EqNodes 4000 _ _ = some true from eq_no _ _ 2000 e2 (by rw [e2]; simp; omega)]
      simp only [p_bd, Bool.not_true, p_brf, inc_a (show i < 100000 by omega)]
      exact ih (i + 1) (by omega) (by omega)
    · have c0 : decide ((i : Int) ≤ ((want.length : Nat) : Int)) = false := decide_eq_false (by omega)
      simp only [g_tarnlaw13_HeapOrders_l1, p_lt, p_jn, c0, p_brf]
theorem orders_l2 (want : List TNode) (K : Option Bool) (hl : want.length ≤ 500) (hs : sorted want) : ∀ n i, 0 < i → i ≤ want.length + 1 → want.length + 1 < n + i →
    g_tarnlaw13_HeapOrders_l2 want 4000 K n (i : Int) = K := by
  intro n
  induction n with
  | zero =>
    intro i h1 h2 h3; omega
  | succ n ih =>
    intro i h1 h2 h3
    by_cases hi : i < want.length
    · have c0 : decide ((i : Int) < ((want.length : Nat) : Int)) = true := decide_eq_true (by omega)
      have ci : (0 : Int) ≤ (i : Int) ∧ (i : Int) < ((want.length : Nat) : Int) := by omega
      have cp : (0 : Int) ≤ ((i - 1 : Nat) : Int) ∧ ((i - 1 : Nat) : Int) < ((want.length : Nat) : Int) := by omega
      have hp : i - 1 < want.length := by omega
      have hb : bel want[i - 1] want[i] = true := List.pairwise_iff_getElem.1 hs (i - 1) i hp hi (by omega)
      simp only [g_tarnlaw13_HeapOrders_l2, p_lt, c0, p_brt, par_a h1 (show i < 100000 by omega), p_gd ci, p_gd cp, Int.toNat_natCast, List.getElem?_eq_getElem hi, List.getElem?_eq_getElem hp, p_bd, below_is, hb, Bool.not_true, p_brf, inc_a (show i < 100000 by omega)]
      exact ih (i + 1) (by omega) (by omega) (by omega)
    · have c0 : decide ((i : Int) < ((want.length : Nat) : Int)) = false := decide_eq_false (by omega)
      simp only [g_tarnlaw13_HeapOrders_l2, p_lt, c0, p_brf]
theorem orders_law (l : List TNode) (m : List Ttarnlaw13_Act) : g_tarnlaw13_HeapOrders 4000 l m = some true := by
  simp only [g_tarnlaw13_HeapOrders, heavy_is, p_bd]
  by_cases h1 : l.length ≤ 500
  · by_cases h2 : m.length ≤ 500
    · simp only [h1, h2, decide_true, Bool.and_self, Bool.not_true, p_brf, p_jn, wakes_is, p_bd, heap_is l 3900]
      have go : ∀ want : List TNode, (want = if isH l = true then srt [] l else []) → sorted want → g_tarnlaw13_HeapOrders_l1 want 4000 l (g_tarnlaw13_HeapOrders_l2 want 4000 (some true) 4000 1) 4000 0 = some true := by
        intro want hw hs
        have hwl : want.length ≤ 500 := by
          rw [hw]; split
          · rw [srt_len]; simp; exact h1
          · simp
        rw [show g_tarnlaw13_HeapOrders_l1 want 4000 l _ 4000 0 = _ from orders_l1 l want _ h1 hw 4000 0 (by omega) (by omega)]
        exact orders_l2 want _ hwl hs 4000 1 (by omega) (by omega) (by omega)
      by_cases hH : isH l = true
      · simp only [hH, p_brt, order_all l 1000 h1, p_bd]
        obtain ⟨_, _, hd, _⟩ := isH_all hH
        exact go _ (by simp [hH]) (srt_sorted l [] (by simp [sorted]) (by simpa using hd))
      · rw [Bool.not_eq_true] at hH
        simp only [hH, p_brf]
        exact go [] (by simp [hH]) (by simp [sorted])
    · simp only [h2, decide_false, Bool.and_false, Bool.not_false, p_brt]
  · simp only [h1, decide_false, Bool.false_and, Bool.not_false, p_brt]
end Go.Proofs
