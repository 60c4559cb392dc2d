import Derived.Test.YtjcagpcpbfmldaaLaw
/- The least of a heap, and all in order. -/
set_option linter.unusedVariables false
set_option linter.unusedSimpArgs false
set_option maxRecDepth 100000
namespace Go.Proofs
open Gw Go.RowKit Go.IntWalk

theorem bel_iff (a b : TNode) : bel a b = true ↔ (a.Rank.Dist < b.Rank.Dist ∨ (a.Rank.Dist = b.Rank.Dist ∧ (a.Rank.Tip.e3 < b.Rank.Tip.e3 ∨ (a.Rank.Tip.e3 = b.Rank.Tip.e3 ∧ (a.Rank.Tip.e2 < b.Rank.Tip.e2 ∨ (a.Rank.Tip.e2 = b.Rank.Tip.e2 ∧
    (a.Rank.Tip.e1 < b.Rank.Tip.e1 ∨ (a.Rank.Tip.e1 = b.Rank.Tip.e1 ∧ (a.Rank.Tip.e0 < b.Rank.Tip.e0 ∨ (a.Rank.Tip.e0 = b.Rank.Tip.e0 ∧ a.Acct < b.Acct)))))))))) := by
  simp only [bel, Bool.or_eq_true, Bool.and_eq_true, decide_eq_true_eq]
  unfold cR cU
  repeat' split
  all_goals omega
theorem bel_trans {a b c : TNode} (h1 : bel a b = true) (h2 : bel b c = true) : bel a c = true := by
  rw [bel_iff] at *
  omega
theorem bel_total {a b : TNode} (h : a.Acct ≠ b.Acct) (h1 : bel a b = false) : bel b a = true := by
  have h2 : ¬ (bel a b = true) := by simp [h1]
  rw [bel_iff] at *
  omega
theorem bel_irrefl (a : TNode) : bel a a = false := by
  have : ¬ (bel a a = true) := by rw [bel_iff]; omega
  simpa using this
theorem bel_asymm {a b : TNode} (h : bel a b = true) : bel b a = false := by
  have : ¬ (bel b a = true) := by intro h2; have := bel_trans h h2; rw [bel_irrefl] at this; cases this
  simpa using this

def ins (x : TNode) (l : List TNode) : List TNode := l.takeWhile (bel · x) ++ x :: l.dropWhile (bel · x)
def srt : List TNode → List TNode → List TNode
  | acc, [] => acc
  | acc, x :: r => srt (ins x acc) r
theorem ins_len (x : TNode) (l : List TNode) : (ins x l).length = l.length + 1 := by
  have := congrArg List.length (List.takeWhile_append_dropWhile (p := (bel · x)) (l := l))
  simp only [List.length_append] at this
  simp only [ins, List.length_append, List.length_cons]; omega
theorem srt_len (r : List TNode) : ∀ acc, (srt acc r).length = acc.length + r.length := by
  induction r with
  | nil => intro acc; simp [srt]
  | cons x r ih => intro acc; rw [srt, ih, ins_len]; simp only [List.length_cons]; omega

theorem order_l2 (l h : List TNode) (i : Nat) (x : TNode) (hx : h[i]? = some x) (fuel : Nat) (K : Int → Option (List TNode)) (hl : l.length ≤ 1000) : ∀ n j, j ≤ l.length → l.length < n + j →
    g_tarnref12_Order_l2 K l (i : Int) h (fuel + 5) n (j : Int) = K ((j + ((l.drop j).takeWhile (bel · x)).length : Nat) : Int) := by
  have hi : i < h.length := (List.getElem?_eq_some_iff.1 hx).1
  have ci : (0 : Int) ≤ (i : Int) ∧ (i : Int) < ((h.length : Nat) : Int) := by omega
  intro n
  induction n with
  | zero => intro j h1 h2; omega
  | succ n ih =>
    intro j h1 h2
    by_cases hj : j < l.length
    · have c0 : decide ((j : Int) < ((l.length : Nat) : Int)) = true := decide_eq_true (by omega)
      have cj : (0 : Int) ≤ (j : Int) ∧ (j : Int) < ((l.length : Nat) : Int) := by omega
      simp only [g_tarnref12_Order_l2, p_lt, p_jn, c0, p_brt, p_gd ci, p_gd cj, Int.toNat_natCast, List.getElem?_eq_getElem hj, hx, p_bd, below_is, inc_a (show j < 100000 by omega)]
      rw [List.drop_eq_getElem_cons hj, List.takeWhile_cons]
      by_cases hb : bel l[j] x = true
      · simp only [hb, p_brt, if_true]
        rw [ih (j + 1) (by omega) (by omega)]
        congr 1
        simp only [List.length_cons]; omega
      · rw [Bool.not_eq_true] at hb
        simp only [hb, p_brf, Bool.false_eq_true, if_false, List.length_nil, Nat.add_zero]
    · have c0 : decide ((j : Int) < ((l.length : Nat) : Int)) = false := decide_eq_false (by omega)
      simp only [g_tarnref12_Order_l2, p_lt, p_jn, c0, p_brf]
      rw [List.drop_eq_nil_of_le (by omega)]; simp
theorem order_l1 (h : List TNode) (fuel : Nat) (K : List TNode → Option (List TNode)) (hl : h.length ≤ 500) : ∀ n i acc, i ≤ h.length → h.length < n + i → acc.length = i →
    g_tarnref12_Order_l1 h (fuel + 3000) K n acc (i : Int) = K (srt acc (h.drop i)) := by
  intro n
  induction n with
  | zero => intro i acc h1 h2; omega
  | succ n ih =>
    intro i acc h1 h2 ha
    by_cases hi : i < h.length
    · have c0 : decide ((i : Int) < ((h.length : Nat) : Int)) = true := decide_eq_true (by omega)
      have ci : (0 : Int) ≤ (i : Int) ∧ (i : Int) < ((h.length : Nat) : Int) := by omega
      have hx := List.getElem?_eq_getElem hi
      simp only [g_tarnref12_Order_l1, p_lt, p_jn, c0, p_brt]
      have e := order_l2 acc h i h[i] hx (fuel + 2995) (fun x134 => gd ((0 : Int) ≤ 0 ∧ 0 ≤ x134 ∧ x134 ≤ ((List.length acc : Nat) : Int)) <| bd (g_tarnref0_CopyNodes (fuel + 3000) ((List.take (Int.toNat x134) acc))) fun t223 => gd ((0 : Int) ≤ (i : Int) ∧ (i : Int) < ((List.length h : Nat) : Int)) <| bd (h[Int.toNat (i : Int)]?) fun x228 => gd ((List.length t223 + List.length (([x228] : List TNode))) * 48 ≤ 140737488355328) <| (gd ((0 : Int) ≤ x134 ∧ x134 ≤ (((List.length acc : Nat) : Int)) ∧ (((List.length acc : Nat) : Int)) ≤ ((List.length acc : Nat) : Int)) <| gd ((List.length (t223 ++ (([x228] : List TNode))) + List.length ((List.drop (Int.toNat x134) (List.take (Int.toNat (((List.length acc : Nat) : Int))) acc)))) * 48 ≤ 140737488355328) <| g_tarnref12_Order_l1 h (fuel + 3000) K n ((t223 ++ (([x228] : List TNode))) ++ ((List.drop (Int.toNat x134) (List.take (Int.toNat (((List.length acc : Nat) : Int))) acc)))) (wr .i64 ((i : Int) + 1)))) (by omega) (fuel + 3000) 0 (by omega) (by omega)
      refine Eq.trans e ?_
      simp only [List.drop_zero, Nat.zero_add]
      have hk : (acc.takeWhile (bel · h[i])).length ≤ acc.length := (List.takeWhile_sublist _).length_le
      rw [p_gd (by omega)]
      simp only [Int.toNat_natCast, copy_is _ (fuel + 1000) (show (acc.take (acc.takeWhile (bel · h[i])).length).length ≤ 1000 by simp; omega), p_bd, p_gd ci, hx]
      rw [p_gd (by simp only [List.length_take, List.length_cons, List.length_nil]; omega), p_gd (by omega), p_gd (by simp only [List.length_append, List.length_drop, List.length_take, List.length_cons, List.length_nil]; omega)]
      have e1 : acc.take (acc.takeWhile (bel · h[i])).length = acc.takeWhile (bel · h[i]) := by
        conv => lhs; arg 2; rw [← List.takeWhile_append_dropWhile (p := (bel · h[i])) (l := acc)]
        exact List.take_left
      have e2 : acc.drop (acc.takeWhile (bel · h[i])).length = acc.dropWhile (bel · h[i]) := by
        conv => lhs; arg 2; rw [← List.takeWhile_append_dropWhile (p := (bel · h[i])) (l := acc)]
        exact List.drop_left
      rw [List.take_length, e1, e2, inc_a (show i < 100000 by omega)]
      have e3 : (acc.takeWhile (bel · h[i]) ++ [h[i]]) ++ acc.dropWhile (bel · h[i]) = ins h[i] acc := by simp [ins]
      rw [e3, ih (i + 1) (ins h[i] acc) (by omega) (by omega) (by rw [ins_len]; omega), List.drop_eq_getElem_cons hi]
      rfl
    · have c0 : decide ((i : Int) < ((h.length : Nat) : Int)) = false := decide_eq_false (by omega)
      simp only [g_tarnref12_Order_l1, p_lt, p_jn, c0, p_brf]
      rw [List.drop_eq_nil_of_le (by omega)]; rfl
theorem order_all (h : List TNode) (fuel : Nat) (hl : h.length ≤ 500) : g_tarnref12_Order (fuel + 3000) h = some (srt [] h) :=
  order_l1 h fuel _ hl (fuel + 3000) 0 [] (by omega) (by omega) rfl

/-- A heap's first is below every other one. -/
theorem fnd_eq {a : Int} : ∀ {l : List TNode} {i j : Nat} {x : TNode}, l[j]? = some x → x.Acct = a → ∃ k, fnd a l i = ((i + k : Nat) : Int) ∧ k ≤ j
  | [], i, j, x, hx, _ => by simp at hx
  | y :: r, i, j, x, hx, ha => by
    unfold fnd
    by_cases h : y.Acct = a
    · exact ⟨0, by simp [h], by omega⟩
    · rw [if_neg h]
      cases j with
      | zero => simp at hx; subst hx; exact absurd ha h
      | succ j =>
        obtain ⟨k, e, hk⟩ := fnd_eq (i := i + 1) (by simpa using hx) ha
        exact ⟨k + 1, by rw [e]; congr 1; omega, by omega⟩
theorem isH_good {l : List TNode} (h : isH l = true) : ∀ i, i < l.length → good l i = true := by
  simp only [isH, Bool.and_eq_true, decide_eq_true_eq] at h
  exact fun i hi => chk_good h.2 i (by omega) (by omega)
theorem isH_distinct {l : List TNode} (h : isH l = true) {i j : Nat} (hi : i < l.length) (hj : j < l.length) (hij : i < j) : l[i].Acct ≠ l[j].Acct := by
  intro e
  have g := isH_good h j hj
  simp only [good, List.getElem?_eq_getElem hj, Bool.and_eq_true, decide_eq_true_eq] at g
  obtain ⟨k, e2, hk⟩ := fnd_eq (i := 0) (List.getElem?_eq_getElem hi) e
  rw [g.2.1] at e2
  omega
theorem isH_least {l : List TNode} (h : isH l = true) : ∀ (i : Nat) (h0 : 0 < i) (hi : i < l.length), bel (l[0]'(by omega)) l[i] = true := by
  intro i
  induction i using Nat.strongRecOn with
  | _ i ih =>
    intro h0 hi
    have hp : (i - 1) / 2 < l.length := by omega
    have g := isH_good h i hi
    simp only [good, List.getElem?_eq_getElem hi, List.getElem?_eq_getElem hp, Bool.and_eq_true, Bool.or_eq_true, decide_eq_true_eq] at g
    have hb : bel l[i] l[(i - 1) / 2] = false := by
      rcases g.2.2 with e | e
      · omega
      · simpa using e
    have hd := isH_distinct h hp hi (by omega)
    have hb2 := bel_total (fun e => hd e.symm) hb
    by_cases hz : (i - 1) / 2 = 0
    · simp only [hz] at hb2; exact hb2
    · exact bel_trans (ih ((i - 1) / 2) (by omega) (by omega) hp) hb2
theorem srt_first : ∀ (r acc : List TNode) (x : TNode), (∀ y ∈ r, bel x y = true) → ∃ t, srt (x :: acc) r = x :: t
  | [], acc, x, _ => ⟨acc, rfl⟩
  | y :: r, acc, x, h => by
    have hy := h y (by simp)
    rw [srt, show ins y (x :: acc) = x :: ins y acc from by simp [ins, hy]]
    exact srt_first r _ x (fun z hz => h z (by simp [hz]))
theorem srt_head {l : List TNode} (h : isH l = true) {x : TNode} {r : List TNode} (e : l = x :: r) : ∃ t, srt [] l = x :: t := by
  subst e
  refine srt_first r [] x (fun y hy => ?_)
  obtain ⟨i, hi, rfl⟩ := List.getElem_of_mem hy
  have := isH_least h (i + 1) (by omega) (by simp; omega)
  simpa using this

theorem leasts_law (l : List TNode) (m : List Ttarnlaw13_Act) : g_tarnlaw13_HeapLeasts 4000 l m = some true := by
  simp only [g_tarnlaw13_HeapLeasts, heavy_is, p_bd]
  by_cases h1 : l.length ≤ 500
  · by_cases h2 : m.length ≤ 500
    · simp only [h1, h2, decide_true, Bool.and_self, Bool.not_true, p_brf, p_jn, wakes_is, p_bd, g_heap_Least, heap_is l 3900, check_is l 3900, p_lt, g_tarnlaw13_num]
      by_cases hH : isH l = true
      · simp only [hH, if_true, bne_self_eq_false, p_brf, p_brt]
        cases l with
        | nil => simp [p_brt, p_brf, p_bd, p_lt, p_jn]
        | cons x r =>
          have c0 : ((((x :: r).length : Nat) : Int) == 0) = false := by simp only [List.length_cons, beq_eq_false_iff_ne]; omega
          have c1 : decide ((((x :: r).length : Nat) : Int) > 0) = true := decide_eq_true (by simp only [List.length_cons]; omega)
          have c2 : (0 : Int) ≤ 0 ∧ 0 < (((x :: r).length : Nat) : Int) := ⟨by omega, by simp only [List.length_cons]; omega⟩
          obtain ⟨t, ht⟩ := srt_head hH rfl
          have c3 : (0 : Int) ≤ 0 ∧ 0 < (((x :: t).length : Nat) : Int) := ⟨by omega, by simp only [List.length_cons]; omega⟩
          simp only [c0, c1, p_brf, p_brt, p_gd c2, show Int.toNat 0 = 0 from rfl, List.getElem?_cons_zero, p_bd, order_all (x :: r) 1000 h1, ht, p_gd c3]
          simp [p_brt, p_bd]
      · rw [Bool.not_eq_true] at hH
        simp [hH, p_brt, p_brf, p_bd]
    · simp only [h2, decide_false, Bool.and_false, Bool.not_false, p_brt]
  · simp only [h1, decide_false, Bool.false_and, Bool.not_false, p_brt]

end Go.Proofs
