import Derived.Test.YtjcagpcpbfmldaaLawC
/- A heap without its least is a heap; sorted rows. -/
set_option linter.unusedVariables false
set_option linter.unusedSimpArgs false
set_option maxRecDepth 100000
namespace Go.Proofs
open Gw Go.RowKit Go.IntWalk

theorem fnd_here {a : Int} : ∀ {l : List TNode} {i : Nat} {j : Nat} {x : TNode}, l[j]? = some x → x.Acct = a → (∀ k y, k < j → l[k]? = some y → y.Acct ≠ a) → fnd a l i = ((i + j : Nat) : Int)
  | [], i, j, x, hx, _, _ => by simp at hx
  | y :: r, i, j, x, hx, ha, hn => by
    unfold fnd
    cases j with
    | zero => simp at hx; subst hx; rw [if_pos ha]; simp
    | succ j =>
      rw [if_neg (hn 0 y (by omega) rfl), fnd_here (l := r) (j := j) (by simpa using hx) ha (fun k z hk hz => hn (k + 1) z (by omega) (by simpa using hz))]
      congr 1; omega

theorem chk_of {l : List TNode} : ∀ {k i}, (∀ j, i ≤ j → j < i + k → good l j = true) → chk l k i = true
  | 0, i, _ => rfl
  | k + 1, i, h => by
    simp only [chk, Bool.and_eq_true]
    exact ⟨h i (by omega) (by omega), chk_of fun j h1 h2 => h j (by omega) (by omega)⟩

theorem isH_of {l : List TNode} (h8 : l.length ≤ 8) (hok : ∀ x ∈ l, okN x = true) (hd : dst l) (hp : hpAll l) : isH l = true := by
  simp only [isH, Bool.and_eq_true, decide_eq_true_eq]
  refine ⟨h8, chk_of fun j _ hj => ?_⟩
  have hj' : j < l.length := by omega
  have hpj : (j - 1) / 2 < l.length := by omega
  simp only [good, List.getElem?_eq_getElem hj', List.getElem?_eq_getElem hpj, Bool.and_eq_true, Bool.or_eq_true, decide_eq_true_eq]
  refine ⟨hok _ (List.getElem_mem hj'), ?_, ?_⟩
  · rw [fnd_here (j := j) (List.getElem?_eq_getElem hj') rfl (fun k y hk hy => by
      have hkl := (List.getElem?_eq_some_iff.1 hy).1
      rw [List.getElem?_eq_getElem hkl] at hy; cases hy
      exact dst_ne hd hkl hj' (by omega))]
    simp
  · by_cases h0 : j = 0
    · exact .inl h0
    · right
      rw [hp j (by omega) _ _ (List.getElem?_eq_getElem hj') (List.getElem?_eq_getElem hpj)]; rfl
theorem isH_all {l : List TNode} (h : isH l = true) : l.length ≤ 8 ∧ (∀ x ∈ l, okN x = true) ∧ dst l ∧ hpAll l := by
  have hg := isH_good h
  refine ⟨(isH_ok h).1, fun x hx => ?_, ?_, fun j hj x y hx hy => ?_⟩
  · obtain ⟨i, hi, rfl⟩ := List.getElem_of_mem hx
    exact good_ok (hg i hi) (List.getElem?_eq_getElem hi)
  · exact List.pairwise_iff_getElem.2 fun i j hi hj hij => isH_distinct h hi hj hij
  · have hjl := (List.getElem?_eq_some_iff.1 hx).1
    have g := hg j hjl
    simp only [good, hx, hy, Bool.and_eq_true, Bool.or_eq_true, decide_eq_true_eq] at g
    rcases g.2.2 with e | e
    · omega
    · simpa using e

theorem drop_root (fuel : Nat) {l r : List TNode} {x : TNode} (h : isH l = true) (e : l = x :: r) : ∃ h', g_heap_Drop (fuel + 3000) l x.Acct = some (h', 0) ∧ isH h' = true ∧ h'.Perm r := by
  obtain ⟨h8, hok, hd, hp⟩ := isH_all h
  obtain ⟨h', er, e1, e2, e3, _⟩ := drop_both fuel l x.Acct (by omega)
  have e4 := e3 h
  have hf : fnd x.Acct l 0 = 0 := by subst e; simp [fnd]
  have hz : l.length - 1 < l.length := by subst e; simp
  have hpos : 0 < l.length := by subst e; simp
  have c0 : (0 : Int) ≤ 0 ∧ (0 : Int) < ((l.length : Nat) : Int) := by omega
  have cz : (0 : Int) ≤ ((l.length - 1 : Nat) : Int) ∧ ((l.length - 1 : Nat) : Int) < ((l.length : Nat) : Int) := by omega
  have cc : (0 : Int) ≤ 0 ∧ 0 ≤ ((l.length - 1 : Nat) : Int) ∧ ((l.length - 1 : Nat) : Int) ≤ ((l.length : Nat) : Int) := by omega
  simp only [g_tarnref12_Drop, p_lt, p_bd, find_is l _ (fuel + 3000) (by omega) (by omega), hf, show decide ((0 : Int) < 0) = false from rfl, p_brf, copy_is l (fuel + 1000) (by omega),
    par_a hpos (show l.length < 100000 by omega), p_gd c0, p_gd cz, p_gd cc, Int.toNat_natCast, List.getElem?_eq_getElem hz, show Int.toNat 0 = 0 from rfl] at e4
  -- what is left of the row
  have hperm : ((l.set 0 l[l.length - 1]).take (l.length - 1)).Perm r := by
    subst e
    rcases List.eq_nil_or_concat r with rfl | ⟨r', y, er⟩
    · simp
    · rw [List.concat_eq_append] at er
      subst er
      have : (x :: (r' ++ [y]))[(x :: (r' ++ [y])).length - 1]'(by simp) = y := by simp
      simp only [this, List.set_cons_zero, List.length_cons, List.length_append, List.length_nil, Nat.add_sub_cancel, Nat.zero_add]
      rw [show (x :: (r' ++ [y]))[r'.length + 1]'(by simp) = y from by simp, List.take_succ_cons, List.take_left]
      exact (List.perm_append_singleton y r').symm
  generalize hL : (l.set 0 l[l.length - 1]).take (l.length - 1) = L at e4 hperm
  have hLlen : L.length = l.length - 1 := by rw [← hL]; simp
  have hdr : dst r := by subst e; exact (List.pairwise_cons.1 hd).2
  have hokr : ∀ y ∈ r, okN y = true := fun y hy => hok y (by subst e; simp [hy])
  have fin : ∀ h1 : List TNode, hpAll h1 → h1.Perm r → isH h1 = true := fun h1 a b =>
    isH_of (by rw [b.length_eq]; subst e; simp at h8; omega) (fun y hy => hokr y (b.mem_iff.1 hy)) (dst_perm hdr b) a
  by_cases hl0 : 0 < L.length
  · have cL : decide ((0 : Int) < ((L.length : Nat) : Int)) = true := decide_eq_true (by omega)
    have hB : hpBut L 0 := by
      refine ⟨fun j hj hj2 a b ha hb => ?_, fun h => absurd h (by omega)⟩
      have g : ∀ k (z : TNode), 0 < k → L[k]? = some z → l[k]? = some z := by
        intro k z hk hz
        rw [← hL, List.getElem?_take] at hz
        split at hz
        · rw [List.getElem?_set_ne (by omega)] at hz; exact hz
        · cases hz
      exact hp j hj a b (g j a hj ha) (g _ b (by omega) hb)
    obtain ⟨l', s1, s2, s3⟩ := sink_heap (fuel + 2900) L.length 0 L (by omega) hl0 (by omega) hB (dst_perm hdr hperm) (fuel + 3000) (by omega)
    have hr : g_tarnref12_rises (fuel + 3000) L 0 = some (L, 0) := rfl
    simp only [g_tarnref12_moves, p_lt, p_jn, cL, p_brt, hr, p_bd, beq_self_eq_true, g_tarnref12_sinks] at e4
    rw [show g_tarnref12_sinks_l1 (fuel + 3000) (fuel + 3000) L 0 = some l' from s1] at e4
    simp only [p_bd, Option.some.injEq, Prod.mk.injEq] at e4
    obtain ⟨rfl, rfl⟩ := e4
    exact ⟨l', e1, fin l' s2 (s3.trans hperm), s3.trans hperm⟩
  · have cL : decide ((0 : Int) < ((L.length : Nat) : Int)) = false := decide_eq_false (by omega)
    simp only [g_tarnref12_moves, p_lt, p_jn, cL, p_brf, p_bd, Option.some.injEq, Prod.mk.injEq] at e4
    obtain ⟨rfl, rfl⟩ := e4
    have : L = [] := List.eq_nil_of_length_eq_zero (by omega)
    subst this
    exact ⟨[], e1, fin [] (fun j hj x y hx => by simp at hx) hperm, hperm⟩

/-! Sorted rows -/
def sorted (l : List TNode) : Prop := l.Pairwise fun x y => bel x y = true
theorem ins_perm (x : TNode) (l : List TNode) : (ins x l).Perm (x :: l) := by
  unfold ins
  refine List.perm_middle.trans ?_
  rw [List.takeWhile_append_dropWhile]
theorem srt_perm : ∀ (r acc : List TNode), (srt acc r).Perm (acc ++ r)
  | [], acc => by simp [srt]
  | x :: r, acc => by
    rw [srt]
    refine (srt_perm r (ins x acc)).trans ?_
    refine ((ins_perm x acc).append_right r).trans ?_
    exact (List.perm_middle (a := x) (l₁ := acc) (l₂ := r)).symm
theorem ins_sorted {x : TNode} : ∀ {l : List TNode}, sorted l → (∀ y ∈ l, y.Acct ≠ x.Acct) → sorted (ins x l)
  | [], _, _ => by simp [ins, sorted]
  | y :: r, h, hn => by
    have hc := List.pairwise_cons.1 h
    by_cases hb : bel y x = true
    · have e : ins x (y :: r) = y :: ins x r := by simp [ins, hb]
      rw [e]
      refine List.pairwise_cons.2 ⟨fun z hz => ?_, ins_sorted hc.2 (fun z hz => hn z (by simp [hz]))⟩
      rcases List.mem_cons.1 ((ins_perm x r).mem_iff.1 hz) with rfl | hz
      · exact hb
      · exact hc.1 z hz
    · have hb' : bel y x = false := by simpa using hb
      have e : ins x (y :: r) = x :: y :: r := by simp [ins, hb']
      rw [e]
      have hxy := bel_total (hn y (by simp)) hb'
      refine List.pairwise_cons.2 ⟨fun z hz => ?_, h⟩
      rcases List.mem_cons.1 hz with rfl | hz
      · exact hxy
      · exact bel_trans hxy (hc.1 z hz)
theorem srt_sorted : ∀ (r acc : List TNode), sorted acc → dst (acc ++ r) → sorted (srt acc r)
  | [], acc, h, _ => h
  | x :: r, acc, h, hd => by
    rw [srt]
    have hd' : dst (x :: (acc ++ r)) := dst_perm hd (List.perm_middle (a := x) (l₁ := acc) (l₂ := r)).symm
    have hx := List.pairwise_cons.1 hd'
    refine srt_sorted r _ (ins_sorted h (fun y hy e => hx.1 y (by simp [hy]) e.symm)) (dst_perm hd' ?_)
    exact (ins_perm x acc).append_right r
theorem sorted_eq {a b : List TNode} (ha : sorted a) (hb : sorted b) (p : a.Perm b) : a = b :=
  List.Perm.eq_of_pairwise (le := fun x y => bel x y = true) (fun x y _ _ h1 h2 => by rw [bel_asymm h1] at h2; cases h2) ha hb p
theorem srt_drop {l r h' : List TNode} {x : TNode} (h : isH l = true) (e : l = x :: r) (hh : isH h' = true) (hp : h'.Perm r) : srt [] l = x :: srt [] h' := by
  obtain ⟨_, _, hd, _⟩ := isH_all h
  obtain ⟨_, _, hd', _⟩ := isH_all hh
  have p1 : (srt [] l).Perm l := by simpa using srt_perm l []
  have p2 : (srt [] h').Perm h' := by simpa using srt_perm h' []
  refine sorted_eq (srt_sorted l [] (by simp [sorted]) (by simpa using hd)) (List.pairwise_cons.2 ⟨fun y hy => ?_, srt_sorted h' [] (by simp [sorted]) (by simpa using hd')⟩) ?_
  · have hy' : y ∈ r := hp.mem_iff.1 (p2.mem_iff.1 hy)
    obtain ⟨i, hi, rfl⟩ := List.getElem_of_mem hy'
    subst e
    have := isH_least h (i + 1) (by omega) (by simp; omega)
    simpa using this
  · subst e
    exact p1.trans ((p2.trans hp).symm.cons x)
end Go.Proofs
