import Derived.Test.YtjcagpcpbfmldaaLawG
/- What is pushed, set, dropped: a heap of these nodes. -/
set_option linter.unusedVariables false
set_option linter.unusedSimpArgs false
set_option maxRecDepth 100000
namespace Go.Proofs
open Gw Go.RowKit Go.IntWalk

theorem fnd_none {a : Int} : ∀ {l : List TNode} {i : Nat}, (∀ x ∈ l, x.Acct ≠ a) → fnd a l i = -1
  | [], i, _ => rfl
  | x :: r, i, h => by
    unfold fnd
    rw [if_neg (h x (by simp)), fnd_none fun y hy => h y (by simp [hy])]
theorem heap_dst {l : List TNode} (h : isH l = true) : dst l := (isH_all h).2.2.1
theorem fnd_at {l : List TNode} {j : Nat} (hd : dst l) (hj : j < l.length) : fnd l[j].Acct l 0 = (j : Int) := by
  rw [fnd_here (j := j) (List.getElem?_eq_getElem hj) rfl fun k y hk hy => ?_]
  · simp
  · have hkl := (List.getElem?_eq_some_iff.1 hy).1
    rw [List.getElem?_eq_getElem hkl] at hy; cases hy
    exact dst_ne hd hkl hj (by omega)

theorem push_spec (fuel : Nat) {l : List TNode} {n : TNode} (h : isH l = true) (hn : okN n = true) (hf : ∀ x ∈ l, x.Acct ≠ n.Acct) (h7 : l.length < 8) :
    ∃ h', g_heap_Push (fuel + 3000) l n = some (h', 0) ∧ isH h' = true ∧ h'.Perm (n :: l) := by
  obtain ⟨h8, hok, hd, hp⟩ := isH_all h
  obtain ⟨h', er, e1, e2, e3, _⟩ := push_both fuel l n (by omega)
  have e4 := e3 (by simp [h, hn])
  have hlen : (l ++ [n]).length = l.length + 1 := by simp
  have hdn : dst (l ++ [n]) := dst_perm (l := n :: l) (List.pairwise_cons.2 ⟨fun x hx e => hf x hx e.symm, hd⟩) (List.perm_append_singleton n l)
  have hU : hpUp (l ++ [n]) l.length := by
    refine ⟨fun j hj hjn x y hx hy => ?_, fun h0 j hj hjp x y hx hy => ?_⟩
    · have hjl : j < l.length := by have := (List.getElem?_eq_some_iff.1 hx).1; omega
      rw [List.getElem?_append_left hjl] at hx
      rw [List.getElem?_append_left (by omega)] at hy
      exact hp j hj x y hx hy
    · have := (List.getElem?_eq_some_iff.1 hx).1
      omega
  obtain ⟨l', j, r1, r2, r3, _⟩ := rise_heap (fuel + 2900) (fun l6 x7 => some (l6, x7)) l.length l.length (Nat.le_refl _) (l ++ [n]) (by omega) (by omega) hU hdn (fuel + 3000) (by omega)
  have hr : g_tarnref12_rises (fuel + 3000) (l ++ [n]) (l.length : Int) = some (l', ((j : Nat) : Int)) := r1
  simp only [g_tarnref12_Push, p_lt, p_jn, find_is l _ (fuel + 3000) (by omega) (by omega), p_bd, fnd_none hf, show decide ((-1 : Int) ≥ 0) = false from rfl, p_brf, copy_is l (fuel + 1000) (by omega)] at e4
  rw [p_gd (by simp only [List.length_cons, List.length_nil]; omega)] at e4
  rw [show wr .i64 ((((l ++ [n]).length : Nat) : Int) - 1) = ((l.length : Nat) : Int) from by rw [par_a (by omega) (by omega)]; omega, hr] at e4
  simp only [p_bd, Option.some.injEq, Prod.mk.injEq] at e4
  obtain ⟨rfl, rfl⟩ := e4
  have hperm : l'.Perm (n :: l) := r3.trans (List.perm_append_singleton n l)
  refine ⟨l', e1, isH_of ?_ (fun x hx => ?_) (dst_perm hdn r3) r2, hperm⟩
  · rw [hperm.length_eq]; simp; omega
  · rcases List.mem_cons.1 (hperm.mem_iff.1 hx) with rfl | hx
    · exact hn
    · exact hok x hx
theorem set_mem {l : List TNode} {j : Nat} {n x : TNode} (h : x ∈ l.set j n) : x = n ∨ x ∈ l := by
  rcases List.mem_or_eq_of_mem_set h with h | h
  · exact .inr h
  · exact .inl h
/-- a heap but for one place -/
theorem off_set {l : List TNode} {j : Nat} {n : TNode} (hj : j < l.length) (hp : hpAll l) (hd : dst l) : hpOff (l.set j n) j := by
  refine ⟨fun k hk hkj hpk x y hx hy => ?_, fun h0 k hk hkp x y hx hy => ?_⟩
  · rw [List.getElem?_set_ne (by omega)] at hx
    rw [List.getElem?_set_ne (by omega)] at hy
    exact hp k hk x y hx hy
  · rw [List.getElem?_set_ne (by omega)] at hx
    rw [List.getElem?_set_ne (by omega)] at hy
    have h1 := hp k hk x l[j] hx (by rw [hkp]; exact List.getElem?_eq_getElem hj)
    have h2 := hp j h0 l[j] y (List.getElem?_eq_getElem hj) hy
    have hpl := (List.getElem?_eq_some_iff.1 hy).1
    rw [List.getElem?_eq_getElem hpl] at hy
    cases hy
    exact nb_trans h1 h2 (dst_ne hd hj hpl (by omega))
theorem dst_set {l : List TNode} {j : Nat} {n : TNode} (hj : j < l.length) (hd : dst l) (hn : ∀ (k : Nat) (hk : k < l.length), k ≠ j → l[k].Acct ≠ n.Acct) : dst (l.set j n) := by
  refine List.pairwise_iff_getElem.2 fun a b ha hb hab => ?_
  have ha' : a < l.length := by simpa using ha
  have hb' : b < l.length := by simpa using hb
  rw [List.getElem_set, List.getElem_set]
  split
  · split
    · omega
    · exact fun e => hn b hb' (by omega) e.symm
  · split
    · exact hn a ha' (by omega)
    · exact dst_ne hd ha' hb' (by omega)
theorem set_spec (fuel : Nat) {l : List TNode} {n : TNode} {j : Nat} (h : isH l = true) (hn : okN n = true) (hj : j < l.length) (ha : l[j].Acct = n.Acct) :
    ∃ h', g_heap_Set (fuel + 3000) l n = some (h', 0) ∧ isH h' = true ∧ h'.Perm (l.set j n) := by
  obtain ⟨h8, hok, hd, hp⟩ := isH_all h
  obtain ⟨h', er, e1, e2, e3, _⟩ := set_both fuel l n (by omega)
  have e4 := e3 (by simp [h, hn])
  have hds : dst (l.set j n) := dst_set hj hd fun k hk hkj => by rw [← ha]; exact dst_ne hd hk hj hkj
  obtain ⟨l', m1, m2, m3⟩ := moves_heap (fuel + 2800) (l.set j n) j (by simpa using hj) (by simp; omega) (off_set hj hp hd) hds
  have hm : g_tarnref12_moves (fuel + 3000) (l.set j n) (j : Int) = some l' := m1
  have cj : (0 : Int) ≤ (j : Int) ∧ (j : Int) < ((l.length : Nat) : Int) := by omega
  have hfa : fnd n.Acct l 0 = (j : Int) := by rw [← ha]; exact fnd_at hd hj
  simp only [g_tarnref12_Set, p_lt, p_jn, find_is l _ (fuel + 3000) (by omega) (by omega), p_bd, hfa, show decide ((j : Int) < 0) = false by simp, p_brf, copy_is l (fuel + 1000) (by omega), p_gd cj, Int.toNat_natCast, hm, Option.some.injEq, Prod.mk.injEq] at e4
  obtain ⟨rfl, rfl⟩ := e4
  refine ⟨l', e1, isH_of ?_ (fun x hx => ?_) (dst_perm hds m3) m2, m3⟩
  · rw [m3.length_eq]; simp; omega
  · rcases set_mem (m3.mem_iff.1 hx) with rfl | hx
    · exact hn
    · exact hok x hx
theorem drop_none (fuel : Nat) {l : List TNode} {a : Int} (h : isH l = true) (hf : ∀ x ∈ l, x.Acct ≠ a) : g_heap_Drop (fuel + 3000) l a = some ([], 3) := by
  obtain ⟨h8, _⟩ := isH_all h
  obtain ⟨h', er, e1, e2, e3, _⟩ := drop_both fuel l a (by omega)
  have e4 := e3 h
  simp only [g_tarnref12_Drop, p_lt, p_bd, find_is l _ (fuel + 3000) (by omega) (by omega), fnd_none hf, show decide ((-1 : Int) < 0) = true from rfl, p_brt, Option.some.injEq, Prod.mk.injEq] at e4
  obtain ⟨rfl, rfl⟩ := e4
  exact e1
theorem least_spec (fuel : Nat) {l : List TNode} (h : isH l = true) : ∃ x, g_heap_Least (fuel + 3000) l = some (x, if l.length = 0 then 3 else 0) ∧ ∀ h0 : 0 < l.length, x = l[0] := by
  have hc := check_is l (fuel + 2900)
  rw [h, if_pos rfl] at hc
  have hc : g_heap_Check (fuel + 3000) l = some 0 := hc
  simp only [g_heap_Least, hc, p_bd, p_lt, bne_self_eq_false, p_brf]
  by_cases h0 : l.length = 0
  · have : ((((l.length : Nat) : Int)) == 0) = true := by simp [h0]
    simp only [this, p_brt, h0, if_true]
    exact ⟨_, rfl, fun h' => absurd h' (Nat.lt_irrefl 0)⟩
  · have : ((((l.length : Nat) : Int)) == 0) = false := by
      have : ((l.length : Nat) : Int) ≠ 0 := by omega
      simpa using this
    have hl : 0 < l.length := by omega
    have cg : (0 : Int) ≤ 0 ∧ (0 : Int) < ((l.length : Nat) : Int) := by omega
    simp only [this, p_brf, p_gd cg, h0, if_false, show Int.toNat 0 = 0 from rfl, List.getElem?_eq_getElem hl, p_bd]
    exact ⟨_, rfl, fun _ => rfl⟩
end Go.Proofs
