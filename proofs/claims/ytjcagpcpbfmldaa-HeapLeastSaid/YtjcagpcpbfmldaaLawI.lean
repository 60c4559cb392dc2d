import Derived.Test.YtjcagpcpbfmldaaLawH
/- What is dropped; how long a heap is; eight places. -/
set_option linter.unusedVariables false
set_option linter.unusedSimpArgs false
set_option maxRecDepth 100000
namespace Go.Proofs
open Gw Go.RowKit Go.IntWalk

theorem set_perm_erase {α : Type} : ∀ (T : List α) (j : Nat) (a : α), j < T.length → (T.set j a).Perm (a :: T.eraseIdx j)
  | [], j, a, h => absurd h (by simp)
  | x :: T, 0, a, h => by simp
  | x :: T, j + 1, a, h => by
    simp only [List.set_cons_succ, List.eraseIdx_cons_succ]
    exact ((set_perm_erase T j a (by simpa using h)).cons x).trans (.swap a x _)
theorem take_last {α : Type} {l : List α} (h : 0 < l.length) : l = l.take (l.length - 1) ++ [l[l.length - 1]'(by omega)] := by
  have h1 := List.take_append_drop (l.length - 1) l
  have h2 : l.drop (l.length - 1) = [l[l.length - 1]'(by omega)] := by
    rw [List.drop_eq_getElem_cons (by omega), List.drop_eq_nil_of_le (by omega)]
  rw [h2] at h1
  exact h1.symm
theorem dst_take {l : List TNode} (k : Nat) (h : dst l) : dst (l.take k) := h.sublist (List.take_sublist k l)
theorem drop_spec (fuel : Nat) {l : List TNode} {j : Nat} (h : isH l = true) (hj : j < l.length) :
    ∃ h', g_heap_Drop (fuel + 3000) l l[j].Acct = some (h', 0) ∧ isH h' = true ∧ h'.Perm (l.eraseIdx j) := by
  obtain ⟨h8, hok, hd, hp⟩ := isH_all h
  obtain ⟨h', er, e1, e2, e3, _⟩ := drop_both fuel l l[j].Acct (by omega)
  have e4 := e3 h
  have hpos : 0 < l.length := by omega
  have hz : l.length - 1 < l.length := by omega
  have cj : (0 : Int) ≤ (j : Int) ∧ (j : Int) < ((l.length : Nat) : Int) := by omega
  have cz : (0 : Int) ≤ ((l.length - 1 : Nat) : Int) ∧ ((l.length - 1 : Nat) : Int) < ((l.length : Nat) : Int) := by omega
  have cc : (0 : Int) ≤ 0 ∧ 0 ≤ ((l.length - 1 : Nat) : Int) ∧ ((l.length - 1 : Nat) : Int) ≤ ((l.length : Nat) : Int) := by omega
  simp only [g_tarnref12_Drop, p_lt, p_bd, find_is l _ (fuel + 3000) (by omega) (by omega), fnd_at hd hj, show decide ((j : Int) < 0) = false by simp, p_brf, copy_is l (fuel + 1000) (by omega),
    par_a hpos (show l.length < 100000 by omega), p_gd cj, p_gd cz, p_gd cc, Int.toNat_natCast, List.getElem?_eq_getElem hz, show Int.toNat 0 = 0 from rfl] at e4
  have hlast := take_last hpos
  have hTl : (l.take (l.length - 1)).length = l.length - 1 := by simp
  have hset : (l.set j l[l.length - 1]).take (l.length - 1) = (l.take (l.length - 1)).set j l[l.length - 1] := List.take_set ..
  rw [hset] at e4
  -- what is left of the row
  have hpT : hpAll (l.take (l.length - 1)) := fun k hk x y hx hy => by
    rw [List.getElem?_take] at hx hy
    split at hx
    · split at hy
      · exact hp k hk x y hx hy
      · cases hy
    · cases hx
  by_cases hlt : j < l.length - 1
  · have hperm : ((l.take (l.length - 1)).set j l[l.length - 1]).Perm (l.eraseIdx j) := by
      refine (set_perm_erase _ j _ (by omega)).trans ?_
      have : l.eraseIdx j = (l.take (l.length - 1)).eraseIdx j ++ [l[l.length - 1]] := by
        conv => lhs; rw [hlast]
        rw [List.eraseIdx_append_of_lt_length (by omega)]
      rw [this]
      exact (List.perm_append_singleton _ _).symm
    have hds : dst ((l.take (l.length - 1)).set j l[l.length - 1]) := dst_set (by omega) (dst_take _ hd) fun k hk hkj => by
      rw [List.getElem_take]
      exact dst_ne hd (by omega) hz (by omega)
    obtain ⟨l', m1, m2, m3⟩ := moves_heap (fuel + 2800) ((l.take (l.length - 1)).set j l[l.length - 1]) j (by simp; omega) (by simp; omega) (off_set (by omega) hpT (dst_take _ hd)) hds
    have hm : g_tarnref12_moves (fuel + 3000) ((l.take (l.length - 1)).set j l[l.length - 1]) (j : Int) = some l' := m1
    simp only [hm, p_bd, Option.some.injEq, Prod.mk.injEq] at e4
    obtain ⟨rfl, rfl⟩ := e4
    refine ⟨l', e1, isH_of ?_ (fun x hx => ?_) (dst_perm hds m3) m2, m3.trans hperm⟩
    · rw [m3.length_eq]; simp; omega
    · rcases set_mem (m3.mem_iff.1 hx) with rfl | hx
      · exact hok _ (List.getElem_mem hz)
      · exact hok x (List.mem_of_mem_take hx)
  · have hje : j = l.length - 1 := by omega
    have hs : (l.take (l.length - 1)).set j l[l.length - 1] = l.take (l.length - 1) := List.set_eq_of_length_le (by omega)
    rw [hs] at e4
    have cL : decide ((j : Int) < (((l.take (l.length - 1)).length : Nat) : Int)) = false := decide_eq_false (by omega)
    simp only [g_tarnref12_moves, p_lt, p_jn, cL, p_brf, p_bd, Option.some.injEq, Prod.mk.injEq] at e4
    obtain ⟨rfl, rfl⟩ := e4
    refine ⟨_, e1, isH_of (by simp; omega) (fun x hx => hok x (List.mem_of_mem_take hx)) (dst_take _ hd) hpT, ?_⟩
    have : l.eraseIdx j = l.take (l.length - 1) := by
      rw [hje, List.eraseIdx_length_sub_one, List.dropLast_eq_take]
    rw [this]

/-- accounts from 0 to 7, all other: at most eight -/
theorem len_le {l : List TNode} (hd : dst l) (hok : ∀ x ∈ l, okA x) : l.length ≤ 8 := by
  have h1 : (l.map fun x => x.Acct.toNat).Nodup := by
    unfold List.Nodup
    rw [List.pairwise_map]
    refine List.Pairwise.imp_of_mem (fun {a b} ha hb hab e => hab ?_) hd
    have := hok a ha
    have := hok b hb
    unfold okA at *
    omega
  have h2 : (l.map fun x => x.Acct.toNat) ⊆ List.range 8 := fun k hk => by
    obtain ⟨x, hx, rfl⟩ := List.mem_map.1 hk
    have := hok x hx
    unfold okA at this
    rw [List.mem_range]; omega
  have := h1.length_le_of_subset h2
  simpa using this
theorem ex8 {α : Type} {l : List α} (h : l.length = 8) : ∃ a b c d e f g i, l = [a, b, c, d, e, f, g, i] := by
  match l, h with
  | [a, b, c, d, e, f, g, i], _ => exact ⟨a, b, c, d, e, f, g, i, rfl⟩
end Go.Proofs
