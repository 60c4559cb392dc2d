import Derived.Test.YtjcagpcpbfmldaaLawD
/- What rises, or settles, leaves a heap; what is pushed, set, dropped. -/
set_option linter.unusedVariables false
set_option linter.unusedSimpArgs false
set_option maxRecDepth 100000
namespace Go.Proofs
open Gw Go.RowKit Go.IntWalk

/-- all is in order but perhaps between i and its parent; what hangs on i is not below that parent -/
def hpUp (l : List TNode) (i : Nat) : Prop :=
  (∀ j, 0 < j → j ≠ i → ∀ x y, l[j]? = some x → l[(j - 1) / 2]? = some y → bel x y = false) ∧
  (0 < i → ∀ j, 0 < j → (j - 1) / 2 = i → ∀ x y, l[j]? = some x → l[(i - 1) / 2]? = some y → bel x y = false)
/-- all is in order but perhaps around i -/
def hpOff (l : List TNode) (i : Nat) : Prop :=
  (∀ j, 0 < j → j ≠ i → (j - 1) / 2 ≠ i → ∀ x y, l[j]? = some x → l[(j - 1) / 2]? = some y → bel x y = false) ∧
  (0 < i → ∀ j, 0 < j → (j - 1) / 2 = i → ∀ x y, l[j]? = some x → l[(i - 1) / 2]? = some y → bel x y = false)

theorem swap_get {l : List TNode} {i p : Nat} (hi : i < l.length) (hp : p < l.length) (j : Nat) (x : TNode) (h : ((l.set i l[p]).set p l[i])[j]? = some x) :
    (j = p ∧ x = l[i]) ∨ (j = i ∧ j ≠ p ∧ x = l[p]) ∨ (j ≠ p ∧ j ≠ i ∧ l[j]? = some x) := by
  by_cases e : j = p
  · subst e
    rw [List.getElem?_set_self (by simpa using hp)] at h
    cases h; exact .inl ⟨rfl, rfl⟩
  · rw [List.getElem?_set_ne (fun h => e h.symm)] at h
    by_cases e2 : j = i
    · subst e2
      rw [List.getElem?_set_self hi] at h
      cases h; exact .inr (.inl ⟨rfl, e, rfl⟩)
    · rw [List.getElem?_set_ne (fun h => e2 h.symm)] at h
      exact .inr (.inr ⟨e, e2, h⟩)
theorem nb_trans {a b c : TNode} (h1 : bel a b = false) (h2 : bel b c = false) (hbc : b.Acct ≠ c.Acct) : bel a c = false := by
  cases h : bel a c with
  | false => rfl
  | true =>
    have h3 : bel c b = true := bel_total hbc h2
    rw [bel_trans h h3] at h1; cases h1
/-- one step up -/
theorem up_one {l : List TNode} {i p : Nat} (hi : i < l.length) (hp : p < l.length) (hpe : (i - 1) / 2 = p) (h0 : 0 < i) (hd : dst l) (h : hpOff l i)
    (hb : bel l[i] l[p] = true) : hpUp ((l.set i l[p]).set p l[i]) p := by
  have hpi : p < i := by omega
  have ei : l[i]? = some l[i] := List.getElem?_eq_getElem hi
  have ep : l[p]? = some l[p] := List.getElem?_eq_getElem hp
  refine ⟨fun j hj hjp x y hx hy => ?_, fun hp0 j hj hjp x y hx hy => ?_⟩
  · rcases swap_get hi hp j x hx with ⟨e, _⟩ | ⟨rfl, _, rfl⟩ | ⟨_, hji, hx'⟩
    · exact absurd e hjp
    · rw [hpe] at hy
      rcases swap_get hi hp p y hy with ⟨_, rfl⟩ | ⟨_, e, _⟩ | ⟨e, _⟩
      · exact bel_asymm hb
      · exact absurd rfl e
      · exact absurd rfl e
    · rcases swap_get hi hp _ y hy with ⟨e, rfl⟩ | ⟨e, _, rfl⟩ | ⟨e1, e2, hy'⟩
      · -- a sibling
        have h1 := h.1 j hj hji (by omega) x l[p] hx' (by rw [e]; exact ep)
        cases h2 : bel x l[i] with
        | false => rfl
        | true => rw [bel_trans h2 hb] at h1; cases h1
      · exact h.2 h0 j hj e x l[p] hx' (by rw [hpe]; exact ep)
      · exact h.1 j hj hji e2 x y hx' hy'
  · have hy' : l[(p - 1) / 2]? = some y := by
      rcases swap_get hi hp _ y hy with ⟨e, _⟩ | ⟨e, _, _⟩ | ⟨_, _, hy'⟩
      · omega
      · omega
      · exact hy'
    have hpp := (List.getElem?_eq_some_iff.1 hy').1
    have hpy : bel l[p] y = false := h.1 p hp0 (by omega) (by omega) l[p] y ep hy'
    rcases swap_get hi hp j x hx with ⟨e, _⟩ | ⟨rfl, _, rfl⟩ | ⟨_, hji, hx'⟩
    · omega
    · exact hpy
    · have h1 := h.1 j hj hji (by omega) x l[p] hx' (by rw [hjp]; exact ep)
      rw [List.getElem?_eq_getElem hpp] at hy'
      cases hy'
      exact nb_trans h1 hpy (dst_ne hd hp hpp (by omega))
theorem up_off {l : List TNode} {i : Nat} (h : hpUp l i) : hpOff l i := ⟨fun j hj hji _ => h.1 j hj hji, h.2⟩
theorem up_done {l : List TNode} {i : Nat} (h : hpUp l i) (hc : 0 < i → ∀ x y, l[i]? = some x → l[(i - 1) / 2]? = some y → bel x y = false) : hpAll l := by
  intro j hj x y hx hy
  by_cases e : j = i
  · subst e; exact hc hj x y hx hy
  · exact h.1 j hj e x y hx hy

theorem rise_heap (fuel : Nat) (K' : List TNode → Int → Option (List TNode × Int)) : ∀ (m i : Nat), i ≤ m → ∀ (l : List TNode), i < l.length → l.length ≤ 100 → hpUp l i → dst l → ∀ n, m < n →
    ∃ l' j, g_tarnref12_rises_l1 K' (fuel + 100) n l (i : Int) = K' l' ((j : Nat) : Int) ∧ hpAll l' ∧ l'.Perm l ∧ j ≤ i := by
  intro m
  induction m with
  | zero =>
    intro i him l hi hl hU hd n hn
    obtain ⟨n, rfl⟩ : ∃ m, n = m + 1 := ⟨n - 1, by omega⟩
    obtain rfl : i = 0 := by omega
    exact ⟨l, 0, rfl, up_done hU (fun h => absurd h (by omega)), .refl _, Nat.le_refl _⟩
  | succ m ih =>
    intro i him l hi hl hU hd n hn
    obtain ⟨n, rfl⟩ : ∃ m, n = m + 1 := ⟨n - 1, by omega⟩
    by_cases h0 : 0 < i
    · have hp : (i - 1) / 2 < l.length := by omega
      have ci : (0 : Int) ≤ (i : Int) ∧ (i : Int) < ((l.length : Nat) : Int) := by omega
      have cp : (0 : Int) ≤ (((i - 1) / 2 : Nat) : Int) ∧ (((i - 1) / 2 : Nat) : Int) < ((l.length : Nat) : Int) := by omega
      have c0 : decide ((i : Int) > 0) = true := by simpa using h0
      simp only [g_tarnref12_rises_l1, p_lt, p_jn, c0, p_brt, par_a h0 (show i < 100000 by omega), par_b (show i - 1 < 100000 by omega), p_gd ci, p_gd cp, Int.toNat_natCast, List.getElem?_eq_getElem hi, List.getElem?_eq_getElem hp, p_bd, below_is]
      by_cases hb : bel l[i] l[(i - 1) / 2] = true
      · simp only [hb, p_brt]
        have hperm : ((l.set i l[(i - 1) / 2]).set ((i - 1) / 2) l[i]).Perm l := List.set_set_perm hi hp
        obtain ⟨l', j, e1, e2, e3, e4⟩ := ih ((i - 1) / 2) (by omega) ((l.set i l[(i - 1) / 2]).set ((i - 1) / 2) l[i]) (by simpa using hp) (by simpa using hl) (up_one hi hp rfl h0 hd (up_off hU) hb) (dst_perm hd hperm) n (by omega)
        exact ⟨l', j, e1, e2, e3.trans hperm, by omega⟩
      · rw [Bool.not_eq_true] at hb
        simp only [hb, p_brf]
        refine ⟨l, i, rfl, up_done hU fun _ x y hx hy => ?_, .refl _, Nat.le_refl _⟩
        rw [List.getElem?_eq_getElem hi] at hx
        rw [List.getElem?_eq_getElem hp] at hy
        cases hx; cases hy; exact hb
    · obtain rfl : i = 0 := by omega
      exact ⟨l, 0, rfl, up_done hU (fun h => absurd h (by omega)), .refl _, Nat.le_refl _⟩
theorem rise_off (fuel : Nat) (K' : List TNode → Int → Option (List TNode × Int)) (l : List TNode) (i : Nat) (hi : i < l.length) (hl : l.length ≤ 100) (hO : hpOff l i) (hd : dst l) (n : Nat) (hn : i < n) :
    ∃ l' j, g_tarnref12_rises_l1 K' (fuel + 100) n l (i : Int) = K' l' ((j : Nat) : Int) ∧ l'.Perm l ∧ ((j = i ∧ l' = l ∧ hpBut l i) ∨ (j < i ∧ hpAll l')) := by
  obtain ⟨n, rfl⟩ : ∃ m, n = m + 1 := ⟨n - 1, by omega⟩
  by_cases h0 : 0 < i
  · have hp : (i - 1) / 2 < l.length := by omega
    have ci : (0 : Int) ≤ (i : Int) ∧ (i : Int) < ((l.length : Nat) : Int) := by omega
    have cp : (0 : Int) ≤ (((i - 1) / 2 : Nat) : Int) ∧ (((i - 1) / 2 : Nat) : Int) < ((l.length : Nat) : Int) := by omega
    have c0 : decide ((i : Int) > 0) = true := by simpa using h0
    simp only [g_tarnref12_rises_l1, p_lt, p_jn, c0, p_brt, par_a h0 (show i < 100000 by omega), par_b (show i - 1 < 100000 by omega), p_gd ci, p_gd cp, Int.toNat_natCast, List.getElem?_eq_getElem hi, List.getElem?_eq_getElem hp, p_bd, below_is]
    by_cases hb : bel l[i] l[(i - 1) / 2] = true
    · simp only [hb, p_brt]
      have hperm : ((l.set i l[(i - 1) / 2]).set ((i - 1) / 2) l[i]).Perm l := List.set_set_perm hi hp
      obtain ⟨l', j, e1, e2, e3, e4⟩ := rise_heap fuel K' ((i - 1) / 2) ((i - 1) / 2) (Nat.le_refl _) ((l.set i l[(i - 1) / 2]).set ((i - 1) / 2) l[i]) (by simpa using hp) (by simpa using hl) (up_one hi hp rfl h0 hd hO hb) (dst_perm hd hperm) n (by omega)
      exact ⟨l', j, e1, e3.trans hperm, .inr ⟨by omega, e2⟩⟩
    · rw [Bool.not_eq_true] at hb
      simp only [hb, p_brf]
      refine ⟨l, i, rfl, .refl _, .inl ⟨rfl, rfl, fun j hj hji x y hx hy => ?_, hO.2⟩⟩
      by_cases e : j = i
      · subst e
        rw [List.getElem?_eq_getElem hi] at hx
        rw [List.getElem?_eq_getElem hp] at hy
        cases hx; cases hy; exact hb
      · exact hO.1 j hj e hji x y hx hy
  · obtain rfl : i = 0 := by omega
    exact ⟨l, 0, rfl, .refl _, .inl ⟨rfl, rfl, fun j hj hji x y hx hy => hO.1 j hj (by omega) hji x y hx hy, hO.2⟩⟩
/-- where one is laid anew -/
theorem moves_heap (fuel : Nat) (l : List TNode) (i : Nat) (hi : i < l.length) (hl : l.length ≤ 100) (hO : hpOff l i) (hd : dst l) :
    ∃ l', g_tarnref12_moves (fuel + 200) l (i : Int) = some l' ∧ hpAll l' ∧ l'.Perm l := by
  have c0 : decide ((i : Int) < ((l.length : Nat) : Int)) = true := by simpa using hi
  obtain ⟨l1, j, hr, hperm, hc⟩ := rise_off (fuel + 100) (fun l6 x7 => some (l6, x7)) l i hi hl hO hd (fuel + 200) (by omega)
  have hr : g_tarnref12_rises (fuel + 200) l (i : Int) = some (l1, ((j : Nat) : Int)) := hr
  simp only [g_tarnref12_moves, p_lt, p_jn, c0, p_brt, hr, p_bd]
  rcases hc with ⟨rfl, rfl, hB⟩ | ⟨hlt, hA⟩
  · obtain ⟨l', e1, e2, e3⟩ := sink_heap (fuel + 100) l1.length j l1 (by omega) hi hl hB hd (fuel + 200) (by omega)
    have e1 : g_tarnref12_sinks_l1 (fuel + 200) (fuel + 200) l1 (j : Int) = some l' := e1
    simp only [beq_self_eq_true, p_brt, g_tarnref12_sinks, e1, p_bd]
    exact ⟨l', rfl, e2, e3⟩
  · have hne : ((j : Int) == (i : Int)) = false := by simp; omega
    simp only [hne, p_brf]
    exact ⟨l1, rfl, hA, hperm⟩
end Go.Proofs
