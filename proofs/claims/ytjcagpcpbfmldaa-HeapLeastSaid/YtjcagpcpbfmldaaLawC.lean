import Derived.Test.YtjcagpcpbfmldaaLawB
/- What sinks leaves a heap. -/
set_option linter.unusedVariables false
set_option linter.unusedSimpArgs false
set_option maxRecDepth 100000
namespace Go.Proofs
open Gw Go.RowKit Go.IntWalk

/-- no node is below its parent -/
def hpAll (l : List TNode) : Prop := ∀ j, 0 < j → ∀ x y, l[j]? = some x → l[(j - 1) / 2]? = some y → bel x y = false
/-- .. but perhaps those whose parent is i; these are not below i's own parent -/
def hpBut (l : List TNode) (i : Nat) : Prop :=
  (∀ j, 0 < j → (j - 1) / 2 ≠ i → ∀ x y, l[j]? = some x → l[(j - 1) / 2]? = some y → bel x y = false) ∧
  (0 < i → ∀ j, 0 < j → (j - 1) / 2 = i → ∀ x y, l[j]? = some x → l[(i - 1) / 2]? = some y → bel x y = false)
def dst (l : List TNode) : Prop := l.Pairwise fun x y => x.Acct ≠ y.Acct

theorem dst_ne {l : List TNode} (h : dst l) {i j : Nat} (hi : i < l.length) (hj : j < l.length) (hij : i ≠ j) : l[i].Acct ≠ l[j].Acct := by
  have := List.pairwise_iff_getElem.1 h
  rcases Nat.lt_or_gt_of_ne hij with h1 | h1
  · exact this i j hi hj h1
  · exact fun e => this j i hj hi h1 e.symm
theorem dst_perm {l l' : List TNode} (h : dst l) (p : l'.Perm l) : dst l' := by
  unfold dst at *
  exact (p.pairwise_iff (fun h e => h e.symm)).2 h

/-- the lesser child of i goes up -/
theorem but_down {l : List TNode} {i k : Nat} (hi : i < l.length) (hk : k < l.length) (hki : i < k) (hp : (k - 1) / 2 = i)
    (hmin : ∀ s, 0 < s → (s - 1) / 2 = i → s ≠ k → ∀ hs : s < l.length, bel l[s] l[k] = false) (h : hpBut l i) (hb : bel l[k] l[i] = true) :
    hpBut ((l.set i l[k]).set k l[i]) k := by
  have g : ∀ (j : Nat) x, ((l.set i l[k]).set k l[i])[j]? = some x → (j = k ∧ x = l[i]) ∨ (j = i ∧ x = l[k]) ∨ (j ≠ k ∧ j ≠ i ∧ l[j]? = some x) := by
    intro j x hx
    rw [List.getElem?_set] at hx
    split at hx
    · rename_i e; simp only [List.length_set, hk, if_true] at hx; cases hx; exact .inl ⟨e.symm, rfl⟩
    · rename_i e1
      rw [List.getElem?_set] at hx
      split at hx
      · rename_i e; subst e; simp [hi] at hx; exact .inr (.inl ⟨rfl, hx.symm⟩)
      · rename_i e2; exact .inr (.inr ⟨fun e => e1 e.symm, fun e => e2 e.symm, hx⟩)
  have ek : l[k]? = some l[k] := List.getElem?_eq_getElem hk
  have ei : l[i]? = some l[i] := List.getElem?_eq_getElem hi
  refine ⟨fun j hj hjk x y hx hy => ?_, fun _ j hj hjk x y hx hy => ?_⟩
  · rcases g j x hx with ⟨rfl, rfl⟩ | ⟨rfl, rfl⟩ | ⟨h1, h2, hx'⟩
    · -- j = k: the parent is i
      rcases g _ y hy with ⟨e, _⟩ | ⟨_, rfl⟩ | ⟨_, e, _⟩
      · omega
      · exact bel_asymm hb
      · omega
    · -- j = i
      rcases g _ y hy with ⟨e, _⟩ | ⟨e, _⟩ | ⟨_, _, hy'⟩
      · omega
      · omega
      · exact h.2 hj k (by omega) hp _ _ ek hy'
    · rcases g _ y hy with ⟨e, _⟩ | ⟨e, rfl⟩ | ⟨_, e, hy'⟩
      · omega
      · have hjl := (List.getElem?_eq_some_iff.1 hx').1
        have := hmin j hj e h1 hjl
        rw [List.getElem?_eq_getElem hjl] at hx'; cases hx'; exact this
      · exact h.1 j hj (by omega) x y hx' hy'
  · rcases g j x hx with ⟨rfl, _⟩ | ⟨rfl, _⟩ | ⟨h1, h2, hx'⟩
    · omega
    · omega
    · rw [hp] at hy
      rcases g i y hy with ⟨e, _⟩ | ⟨_, rfl⟩ | ⟨_, e, _⟩
      · omega
      · exact h.1 j hj (by omega) x _ hx' (by rw [hjk]; exact ek)
      · omega
theorem but_done {l : List TNode} {i : Nat} (h : hpBut l i) (hc : ∀ s, 0 < s → (s - 1) / 2 = i → ∀ x y, l[s]? = some x → l[i]? = some y → bel x y = false) : hpAll l := by
  intro j hj x y hx hy
  by_cases e : (j - 1) / 2 = i
  · exact hc j hj e x y hx (by rw [← e]; exact hy)
  · exact h.1 j hj e x y hx hy

theorem sink_heap (fuel : Nat) : ∀ (m i : Nat) (l : List TNode), l.length ≤ i + m → i < l.length → l.length ≤ 100 → hpBut l i → dst l → ∀ n, m < n →
    ∃ l', g_tarnref12_sinks_l1 (fuel + 100) n l (i : Int) = some l' ∧ hpAll l' ∧ l'.Perm l := by
  intro m
  induction m with
  | zero => intro i l h hi; omega
  | succ m ih =>
    intro i l hm hi hl hB hd n hn
    obtain ⟨n, rfl⟩ : ∃ m, n = m + 1 := ⟨n - 1, by omega⟩
    simp only [g_tarnref12_sinks_l1, p_lt, p_jn, dbl_a (show i < 100000 by omega), inc_a (show 2 * i < 100000 by omega), inc_a (show 2 * i + 1 < 100000 by omega)]
    by_cases hk : 2 * i + 1 < l.length
    · have c1 : decide (((2 * i + 1 : Nat) : Int) ≥ ((l.length : Nat) : Int)) = false := by simp; omega
      have ci : (0 : Int) ≤ (i : Int) ∧ (i : Int) < ((l.length : Nat) : Int) := by omega
      have ck : (0 : Int) ≤ ((2 * i + 1 : Nat) : Int) ∧ ((2 * i + 1 : Nat) : Int) < ((l.length : Nat) : Int) := by omega
      have key : ∀ k : Nat, i < k → (k - 1) / 2 = i → ∀ hk : k < l.length, (∀ s, 0 < s → (s - 1) / 2 = i → s ≠ k → ∀ hs : s < l.length, bel l[s] l[k] = false) → ∃ l',
          (if (!bel l[k] l[i]) = true then some l else g_tarnref12_sinks_l1 (fuel + 100) n ((l.set i l[k]).set k l[i]) ((k : Nat) : Int)) = some l' ∧ hpAll l' ∧ l'.Perm l := by
        intro k hik hpk hk hmin
        by_cases hb : bel l[k] l[i] = true
        · rw [hb, if_neg (by simp)]
          have hperm : ((l.set i l[k]).set k l[i]).Perm l := List.set_set_perm hi hk
          obtain ⟨l', e1, e2, e3⟩ := ih k ((l.set i l[k]).set k l[i]) (by simp; omega) (by simpa using hk) (by simpa using hl) (but_down hi hk hik hpk hmin hB hb) (dst_perm hd hperm) n (by omega)
          exact ⟨l', e1, e2, e3.trans hperm⟩
        · have hb' : bel l[k] l[i] = false := by simpa using hb
          rw [hb', if_pos (by simp)]
          refine ⟨l, rfl, but_done hB (fun s hs hps x y hx hy => ?_), List.Perm.refl _⟩
          have hsl := (List.getElem?_eq_some_iff.1 hx).1
          rw [List.getElem?_eq_getElem hsl] at hx
          rw [List.getElem?_eq_getElem hi] at hy
          cases hx; cases hy
          by_cases e : s = k
          · subst e; exact hb'
          · have h1 := hmin s hs hps e hsl
            have h2 : bel l[i] l[k] = true := bel_total (dst_ne hd hk hi (by omega)) hb'
            cases h3 : bel l[s] l[i] with
            | false => rfl
            | true => rw [bel_trans h3 h2] at h1; cases h1
      simp only [c1, p_brf]
      by_cases hk2 : 2 * i + 1 + 1 < l.length
      · have c2 : decide (((2 * i + 1 + 1 : Nat) : Int) < ((l.length : Nat) : Int)) = true := decide_eq_true (by omega)
        have ck2 : (0 : Int) ≤ ((2 * i + 1 + 1 : Nat) : Int) ∧ ((2 * i + 1 + 1 : Nat) : Int) < ((l.length : Nat) : Int) := by omega
        simp only [c2, p_brt, p_gd ck, p_gd ck2, p_gd ci, Int.toNat_natCast, List.getElem?_eq_getElem hk, List.getElem?_eq_getElem hk2, List.getElem?_eq_getElem hi, p_bd, below_is]
        by_cases hb : bel l[2 * i + 1 + 1] l[2 * i + 1] = true
        · simp only [hb, p_brt, p_gd ck2, Int.toNat_natCast, List.getElem?_eq_getElem hk2, p_bd, below_is, p_br]
          refine key (2 * i + 1 + 1) (by omega) (by omega) hk2 (fun s hs hps hne hsl => ?_)
          obtain rfl : s = 2 * i + 1 := by omega
          exact bel_asymm hb
        · rw [Bool.not_eq_true] at hb
          simp only [hb, p_brf, p_gd ck, Int.toNat_natCast, List.getElem?_eq_getElem hk, p_bd, below_is, p_br]
          refine key (2 * i + 1) (by omega) (by omega) hk (fun s hs hps hne hsl => ?_)
          obtain rfl : s = 2 * i + 1 + 1 := by omega
          exact hb
      · have c2 : decide (((2 * i + 1 + 1 : Nat) : Int) < ((l.length : Nat) : Int)) = false := by simp; omega
        simp only [c2, p_brf, p_gd ck, p_gd ci, Int.toNat_natCast, List.getElem?_eq_getElem hk, List.getElem?_eq_getElem hi, p_bd, below_is, p_br]
        refine key (2 * i + 1) (by omega) (by omega) hk (fun s hs hps hne hsl => ?_)
        omega
    · have c1 : decide (((2 * i + 1 : Nat) : Int) ≥ ((l.length : Nat) : Int)) = true := by simp; omega
      simp only [c1, p_brt]
      refine ⟨l, rfl, but_done hB (fun s hs hps x y hx hy => ?_), List.Perm.refl _⟩
      have := (List.getElem?_eq_some_iff.1 hx).1
      omega
end Go.Proofs
