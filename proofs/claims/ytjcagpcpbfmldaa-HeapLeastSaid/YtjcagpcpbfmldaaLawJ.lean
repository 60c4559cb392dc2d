import Derived.Test.YtjcagpcpbfmldaaD7
import Derived.Test.YtjcagpcpbfmldaaLawI
import Derived.Test.YtjcagpcpbfmldaaLawE
/- Pushed, set, dropped: the least is below all others; dropped one by one, they come in order; each account is there once, with its last rank. -/
set_option linter.unusedVariables false
set_option linter.unusedSimpArgs false
set_option maxRecDepth 100000
namespace Go.Proofs
open Gw Go.RowKit Go.IntWalk

structure HI (L : List Bool) (R : List TRank) (h : List TNode) : Prop where
  hL : L.length = 8
  hh : isH h = true
  fwd : ∀ x ∈ h, L[x.Acct.toNat]? = some true ∧ R[x.Acct.toNat]? = some x.Rank
  bwd : ∀ k : Nat, L[k]? = some true → ∃ x ∈ h, x.Acct = (k : Int)

theorem HI.ok {L : List Bool} {R : List TRank} {h : List TNode} (H : HI L R h) {x : TNode} (hx : x ∈ h) : 0 ≤ x.Acct ∧ x.Acct < 8 := by
  have := okN_A ((isH_all H.hh).2.1 x hx)
  unfold okA at this
  omega
/-- nobody is left -/
theorem HI.none {L : List Bool} {R : List TRank} (H : HI L R []) : L = [false, false, false, false, false, false, false, false] := by
  obtain ⟨a, b, c, d, e, f, g, i, rfl⟩ := ex8 H.hL
  have key : ∀ k : Nat, [a, b, c, d, e, f, g, i][k]? ≠ some true := fun k hk => by
    obtain ⟨x, hx, _⟩ := H.bwd k hk
    cases hx
  have k0 := key 0; have k1 := key 1; have k2 := key 2; have k3 := key 3
  have k4 := key 4; have k5 := key 5; have k6 := key 6; have k7 := key 7
  simp at k0 k1 k2 k3 k4 k5 k6 k7
  simp [*]
/-- one goes -/
theorem HI.drop {L : List Bool} {R R' : List TRank} {h h' : List TNode} (H : HI L R h) {j : Nat} (hj : j < h.length) (hh : isH h' = true) (hp : h'.Perm (h.eraseIdx j))
    (hR : ∀ k, k ≠ h[j].Acct.toNat → R'[k]? = R[k]?) : HI (L.set h[j].Acct.toNat false) R' h' := by
  have hd := heap_dst H.hh
  have hx := H.ok (List.getElem_mem hj)
  have mem : ∀ x, x ∈ h' ↔ x ∈ h ∧ x.Acct ≠ h[j].Acct := by
    intro x
    rw [hp.mem_iff]
    constructor
    · intro hm
      refine ⟨List.mem_of_mem_eraseIdx hm, ?_⟩
      obtain ⟨k, hk, e⟩ := List.mem_eraseIdx_iff_getElem.1 hm
      obtain ⟨hk1, rfl⟩ := e
      exact dst_ne hd hk hj hk1
    · rintro ⟨hm, hne⟩
      obtain ⟨k, hk, rfl⟩ := List.getElem_of_mem hm
      exact List.mem_eraseIdx_iff_getElem.2 ⟨k, hk, fun e => hne (by subst e; rfl), rfl⟩
  refine ⟨by simpa using H.hL, hh, fun x hx' => ?_, fun k hk => ?_⟩
  · obtain ⟨h1, h2⟩ := (mem x).1 hx'
    have ho := H.ok h1
    have hne : h[j].Acct.toNat ≠ x.Acct.toNat := by omega
    rw [List.getElem?_set_ne hne, hR _ (fun e => hne e.symm)]
    exact H.fwd x h1
  · by_cases e : h[j].Acct.toNat = k
    · subst e
      rw [List.getElem?_set] at hk
      simp at hk
    · rw [List.getElem?_set_ne e] at hk
      obtain ⟨x, hx1, hx2⟩ := H.bwd k hk
      exact ⟨x, (mem x).2 ⟨hx1, fun e' => e (by omega)⟩, hx2⟩

theorem l3_law (K : Bool → Option Bool) : g_tarnlaw13_HeapLeast_l3 false false false false false false false K 4000 4000 false 0 = K false := by kernel_rfl

theorem l2_law (K : TNode → Bool → Bool → Bool → Bool → Bool → Bool → Bool → Bool → List TNode → Option Bool) (r0 r1 r2 r3 r4 r5 r6 r7 : TRank) : ∀ (m : Nat) (h : List TNode) (c0 c1 c2 c3 c4 c5 c6 c7 first : Bool) (last : TNode) (i n : Nat),
    HI [c0, c1, c2, c3, c4, c5, c6, c7] [r0, r1, r2, r3, r4, r5, r6, r7] h → h.length = m → i + m ≤ 8 → m < n → (first = false → ∀ x ∈ h, bel last x = true) →
    ∃ last', g_tarnlaw13_HeapLeast_l2 4000 K r0 r1 r2 r3 r4 r5 r6 r7 n last c0 c1 c2 c3 c4 c5 c6 c7 h first (i : Int) = K last' false false false false false false false false [] := by
  intro m
  induction m with
  | zero =>
    intro h c0 c1 c2 c3 c4 c5 c6 c7 first last i n H hm hi hn hf
    obtain ⟨n, rfl⟩ : ∃ k, n = k + 1 := ⟨n - 1, by omega⟩
    have hnil : h = [] := List.eq_nil_of_length_eq_zero hm
    subst hnil
    have e := H.none
    simp only [List.cons.injEq, and_true] at e
    obtain ⟨rfl, rfl, rfl, rfl, rfl, rfl, rfl, rfl⟩ := e
    obtain ⟨x, hl, _⟩ := least_spec 1000 H.hh
    have hl : g_heap_Least 4000 [] = some (x, 3) := hl
    have c9 : decide ((i : Int) < 9) = true := decide_eq_true (by omega)
    simp only [g_tarnlaw13_HeapLeast_l2, p_lt, p_jn, c9, p_brt, hl, p_bd, g_tarnlaw13_num, beq_self_eq_true]
    exact ⟨last, rfl⟩
  | succ m ih =>
    intro h c0 c1 c2 c3 c4 c5 c6 c7 first last i n H hm hi hn hf
    obtain ⟨n, rfl⟩ : ∃ k, n = k + 1 := ⟨n - 1, by omega⟩
    have hl0 : 0 < h.length := by omega
    obtain ⟨x, hl, hx0⟩ := least_spec 1000 H.hh
    have hx := hx0 hl0
    subst hx
    have hl : g_heap_Least 4000 h = some (h[0], 0) := by
      have e : (if h.length = 0 then (3 : Int) else 0) = 0 := if_neg (by omega)
      rw [e] at hl; exact hl
    have c9 : decide ((i : Int) < 9) = true := decide_eq_true (by omega)
    have hmem := List.getElem_mem hl0
    have ho := H.ok hmem
    obtain ⟨f1, f2⟩ := H.fwd _ hmem
    obtain ⟨h', d1, d2, d3⟩ := drop_spec 1000 H.hh hl0
    have d1 : g_heap_Drop 4000 h h[0].Acct = some (h', 0) := d1
    have ca : (0 : Int) ≤ h[0].Acct ∧ h[0].Acct < 8 := ho
    have n1 : decide (h[0].Acct < 0) = false := decide_eq_false (by omega)
    have n2 : decide (h[0].Acct ≥ 8) = false := decide_eq_false (by omega)
    have hD := H.drop (R' := [r0, r1, r2, r3, r4, r5, r6, r7]) hl0 d2 d3 (fun _ _ => rfl)
    obtain ⟨y0, y1, y2, y3, y4, y5, y6, y7, ey⟩ := ex8 hD.hL
    rw [ey] at hD
    have hlen : h'.length = m := by
      rw [d3.length_eq, List.length_eraseIdx]
      simp only [hl0, if_true]; omega
    have hbel : ∀ y ∈ h', bel h[0] y = true := fun y hy => by
      have := d3.mem_iff.1 hy
      obtain ⟨k, hk, hk0, rfl⟩ := List.mem_eraseIdx_iff_getElem.1 this
      exact isH_least H.hh k (by omega) hk
    have hbl : first = false → g_tarnref12_Below 4000 last h[0] = some true := fun e => by
      rw [show (4000 : Nat) = 3995 + 5 from rfl, below_is, hf e _ hmem]
    have hstep : ∀ first', g_tarnlaw13_HeapLeast_l2 4000 K r0 r1 r2 r3 r4 r5 r6 r7 n h[0] y0 y1 y2 y3 y4 y5 y6 y7 h' false ((i + 1 : Nat) : Int) = g_tarnlaw13_HeapLeast_l2 4000 K r0 r1 r2 r3 r4 r5 r6 r7 n h[0] y0 y1 y2 y3 y4 y5 y6 y7 h' false ((i + 1 : Nat) : Int) := fun _ => rfl
    obtain ⟨last', hrec⟩ := ih h' y0 y1 y2 y3 y4 y5 y6 y7 false h[0] (i + 1) n hD hlen (by omega) (by omega) (fun _ => hbel)
    refine ⟨last', ?_⟩
    simp only [g_tarnlaw13_HeapLeast_l2, p_lt, p_jn, c9, p_brt, hl, p_bd, g_tarnlaw13_num, show ((0 : Int) == 3) = false from rfl, p_brf, bne_self_eq_false, n1, n2, p_gd ca, f1, f2, Bool.not_true, decide_true, d1]
    cases first with
    | true =>
      simp only [Bool.not_true, p_brf, ey, ls8, inc_a (show i < 100000 by omega)]
      exact hrec
    | false =>
      simp only [Bool.not_false, p_brt, hbl rfl, p_bd, Bool.not_true, p_brf, ey, ls8, inc_a (show i < 100000 by omega)]
      exact hrec
end Go.Proofs
