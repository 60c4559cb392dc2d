import Derived.Test.YtjcagpcpbfmldaaLawJ
/- Whatever is pushed, set and dropped: each account is there once, with its last rank. -/
set_option linter.unusedVariables false
set_option linter.unusedSimpArgs false
set_option maxRecDepth 100000
set_option maxHeartbeats 4000000
namespace Go.Proofs
open Gw Go.RowKit Go.IntWalk

theorem HI.push {L : List Bool} {R : List TRank} {h h' : List TNode} (H : HI L R h) (hR : R.length = 8) {n : TNode} (hh : isH h' = true) (hp : h'.Perm (n :: h)) (h0 : 0 ≤ n.Acct) (h1 : n.Acct < 8)
    (hf : ∀ x ∈ h, x.Acct ≠ n.Acct) : HI (L.set n.Acct.toNat true) (R.set n.Acct.toNat n.Rank) h' := by
  have hl : n.Acct.toNat < L.length := by rw [H.hL]; omega
  have hr : n.Acct.toNat < R.length := by omega
  refine ⟨by simpa using H.hL, hh, fun x hx => ?_, fun k hk => ?_⟩
  · rcases List.mem_cons.1 (hp.mem_iff.1 hx) with rfl | hx
    · exact ⟨List.getElem?_set_self hl, List.getElem?_set_self hr⟩
    · have ho := H.ok hx
      have hne : n.Acct.toNat ≠ x.Acct.toNat := fun e => hf x hx (by omega)
      rw [List.getElem?_set_ne hne, List.getElem?_set_ne hne]
      exact H.fwd x hx
  · by_cases e : n.Acct.toNat = k
    · exact ⟨n, hp.mem_iff.2 (List.mem_cons_self), by omega⟩
    · rw [List.getElem?_set_ne e] at hk
      obtain ⟨x, hx1, hx2⟩ := H.bwd k hk
      exact ⟨x, hp.mem_iff.2 (List.mem_cons_of_mem _ hx1), hx2⟩
theorem HI.set {L : List Bool} {R : List TRank} {h h' : List TNode} (H : HI L R h) (hR : R.length = 8) {n : TNode} {j : Nat} (hj : j < h.length) (ha : h[j].Acct = n.Acct)
    (hh : isH h' = true) (hp : h'.Perm (h.set j n)) : HI (L.set n.Acct.toNat true) (R.set n.Acct.toNat n.Rank) h' := by
  have hd := heap_dst H.hh
  have hx := H.ok (List.getElem_mem hj)
  have hl : n.Acct.toNat < L.length := by rw [H.hL]; omega
  have hr : n.Acct.toNat < R.length := by omega
  refine ⟨by simpa using H.hL, hh, fun x hx' => ?_, fun k hk => ?_⟩
  · have hm := hp.mem_iff.1 hx'
    obtain ⟨k, hk, rfl⟩ := List.getElem_of_mem hm
    have hk' : k < h.length := by simpa using hk
    by_cases e : j = k
    · subst e
      rw [List.getElem_set_self]
      exact ⟨List.getElem?_set_self hl, List.getElem?_set_self hr⟩
    · rw [List.getElem_set_ne e]
      have ho := H.ok (List.getElem_mem hk')
      have hne : h[k].Acct ≠ h[j].Acct := dst_ne hd hk' hj (fun e' => e e'.symm)
      have hne : n.Acct.toNat ≠ h[k].Acct.toNat := by omega
      rw [List.getElem?_set_ne hne, List.getElem?_set_ne hne]
      exact H.fwd _ (List.getElem_mem hk')
  · by_cases e : n.Acct.toNat = k
    · exact ⟨n, hp.mem_iff.2 (List.mem_iff_getElem.2 ⟨j, by simpa using hj, List.getElem_set_self ..⟩), by omega⟩
    · rw [List.getElem?_set_ne e] at hk
      obtain ⟨x, hx1, hx2⟩ := H.bwd k hk
      obtain ⟨i, hi, rfl⟩ := List.getElem_of_mem hx1
      have hne : j ≠ i := fun e' => by subst e'; omega
      exact ⟨h[i], hp.mem_iff.2 (List.mem_iff_getElem.2 ⟨i, by simpa using hi, List.getElem_set_ne hne ..⟩), hx2⟩

theorem in8 (k : Nat) (d : Int) : ∃ t, g_tarnlaw0_Within k d 8 = some t ∧ 0 ≤ t ∧ t < 8 := by
  simp only [g_tarnlaw0_Within, p_lt]
  rw [p_gd (of_decide_eq_true (by kernel_rfl))]
  refine ⟨_, rfl, ?_⟩
  rw [show wr .u64 8 = 8 from by kernel_rfl]
  have h0 : 0 ≤ wr .u64 d := by
    show 0 ≤ IntKind.u64.wrap d
    simp [IntKind.wrap, IntKind.bits, IntKind.signed]; omega
  rw [Int.tmod_eq_emod_of_nonneg h0]
  have h1 : 0 ≤ wr .u64 d % 8 := by omega
  have h2 : wr .u64 d % 8 < 8 := by omega
  rw [show wr .i64 (wr .u64 d % 8) = wr .u64 d % 8 from i64_in _ (by omega)]
  exact ⟨h1, h2⟩
theorem in4097 (k : Nat) (d : Int) : ∃ t, g_tarnlaw0_Within k d 4097 = some t ∧ 0 ≤ t ∧ t < 4097 := by
  simp only [g_tarnlaw0_Within, p_lt]
  rw [p_gd (of_decide_eq_true (by kernel_rfl))]
  refine ⟨_, rfl, ?_⟩
  rw [show wr .u64 4097 = 4097 from by kernel_rfl]
  have h0 : 0 ≤ wr .u64 d := by
    show 0 ≤ IntKind.u64.wrap d
    simp [IntKind.wrap, IntKind.bits, IntKind.signed]; omega
  rw [Int.tmod_eq_emod_of_nonneg h0]
  have h1 : 0 ≤ wr .u64 d % 4097 := by omega
  have h2 : wr .u64 d % 4097 < 4097 := by omega
  rw [show wr .i64 (wr .u64 d % 4097) = wr .u64 d % 4097 from i64_in _ (by omega)]
  exact ⟨h1, h2⟩

theorem l1_law (m : List Ttarnlaw13_Act) (hm : m.length ≤ 500) (K : Bool → Bool → Bool → Bool → Bool → Bool → Bool → Bool → TRank → TRank → TRank → TRank → TRank → TRank → TRank → TRank → (List TNode) → Option Bool)
    (hK : ∀ c0 c1 c2 c3 c4 c5 c6 c7 r0 r1 r2 r3 r4 r5 r6 r7 h, HI [c0, c1, c2, c3, c4, c5, c6, c7] [r0, r1, r2, r3, r4, r5, r6, r7] h → K c0 c1 c2 c3 c4 c5 c6 c7 r0 r1 r2 r3 r4 r5 r6 r7 h = some true) :
    ∀ (n i : Nat) (c0 c1 c2 c3 c4 c5 c6 c7 : Bool) (r0 r1 r2 r3 r4 r5 r6 r7 : TRank) (h : List TNode), HI [c0, c1, c2, c3, c4, c5, c6, c7] [r0, r1, r2, r3, r4, r5, r6, r7] h →
    i ≤ m.length → m.length < n + i → g_tarnlaw13_HeapLeast_l1 m 4000 K n c0 c1 c2 c3 c4 c5 c6 c7 r0 r1 r2 r3 r4 r5 r6 r7 h (i : Int) = some true := by
  intro n
  induction n with
  | zero => intro i _ _ _ _ _ _ _ _ _ _ _ _ _ _ _ _ h H h1 h2; omega
  | succ n ih =>
    intro i c0 c1 c2 c3 c4 c5 c6 c7 r0 r1 r2 r3 r4 r5 r6 r7 h H h1 h2
    rw [g_tarnlaw13_HeapLeast_l1]
    by_cases hi : i < m.length
    · have d0 : decide ((i : Int) < ((m.length : Nat) : Int)) = true := by simpa using hi
      have ci : (0 : Int) ≤ (i : Int) ∧ (i : Int) < ((m.length : Nat) : Int) := by omega
      by_cases h25 : (i : Int) < 25
      · obtain ⟨a, ha, a0, a8⟩ := in8 4000 m[i].N.Acct
        obtain ⟨t, ht, t0, t9⟩ := in4097 4000 m[i].N.Rank.Dist
        have ew : wr .i64 (0 - t) = 0 - t := i64_in _ (by omega)
        have ca : (0 : Int) ≤ a ∧ a < 8 := ⟨a0, a8⟩
        have hdst := heap_dst H.hh
        have hal : a.toNat < ([c0, c1, c2, c3, c4, c5, c6, c7] : List Bool).length := by simp; omega
        obtain ⟨b, hb⟩ : ∃ b, ([c0, c1, c2, c3, c4, c5, c6, c7] : List Bool)[a.toNat]? = some b := ⟨_, List.getElem?_eq_getElem hal⟩
        have hok : okN (TNode.mk a (TRank.mk (0 - t) m[i].N.Rank.Tip)) = true := by
          simp [okN]; omega
        have gone : b = false → ∀ x ∈ h, x.Acct ≠ a := fun e x hx ex => by
          have := (H.fwd x hx).1
          rw [ex, hb, e] at this; cases this
        have here : b = true → ∃ (j : Nat) (hj : j < h.length), h[j].Acct = a := fun e => by
          rw [e] at hb
          obtain ⟨x, hx, ex⟩ := H.bwd _ hb
          obtain ⟨j, hj, rfl⟩ := List.getElem_of_mem hx
          exact ⟨j, hj, by omega⟩
        obtain ⟨z0, z1, z2, z3, z4, z5, z6, z7, ez⟩ := ex8 (l := ([r0, r1, r2, r3, r4, r5, r6, r7] : List TRank).set a.toNat (TRank.mk (0 - t) m[i].N.Rank.Tip)) (by simp)
        simp only [d0, h25, decide_true, p_jn, p_lt, p_brt, p_gd ci, Int.toNat_natCast, List.getElem?_eq_getElem hi, p_bd, ha, ht, ew]
        by_cases hd2 : Int.tmod m[i].Do 3 = 2
        · simp only [hd2, beq_self_eq_true, p_brt, p_gd ca, hb, p_bd, Bool.not_true]
          cases b with
          | false =>
            have e1 : g_heap_Drop 4000 h a = some ([], 3) := drop_none 1000 H.hh (gone rfl)
            simp only [e1, p_bd, Bool.not_false, p_brt, g_tarnlaw13_num, bne_self_eq_false, p_brf, inc_a (show i < 100000 by omega)]
            exact ih (i + 1) _ _ _ _ _ _ _ _ _ _ _ _ _ _ _ _ h H (by omega) (by omega)
          | true =>
            obtain ⟨j, hj, ej⟩ := here rfl
            obtain ⟨h', e1, e2, e3⟩ := drop_spec 1000 H.hh hj
            rw [ej] at e1
            have e1 : g_heap_Drop 4000 h a = some (h', 0) := e1
            have HD := H.drop (R' := ([r0, r1, r2, r3, r4, r5, r6, r7] : List TRank).set a.toNat (TRank.mk (0 - t) m[i].N.Rank.Tip)) hj e2 e3 (fun k hk => by
              rw [ej] at hk
              exact List.getElem?_set_ne (fun e => hk e.symm))
            rw [ej] at HD
            obtain ⟨y0, y1, y2, y3, y4, y5, y6, y7, ey⟩ := ex8 HD.hL
            rw [ey, ez] at HD
            simp only [e1, p_bd, Bool.not_true, p_brf, g_tarnlaw13_num, bne_self_eq_false, inc_a (show i < 100000 by omega), ey, ez, ls8]
            exact ih (i + 1) _ _ _ _ _ _ _ _ _ _ _ _ _ _ _ _ h' HD (by omega) (by omega)
        · have hd2 : (Int.tmod m[i].Do 3 == 2) = false := by simpa using hd2
          obtain ⟨y0, y1, y2, y3, y4, y5, y6, y7, ey⟩ := ex8 (l := ([c0, c1, c2, c3, c4, c5, c6, c7] : List Bool).set a.toNat true) (by simp)
          simp only [hd2, p_brf, p_gd ca, hb, p_bd, Bool.not_false]
          cases b with
          | false =>
            have hl8 : h.length < 8 := by
              have hdn : dst (TNode.mk a (TRank.mk (0 - t) m[i].N.Rank.Tip) :: h) := List.pairwise_cons.2 ⟨fun x hx e => gone rfl x hx e.symm, hdst⟩
              have := len_le hdn (fun x hx => by
                rcases List.mem_cons.1 hx with rfl | hx
                · exact okN_A hok
                · exact okN_A ((isH_all H.hh).2.1 x hx))
              simp at this; omega
            obtain ⟨h', e1, e2, e3⟩ := push_spec 1000 H.hh hok (gone rfl) hl8
            have e1 : g_heap_Push 4000 h (TNode.mk a (TRank.mk (0 - t) m[i].N.Rank.Tip)) = some (h', 0) := e1
            have HP := H.push (by simp) e2 e3 a0 a8 (gone rfl)
            rw [ey, ez] at HP
            simp only [e1, p_brf, p_bd, g_tarnlaw13_num, bne_self_eq_false, inc_a (show i < 100000 by omega), ey, ez, ls8]
            exact ih (i + 1) _ _ _ _ _ _ _ _ _ _ _ _ _ _ _ _ h' HP (by omega) (by omega)
          | true =>
            obtain ⟨j, hj, ej⟩ := here rfl
            obtain ⟨h', e1, e2, e3⟩ := set_spec 1000 (n := TNode.mk a (TRank.mk (0 - t) m[i].N.Rank.Tip)) H.hh hok hj ej
            have e1 : g_heap_Set 4000 h (TNode.mk a (TRank.mk (0 - t) m[i].N.Rank.Tip)) = some (h', 0) := e1
            have HS := H.set (by simp) hj ej e2 e3
            rw [ey, ez] at HS
            simp only [e1, p_brt, p_brf, p_bd, g_tarnlaw13_num, bne_self_eq_false, inc_a (show i < 100000 by omega), ey, ez, ls8]
            exact ih (i + 1) _ _ _ _ _ _ _ _ _ _ _ _ _ _ _ _ h' HS (by omega) (by omega)
      · simp only [d0, h25, decide_false, p_jn, p_lt, p_brt, p_brf]
        exact hK _ _ _ _ _ _ _ _ _ _ _ _ _ _ _ _ _ H
    · have d0 : decide ((i : Int) < ((m.length : Nat) : Int)) = false := by simpa using hi
      simp only [d0, p_jn, p_lt, p_brf]
      exact hK _ _ _ _ _ _ _ _ _ _ _ _ _ _ _ _ _ H

theorem HI.nil (R : List TRank) : HI [false, false, false, false, false, false, false, false] R [] := by
  refine ⟨rfl, by kernel_rfl, fun x hx => (by cases hx), fun k hk => ?_⟩
  match k, hk with
  | 0, hk => cases hk
  | 1, hk => cases hk
  | 2, hk => cases hk
  | 3, hk => cases hk
  | 4, hk => cases hk
  | 5, hk => cases hk
  | 6, hk => cases hk
  | 7, hk => cases hk
  | k + 8, hk => simp at hk

theorem l2_law' (K : TNode → Bool → Bool → Bool → Bool → Bool → Bool → Bool → Bool → List TNode → Option Bool) (r0 r1 r2 r3 r4 r5 r6 r7 : TRank) (m : Nat) (h : List TNode) (c0 c1 c2 c3 c4 c5 c6 c7 first : Bool) (last : TNode) (i n : Nat)
    (H : HI [c0, c1, c2, c3, c4, c5, c6, c7] [r0, r1, r2, r3, r4, r5, r6, r7] h) (hm : h.length = m) (hi : i + m ≤ 8) (hn : m < n) (hf : first = false → ∀ x ∈ h, bel last x = true)
    (hK : ∀ last', K last' false false false false false false false false [] = some true) :
    g_tarnlaw13_HeapLeast_l2 4000 K r0 r1 r2 r3 r4 r5 r6 r7 n last c0 c1 c2 c3 c4 c5 c6 c7 h first (i : Int) = some true := by
  obtain ⟨last', e⟩ := l2_law K r0 r1 r2 r3 r4 r5 r6 r7 m h c0 c1 c2 c3 c4 c5 c6 c7 first last i n H hm hi hn hf
  rw [e]; exact hK last'

/- not by rfl: the kernel is not to unfold a loop beside a jn -/
theorem q_jn {α β : Type} (a : α) (f : α → Option β) : jn a f = f a := (p_jn a f).trans (Eq.refl _)
theorem q_lt {α β : Type} (a : α) (f : α → Option β) : lt a f = f a := (p_lt a f).trans (Eq.refl _)
theorem q_bd {α β : Type} (a : α) (f : α → Option β) : bd (some a) f = f a := (p_bd a f).trans (Eq.refl _)
theorem q_brt {β : Type} (x y : Option β) : br true x y = x := (p_brt x y).trans (Eq.refl _)
theorem q_brf {β : Type} (x y : Option β) : br false x y = y := (p_brf x y).trans (Eq.refl _)

theorem least_law (l : List TNode) (m : List Ttarnlaw13_Act) : g_tarnlaw13_HeapLeast 4000 l m = some true := by
  simp only [g_tarnlaw13_HeapLeast, heavy_is, q_bd]
  by_cases h1 : l.length ≤ 500
  · by_cases h2 : m.length ≤ 500
    · simp only [h1, h2, decide_true, Bool.and_self, Bool.not_true, q_brf, q_jn]
      refine l1_law m h2 _ ?_ 4000 0 _ _ _ _ _ _ _ _ _ _ _ _ _ _ _ _ [] (HI.nil _) (by omega) (by omega)
      intro c0 c1 c2 c3 c4 c5 c6 c7 r0 r1 r2 r3 r4 r5 r6 r7 h H
      have h8 := (isH_all H.hh).1
      refine l2_law' _ r0 r1 r2 r3 r4 r5 r6 r7 h.length h c0 c1 c2 c3 c4 c5 c6 c7 true _ 0 4000 H rfl (by omega) (by omega) (by intro h; cases h) fun last' => ?_
      rw [l3_law]
      simp only [q_lt, List.length_nil, wakes_is, q_bd, Int.natCast_zero, beq_self_eq_true, q_brt]
    · simp only [h2, decide_false, Bool.and_false, Bool.not_false, q_brt]
  · simp only [h1, decide_false, Bool.false_and, Bool.not_false, q_brt]
end Go.Proofs
