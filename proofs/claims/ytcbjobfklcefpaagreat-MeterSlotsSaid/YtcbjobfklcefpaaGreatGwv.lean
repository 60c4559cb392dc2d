import Derived.Test.YtcbjobfklcefpaaGreatGwu
set_option linter.unusedVariables false
/-! Regions of any order in which something stays: what looks at that alone may be taken first. -/
namespace Gw
open Go Go.RowKit
section
variable {P : Program} {ops : Array Oper} {C : World → Prop} {M : Act → World → Prop} {w : World} {o : Oper} {K K' : Act → World → Prop} {a : Act}
theorem Op1.mono (h : Op1 P ops o K a w) (hk : ∀ a w, K a w → K' a w) : Op1 P ops o K' a w := by
  rcases h with ⟨hw, h⟩ | ⟨hw, ⟨v, w', hr, h⟩ | ⟨w', hr, h⟩ | ⟨f, args, R, hr, hc, h⟩⟩
  · exact .inl ⟨hw, hk _ _ h⟩
  · exact .inr ⟨hw, .inl ⟨v, w', hr, hk _ _ h⟩⟩
  · exact .inr ⟨hw, .inr (.inl ⟨w', hr, hk _ _ h⟩)⟩
  · exact .inr ⟨hw, .inr (.inr ⟨f, args, R, hr, hc, fun v w' hR => hk _ _ (h v w' hR)⟩)⟩
/-- in each world in which C stays, o gives v, or is left out -/
def Gives (P : Program) (ops : Array Oper) (C : World → Prop) (o : Oper) (v : Value) (a : Act) : Prop :=
  (Region.wanted o (yielded ops a.tmps) = true ∧ ∀ w, C w → (execOp a.eval o).run P w = .ok (.value v) w) ∨ (Region.wanted o (yielded ops a.tmps) = false ∧ v = undef)
/-- another operation, ahead of it -/
theorem Op1.ahead {oi : Oper} {v : Value} (hap : oi.apart ops o = true) (hi : ∀ cs b, oi.op ≠ .select cs b) (ho : ∀ cs b, o.op ≠ .select cs b) (hg : Gives P ops C oi v a) (h : Op1 P ops o K (a.put oi.dst v) w) :
    Op1 P ops o (fun a' w' => Gives P ops C oi v a' ∧ K (a'.put oi.dst v) w') a w := by
  obtain ⟨h1, h2, h3⟩ := Oper.apart_spec hap
  have keep : ∀ u, Gives P ops C oi v (a.put o.dst u) := fun u => by
    unfold Gives
    rw [wanted_put oi a o.dst u h3, execOp_put oi hi a o.dst u h3]
    exact hg
  have comm : ∀ u, (a.put oi.dst v).put o.dst u = (a.put o.dst u).put oi.dst v := fun u => Act.put_comm a v u h2
  unfold Op1 at h ⊢
  rw [wanted_put o a oi.dst v h1, execOp_put o ho a oi.dst v h1] at h
  rcases h with ⟨hw, h⟩ | ⟨hw, ⟨u, w', hr, h⟩ | ⟨w', hr, h⟩ | ⟨f, args, R, hr, hc, h⟩⟩
  · exact .inl ⟨hw, keep _, by rw [← comm]; exact h⟩
  · exact .inr ⟨hw, .inl ⟨u, w', hr, keep _, by rw [← comm]; exact h⟩⟩
  · exact .inr ⟨hw, .inr (.inl ⟨w', hr, keep _, by rw [← comm]; exact h⟩)⟩
  · exact .inr ⟨hw, .inr (.inr ⟨f, args, R, hr, hc, fun u w' hR => ⟨keep _, by rw [← comm]; exact h u w' hR⟩⟩)⟩
/-- whatever order is drawn; C stays; C1 stays till one of the operations W comes -/
def Nod (C : World → Prop) (W : List Nat) (C1 : World → Prop) (l : Array Bool) (w : World) : Prop := C w ∧ ((∀ s ∈ W, l.getD s true = false) → C1 w)
def WI (P : Program) (ops : Array Oper) (C : World → Prop) (W : List Nat) (C1 : World → Prop) (M : Act → World → Prop) : Nat → Array Bool → Act → World → Prop
  | 0, l, a, w => Nod C W C1 l w ∧ Region.ready .any ops l = [] ∧ M a w
  | n + 1, l, a, w => Nod C W C1 l w ∧ (Region.ready .any ops l = [] → M a w) ∧ ∀ j ∈ Region.ready .any ops l, ∃ o, ops[j]? = some o ∧ Op1 P ops o (WI P ops C W C1 M n (l.setIfInBounds j true)) a w
variable {W : List Nat} {C1 Cx : World → Prop}
theorem WI.stays {n : Nat} {l : Array Bool} (h : WI P ops C W C1 M n l a w) : Nod C W C1 l w := by
  cases n with
  | zero => exact h.1
  | succ n => exact h.1
theorem WI.wa : ∀ (n : Nat) (l : Array Bool) (a : Act) (w : World), WI P ops C W C1 M n l a w → WA P ops M n l a w := by
  intro n
  induction n with
  | zero => intro l a w h; exact ⟨h.2.1, h.2.2⟩
  | succ n ih =>
    intro l a w h
    refine ⟨h.2.1, fun j hj => ?_⟩
    obtain ⟨o, ho, h1⟩ := h.2.2 j hj
    exact WO.op ho (h1.mono fun a w h => ih _ a w h)
theorem WP.drawI {id : Nat} {Q : Exit → Act → World → Prop} {r : Option Nat} (hd : noDefer ops = true) (hm : P.follows .mixedOrders = true) (C : World → Prop) (W : List Nat) (C1 : World → Prop) (M : Act → World → Prop) (n : Nat) (l : Array Bool) (hn : ops.size = n) (hl : Array.replicate n false = l)
    (h : WI P ops C W C1 M n l a { w with drawn := w.drawn + 1 }) (hy : ∀ a w, M a w → Q .normal a w) : WP r P (.region id ops true) Q a w :=
  WP.draw hd hm M n l hn hl (WI.wa _ _ _ _ h) hy
theorem Nod.back {i : Nat} {l : Array Bool} (hi : i ∉ W) (h : Nod C W C1 (l.setIfInBounds i true) w) : Nod C W C1 l w :=
  ⟨h.1, fun hs => h.2 fun s hs' => by
    have hne : i ≠ s := fun e => hi (e ▸ hs')
    rw [getD_set_ne true hne]
    exact hs s hs'⟩
theorem WI.first {i : Nat} {oi : Oper} {v : Value} (hi : ops[i]? = some oi) (hiW : i ∉ W) (hsel : ∀ (j : Nat) (o : Oper) cs b, ops[j]? = some o → o.op ≠ .select cs b)
    (K : Array Bool → Prop) (hK : ∀ l j, K l → i ∈ Region.ready .any ops l → j ∈ Region.ready .any ops l → j ≠ i → K (l.setIfInBounds j true))
    (hx : ∀ n l a w, K l → WI P ops C W C1 M n (l.setIfInBounds i true) a w → Cx w) :
    ∀ (n : Nat) (l : Array Bool) (a : Act) (w : World), K l →
      (∀ j oj, ops[j]? = some oj → j ≠ i → l.getD j true = false → (∀ e ∈ oj.after, Region.binds .any e = true → e.on ≠ i) → oi.apart ops oj = true) →
      i ∈ Region.ready .any ops l → Gives P ops Cx oi v a → WI P ops C W C1 M n (l.setIfInBounds i true) (a.put oi.dst v) w → WI P ops C W C1 M (n + 1) l a w := by
  intro n
  induction n with
  | zero =>
    intro l a w hk hf hr hg h
    refine ⟨h.stays.back hiW, fun e => (by rw [e] at hr; cases hr), fun j hj => ?_⟩
    by_cases e : j = i
    · subst e
      refine ⟨oi, hi, ?_⟩
      rcases hg with ⟨hw, hv⟩ | ⟨hw, rfl⟩
      · exact Op1.val hw (hv w (hx _ _ _ _ hk h)) h
      · exact Op1.off hw h
    · have := ready_mono hj e
      rw [h.2.1] at this
      cases this
  | succ n ih =>
    intro l a w hk hf hr hg h
    refine ⟨h.stays.back hiW, fun e => (by rw [e] at hr; cases hr), fun j hj => ?_⟩
    by_cases e : j = i
    · subst e
      refine ⟨oi, hi, ?_⟩
      rcases hg with ⟨hw, hv⟩ | ⟨hw, rfl⟩
      · exact Op1.val hw (hv w (hx _ _ _ _ hk h)) h
      · exact Op1.off hw h
    · obtain ⟨oj, hoj, h1⟩ := h.2.2 j (ready_mono hj e)
      obtain ⟨hjun, oj', hoj', hall⟩ := mem_ready.1 hj
      rw [hoj] at hoj'
      cases hoj'
      have hun : l.getD i true = false := (mem_ready.1 hr).1
      have hno : ∀ x ∈ oj.after, Region.binds .any x = true → x.on ≠ i := fun x hx hb hxi => by
        have h2 := hall x hx hb
        rw [hxi] at h2
        rcases Nat.lt_or_ge i l.size with h3 | h3
        · simp [h3] at h2 hun; rw [hun] at h2; cases h2
        · simp [Array.getElem?_eq_none h3] at h2
      refine ⟨oj, hoj, (Op1.ahead (hf j oj hoj e hjun hno) (fun cs b => hsel i oi cs b hi) (fun cs b => hsel j oj cs b hoj) hg h1).mono fun a' w' h3 => ?_⟩
      refine ih (l.setIfInBounds j true) a' w' (hK l j hk hr hj e) (fun k ok hk hki hku hkno => hf k ok hk hki ?_ hkno) (ready_mono hr (Ne.symm e)) h3.1 ?_
      · by_cases hjk : j = k
        · subst hjk; exact hjun
        · rw [getD_set_ne true hjk] at hku; exact hku
      · rw [Array.setIfInBounds_comm _ _ e]
        exact h3.2
end
section
variable {P : Program} {ops : Array Oper} {C C1 : World → Prop} {W : List Nat} {M : Act → World → Prop} {w : World} {o : Oper} {n m : Nat} {G : Nat → Value} {l : List (Nat × Value)} {ds : List Deferred} {li li' : Array Bool} {a : Act}
/-- the test of what is taken first -/
def tk (ops : Array Oper) (W : List Nat) (li : Array Bool) (i : Nat) : Bool := (Region.noSelect ops && Region.free .any ops li i && (Region.ready .any ops li).contains i) && !(W.contains i)
theorem WI.take (i : Nat) {v : Value} (ho : ops[i]? = some o) (hs : tk ops W li i = true) (hg : Gives P ops C o v a) (hl : li.setIfInBounds i true = li')
    (h : WI P ops C W C1 M m li' (a.put o.dst v) w) : WI P ops C W C1 M (m + 1) li a w := by
  subst hl
  simp only [tk, Bool.and_eq_true, Bool.not_eq_true'] at hs
  exact WI.first ho (fun hi => by have := hs.2; rw [List.contains_iff_mem.2 hi] at this; cases this) (Region.noSelect_spec hs.1.1.1) (fun _ => True) (fun _ _ _ _ _ _ => trivial) (fun _ _ _ _ _ h => h.stays.1) m li a w trivial (Region.free_spec ho hs.1.1.2) (by simpa using hs.1.2) hg h
/-- each of W comes behind i -/
def bh (ops : Array Oper) (W : List Nat) (li : Array Bool) (i : Nat) : Bool := W.all fun s => !(li.getD s true) && match ops[s]? with
  | some o => o.after.any fun e => Region.binds .any e && e.on == i
  | none => false
theorem WI.take1 (i : Nat) {v : Value} (ho : ops[i]? = some o) (hs : tk ops W li i = true) (hb : bh ops W li i = true) (hg : Gives P ops C1 o v a) (hl : li.setIfInBounds i true = li')
    (h : WI P ops C W C1 M m li' (a.put o.dst v) w) : WI P ops C W C1 M (m + 1) li a w := by
  subst hl
  simp only [tk, Bool.and_eq_true, Bool.not_eq_true'] at hs
  have hiW : i ∉ W := fun hi => by have := hs.2; rw [List.contains_iff_mem.2 hi] at this; cases this
  have hb' : ∀ s ∈ W, li.getD s true = false ∧ ∃ os, ops[s]? = some os ∧ ∃ e ∈ os.after, Region.binds .any e = true ∧ e.on = i := by
    intro s hs'
    have := List.all_eq_true.1 hb s hs'
    simp only [Bool.and_eq_true, Bool.not_eq_true'] at this
    refine ⟨this.1, ?_⟩
    cases hos : ops[s]? with
    | none => rw [hos] at this; exact absurd this.2 (by simp)
    | some os =>
      rw [hos] at this
      obtain ⟨e, he, h2⟩ := Array.any_eq_true'.1 this.2
      simp only [Bool.and_eq_true, beq_iff_eq] at h2
      exact ⟨os, rfl, e, he, h2.1, h2.2⟩
  refine WI.first ho hiW (Region.noSelect_spec hs.1.1.1) (fun l => ∀ s ∈ W, l.getD s true = false) (fun l j hk hri hrj hne s hs' => ?_) (fun n l a w hk h => h.stays.2 fun s hs' => ?_) m li a w (fun s hs' => (hb' s hs').1) (Region.free_spec ho hs.1.1.2) (by simpa using hs.1.2) hg h
  · have hjs : j ≠ s := fun e => by
      subst e
      obtain ⟨_, os, hos, x, hx, hbd, hxo⟩ := hb' j hs'
      obtain ⟨_, os', hos', hall⟩ := mem_ready.1 hrj
      rw [hos] at hos'
      cases hos'
      have h1 := hall x hx hbd
      have h0 := (mem_ready.1 hri).1
      rw [hxo] at h1
      rcases Nat.lt_or_ge i l.size with h3 | h3
      · simp [h3] at h1 h0; rw [h0] at h1; cases h1
      · simp [Array.getElem?_eq_none h3] at h1
    rw [getD_set_ne true hjs]
    exact hk s hs'
  · have hne : i ≠ s := fun e => hiW (e ▸ hs')
    rw [getD_set_ne true hne]
    exact hk s hs'
/-- what stays is looked at: taken first -/
theorem WI.takeS (i : Nat) (v : Value) (d : Nat) (ho : ops[i]? = some o) (hd : o.dst = some d) (hs : tk ops W li i = true)
    (hw : Region.wanted o (yS ops n G l) = true) (hr : ∀ w, C w → (execOp (S n G l ds).eval o).run P w = .ok (.value v) w) (hl : li.setIfInBounds i true = li')
    (h : WI P ops C W C1 M m li' (S n G ((d, v) :: l) ds) w) : WI P ops C W C1 M (m + 1) li (S n G l ds) w :=
  .take i ho hs (.inl ⟨by rw [S_yield]; exact hw, hr⟩) hl (by rw [S_put, hd]; exact h)
/-- what stays till one of W comes -/
theorem WI.takeT (i : Nat) (v : Value) (d : Nat) (ho : ops[i]? = some o) (hd : o.dst = some d) (hs : tk ops W li i = true) (hb : bh ops W li i = true)
    (hw : Region.wanted o (yS ops n G l) = true) (hr : ∀ w, C1 w → (execOp (S n G l ds).eval o).run P w = .ok (.value v) w) (hl : li.setIfInBounds i true = li')
    (h : WI P ops C W C1 M m li' (S n G ((d, v) :: l) ds) w) : WI P ops C W C1 M (m + 1) li (S n G l ds) w :=
  .take1 i ho hs hb (.inl ⟨by rw [S_yield]; exact hw, hr⟩) hl (by rw [S_put, hd]; exact h)
def PZ (P : Program) (ops : Array Oper) (W : List Nat) (n : Nat) (G : Nat → Value) (K : Array Bool → List (Nat × Value) → Prop) : List Nat → Array Bool → List (Nat × Value) → Prop
  | [], li, l => K li l
  | i :: is, li, l => match ops[i]? with
    | none => False
    | some o => match tk ops W li i with
      | false => False
      | true => match Region.wanted o (yS ops n G l) with
        | false => PZ P ops W n G K is (li.setIfInBounds i true) (cn o.dst undef l)
        | true => match pureR P (execOp (evS n G l) o) with
          | some (.value v) => PZ P ops W n G K is (li.setIfInBounds i true) (cn o.dst v l)
          | _ => False
theorem WI.runS_aux (m : Nat) : ∀ (is : List Nat) (li : Array Bool) (l : List (Nat × Value)), PZ P ops W n G (fun li' l' => WI P ops C W C1 M m li' (S n G l' ds) w) is li l → WI P ops C W C1 M (m + is.length) li (S n G l ds) w := by
  intro is
  induction is with
  | nil => intro li l h; exact h
  | cons i is ih =>
    intro li l h
    unfold PZ at h
    cases ho : ops[i]? with
    | none => rw [ho] at h; exact h.elim
    | some o =>
      rw [ho] at h
      simp only at h
      cases hs : tk ops W li i with
      | false => rw [hs] at h; exact h.elim
      | true =>
        rw [hs] at h
        simp only at h
        cases hw : Region.wanted o (yS ops n G l) with
        | false =>
          rw [hw] at h
          exact WI.take (v := undef) i ho hs (.inr ⟨by rw [S_yield]; exact hw, rfl⟩) rfl (by rw [S_put]; exact ih _ _ h)
        | true =>
          rw [hw] at h
          simp only at h
          cases hr : pureR P (execOp (evS n G l) o) with
          | none => rw [hr] at h; exact h.elim
          | some x =>
            rw [hr] at h
            cases x <;> first
              | exact WI.take i ho hs (.inl ⟨by rw [S_yield]; exact hw, by rw [S_eval]; exact fun w _ => pureR_run hr w⟩) rfl (by rw [S_put]; exact ih _ _ h)
              | exact h.elim
theorem WI.runS (is : List Nat) (m m' : Nat) (li' : Array Bool) (nl : List (Nat × Value)) (hm : m + is.length = m') (hk : ∀ K : Array Bool → List (Nat × Value) → Prop, PZ P ops W n G K is li l = K li' (nl ++ l))
    (h : WI P ops C W C1 M m li' (S n G (nl ++ l) ds) w) : WI P ops C W C1 M m' li (S n G l ds) w := by
  subst hm
  exact WI.runS_aux (P := P) (ops := ops) (C := C) (W := W) (C1 := C1) (n := n) (G := G) (ds := ds) (M := M) (w := w) m is li l (by rw [hk]; exact h)
theorem WI.any (rs : List Nat) (hr : Region.ready .any ops li = rs) (hne : rs ≠ []) (hC : Nod C W C1 li w) (h : ∀ i ∈ rs, ∃ o, ops[i]? = some o ∧ Op1 P ops o (WI P ops C W C1 M m (li.setIfInBounds i true)) a w) : WI P ops C W C1 M (m + 1) li a w :=
  ⟨hC, fun e => absurd (hr ▸ e) hne, fun j hj => h j (hr ▸ hj)⟩
/-- one alone may come up -/
theorem WI.one (i : Nat) (hr : Region.ready .any ops li = [i]) (hC : Nod C W C1 li w) (ho : ops[i]? = some o) (h : Op1 P ops o (WI P ops C W C1 M m (li.setIfInBounds i true)) a w) : WI P ops C W C1 M (m + 1) li a w :=
by
  refine ⟨hC, ?_, ?_⟩
  · intro e
    rw [hr] at e
    cases e
  · intro j hj
    rw [hr] at hj
    simp at hj
    subst hj
    exact ⟨o, ho, h⟩
theorem St.fzDown {Mm : Nat → Prop} {w0 : World} {Rs : List Res} {h h0 : Hp} (H : St Mm w0 w (Fz h :: Rs)) (hs : h0.sub h) : St Mm w0 w (Fz h0 :: Rs) := by
  have hd := H.disj
  rw [List.pairwise_cons] at hd
  have key : ∀ k, (Fz h0).fp k → (Fz h).fp k := fun k hk hn => by
    cases e : h0 k with
    | none => exact hk e
    | some x => rw [hs k x e] at hn; cases hn
  refine ⟨H.os, H.tape, H.output, H.size, H.block, fun R hR => ?_, fun R hR k hk => ?_, List.pairwise_cons.2 ⟨fun R hR k hk => hd.1 R hR k (key k hk), hd.2⟩⟩
  · rcases List.mem_cons.1 hR with rfl | hR
    · exact Hp.sub_le hs (H.holds (Fz h) (by simp))
    · exact H.holds R (by simp [hR])
  · rcases List.mem_cons.1 hR with rfl | hR
    · exact H.own (Fz h) (by simp) k (key k hk)
    · exact H.own R (by simp [hR]) k hk
theorem WI.done (hr : Region.ready .any ops li = []) (hC : Nod C W C1 li w) (h : M a w) : WI P ops C W C1 M m li a w := by
  cases m with
  | zero => exact ⟨hC, hr, h⟩
  | succ m => exact ⟨hC, fun _ => h, fun j hj => by rw [hr] at hj; cases hj⟩
theorem WI.nS (d : Nat) {d' : Option Tmp} {v : Value} {li1 : Array Bool} (li : Array Bool) (hl : li1 = li) (hd : d' = some d) (h : WI P ops C W C1 M m li (S n G ((d, v) :: l) ds) w) : WI P ops C W C1 M m li1 ((S n G l ds).put d' v) w := by
  subst hl; rw [S_put, hd]; exact h
theorem WI.nS0 {d' : Option Tmp} {v : Value} {li1 : Array Bool} (li : Array Bool) (hl : li1 = li) (hd : d' = none) (h : WI P ops C W C1 M m li (S n G l ds) w) : WI P ops C W C1 M m li1 ((S n G l ds).put d' v) w := by
  subst hl; rw [S_put, hd]; exact h
theorem nod (h : C w) (h1 : C1 w) : Nod C W C1 li w := ⟨h, fun _ => h1⟩
theorem nod0 (h : C w) (s : Nat) (hs : W.contains s = true) (hl : li.getD s true = true) : Nod C W C1 li w := ⟨h, fun hh => by rw [hh s (List.contains_iff_mem.1 hs)] at hl; cases hl⟩
/-- these resources are there -/
def All (Rs : List Res) : World → Prop := fun w => ∀ R ∈ Rs, R.holds w
theorem All.boxAt {Rs : List Res} (h : All Rs w) {b : Nat} {cs : Array Value} {E : TypeId} (i : Nat) (hi : Rs[i]? = some (Box b cs E)) : CellsAt (fun b => w.heap[b]?) ⟨b, 0, none⟩ cs.toList :=
  ⟨rfl, cs, E, (0, 0), h _ (List.mem_of_getElem? hi), fun j u hu => by simpa using hu⟩
end
end Gw
