import Derived.Test.YtcbjobfklcefpaaGreatGwh
set_option linter.unusedVariables false
/-! Short states: of a function's slots only those that matter are said. -/
namespace Gw
open Go Go.RowKit
noncomputable def lk (l : List (Nat × Value)) (i : Nat) (d : Value) : Value :=
  List.rec (motive := fun _ => Value) d (fun p _ r => Bool.rec (motive := fun _ => Value) r p.2 (Nat.beq p.1 i)) l
theorem lk_cons (p : Nat × Value) (l : List (Nat × Value)) (i : Nat) (d : Value) : lk (p :: l) i d = if p.1 = i then p.2 else lk l i d := by
  show Bool.rec (motive := fun _ => Value) (lk l i d) p.2 (Nat.beq p.1 i) = _
  by_cases h : p.1 = i
  · rw [if_pos h]
    have e : Nat.beq p.1 i = true := Nat.beq_eq ▸ h
    rw [e]
  · rw [if_neg h]
    have e : Nat.beq p.1 i = false := by
      cases hb : Nat.beq p.1 i with
      | false => rfl
      | true => exact absurd (Nat.eq_of_beq_eq_true hb) h
    rw [e]
noncomputable def tl (f : Nat → Value) (n k : Nat) : List Value :=
  Nat.rec (motive := fun _ => Nat → List Value) (fun _ => []) (fun _ r k => f k :: r (k + 1)) n k
theorem tl_zero (f : Nat → Value) (k : Nat) : tl f 0 k = [] := rfl
theorem tl_succ (f : Nat → Value) (n k : Nat) : tl f (n + 1) k = f k :: tl f n (k + 1) := rfl
theorem tl_get (f : Nat → Value) : ∀ (n k i : Nat), (tl f n k)[i]? = if i < n then some (f (k + i)) else none := by
  intro n
  induction n with
  | zero => intro k i; simp [tl_zero]
  | succ n ih =>
    intro k i
    rw [tl_succ]
    cases i with
    | zero => simp
    | succ i => simp only [List.getElem?_cons_succ, ih, Nat.add_lt_add_iff_right]; rw [show k + 1 + i = k + (i + 1) by omega]
theorem tl_len (f : Nat → Value) (n k : Nat) : (tl f n k).length = n := by
  induction n generalizing k with
  | zero => rfl
  | succ n ih => rw [tl_succ]; simp [ih]
/-- the state in which the slots of l hold what l says -/
noncomputable def S (n : Nat) (G : Nat → Value) (l : List (Nat × Value)) (ds : List Deferred) : Act := { tmps := ⟨tl (fun i => lk l i (G i)) n 0⟩, defers := ds }
def cn (d : Option Tmp) (v : Value) (l : List (Nat × Value)) : List (Nat × Value) := match d with
  | some d => (d, v) :: l
  | none => l
section
variable {n : Nat} {G : Nat → Value} {l : List (Nat × Value)} {ds : List Deferred}
theorem S_get (i : Nat) : (S n G l ds).tmps[i]? = if i < n then some (lk l i (G i)) else none := by
  show (Array.mk (tl (fun i => lk l i (G i)) n 0))[i]? = _
  rw [List.getElem?_toArray, tl_get]
  simp
theorem S_size : (S n G l ds).tmps.size = n := by
  show (tl _ n 0).length = n
  rw [tl_len]
theorem act_ext {a b : Act} (h : ∀ i : Nat, a.tmps[i]? = b.tmps[i]?) (hd : a.defers = b.defers) : a = b := by
  obtain ⟨x, y⟩ := a
  obtain ⟨x', y'⟩ := b
  simp only at hd h
  subst hd
  congr 1
  exact Array.ext_getElem? h
theorem S_put (d : Option Tmp) (v : Value) : (S n G l ds).put d v = S n G (cn d v l) ds := by
  cases d with
  | none => rfl
  | some d =>
    refine act_ext (fun i => ?_) rfl
    show ((S n G l ds).tmps.setIfInBounds d v)[i]? = _
    rw [Array.getElem?_setIfInBounds, S_get, S_get, S_size]
    show _ = if i < n then some (lk ((d, v) :: l) i (G i)) else none
    rw [lk_cons]
    by_cases h : d = i
    · subst h; simp
    · simp [h]
noncomputable def evS (n : Nat) (G : Nat → Value) (l : List (Nat × Value)) : Operand → Value
  | .tmp i => Bool.rec (motive := fun _ => Value) undef (lk l i (G i)) (Nat.blt i n)
  | .const v => v
  | .global g => .pointer (some ⟨g, 0, none⟩)
  | .func f => .func (.func f) #[] #[]
theorem S_eval : (S n G l ds).eval = evS n G l := by
  funext x
  cases x with
  | tmp i =>
    show (S n G l ds).tmps.getD i undef = Bool.rec (motive := fun _ => Value) undef (lk l i (G i)) (Nat.blt i n)
    rw [Array.getD_eq_getD_getElem?, S_get]
    by_cases h : i < n
    · have e : Nat.blt i n = true := Nat.ble_eq_true_of_le h
      rw [e, if_pos h]; rfl
    · have e : Nat.blt i n = false := by
        cases hb : Nat.blt i n with
        | false => rfl
        | true => exact absurd (Nat.le_of_ble_eq_true hb) h
      rw [e, if_neg h]; rfl
  | _ => rfl
def asB : Value → Option Bool
  | .bool b => some b
  | _ => none
noncomputable def yS (ops : Array Oper) (n : Nat) (G : Nat → Value) (l : List (Nat × Value)) (j : Nat) : Option Bool :=
  match (ops[j]?).bind (·.dst) with
  | some d => Bool.rec (motive := fun _ => Option Bool) none (asB (lk l d (G d))) (Nat.blt d n)
  | none => none
theorem S_yield (ops : Array Oper) : yielded ops (S n G l ds).tmps = yS ops n G l := by
  funext j
  unfold yielded yS
  cases (ops[j]?).bind (·.dst) with
  | none => rfl
  | some d =>
    simp only [Option.bind_some]
    rw [S_get]
    by_cases h : d < n
    · have e : Nat.blt d n = true := Nat.ble_eq_true_of_le h
      rw [e, if_pos h]
      cases lk l d (G d) <;> rfl
    · have e : Nat.blt d n = false := by
        cases hb : Nat.blt d n with
        | false => rfl
        | true => exact absurd (Nat.le_of_ble_eq_true hb) h
      rw [e, if_neg h]
/-- less is said -/
theorem S.sub {l' : List (Nat × Value)} (h : l'.map (fun p => lk l p.1 (G p.1)) = l'.map (fun p => p.2)) : S n G l ds = S n (fun i => lk l i (G i)) l' ds := by
  refine act_ext (fun i => ?_) rfl
  rw [S_get, S_get]
  congr 2
  induction l' with
  | nil => rfl
  | cons p t ih =>
    simp only [List.map_cons, List.cons.injEq] at h
    rw [lk_cons]
    by_cases e : p.1 = i
    · rw [if_pos e, ← e]; exact h.1
    · rw [if_neg e]; exact ih h.2
/-- what an operation gives, where it looks at no memory -/
def pureR (P : Program) {α : Type} : Sem α → Option α
  | .pure a => some a
  | .program k => pureR P (k P)
  | .mark _ k => pureR P k
  | _ => none
variable {P : Program} {w : World}
theorem pureR_run {α : Type} {s : Sem α} {v : α} (h : pureR P s = some v) (w : World) : s.run P w = .ok v w := by
  induction s with
  | pure a => cases h; rfl
  | program k ih => exact ih P h
  | mark x k ih => exact ih h
  | _ => cases h
/-- operations, one behind the other, that look at no memory -/
def PX (P : Program) (ops : Array Oper) (n : Nat) (G : Nat → Value) (K : List (Nat × Value) → Prop) : Nat → Nat → List (Nat × Value) → Prop
  | 0, _, l => K l
  | m + 1, k, l =>
    match ops[k]? with
    | none => False
    | some o =>
      match Region.wanted o (yS ops n G l) with
      | false => PX P ops n G K m (k + 1) (cn o.dst undef l)
      | true =>
        match pureR P (execOp (evS n G l) o) with
        | some (.value v) => PX P ops n G K m (k + 1) (cn o.dst v l)
        | _ => False
variable {r : Option Nat} {Q : Exit → Act → World → Prop} {ops : Array Oper} {k : Nat} {o : Oper} {K : Act → World → Prop}
theorem WPI.valueS (v : Value) (d : Nat) {w' : World} (ho : ops[k]? = some o) (hd : o.dst = some d) (hw : Region.wanted o (yS ops n G l) = true) (hr : (execOp (S n G l ds).eval o).run P w = .ok (.value v) w')
    (h : WPI r P ops Q (k + 1) (S n G ((d, v) :: l) ds) w') : WPI r P ops Q k (S n G l ds) w :=
  .value ho (by rw [S_yield]; exact hw) hr (by rw [S_put, hd]; exact h)
theorem WPI.nS (d : Nat) {d' : Option Tmp} {v : Value} (hd : d' = some d) (h : WPI r P ops Q k (S n G ((d, v) :: l) ds) w) : WPI r P ops Q k ((S n G l ds).put d' v) w := by rw [S_put, hd]; exact h
theorem WPI.nS0 {d' : Option Tmp} {v : Value} (hd : d' = none) (h : WPI r P ops Q k (S n G l ds) w) : WPI r P ops Q k ((S n G l ds).put d' v) w := by rw [S_put, hd]; exact h
theorem WPI.runS_aux (m : Nat) : ∀ (k : Nat) (l : List (Nat × Value)), PX P ops n G (fun l => WPI r P ops Q (k + m) (S n G l ds) w) m k l → WPI r P ops Q k (S n G l ds) w := by
  induction m with
  | zero => intro k l h; exact h
  | succ m ih =>
    intro k l h
    have hk : k + (m + 1) = k + 1 + m := by omega
    rw [hk] at h
    unfold PX at h
    cases ho : ops[k]? with
    | none => rw [ho] at h; exact h.elim
    | some o =>
      rw [ho] at h
      simp only at h
      cases hw : Region.wanted o (yS ops n G l) with
      | false =>
        rw [hw] at h
        exact .off ho (by rw [S_yield]; exact hw) (by rw [S_put]; exact ih _ _ h)
      | true =>
        rw [hw] at h
        simp only at h
        cases hr : pureR P (execOp (evS n G l) o) with
        | none => rw [hr] at h; exact h.elim
        | some x =>
          rw [hr] at h
          cases x <;> first
            | exact .value ho (by rw [S_yield]; exact hw) (by rw [S_eval]; exact pureR_run hr w) (by rw [S_put]; exact ih _ _ h)
            | exact h.elim
/-- the next operations at once: what they give is said, and the kernel looks -/
theorem WPI.runS (m k' : Nat) (nl : List (Nat × Value)) (hm : k + m = k') (hk : ∀ K : List (Nat × Value) → Prop, PX P ops n G K m k l = K (nl ++ l))
    (h : WPI r P ops Q k' (S n G (nl ++ l) ds) w) : WPI r P ops Q k (S n G l ds) w := by
  subst hm
  exact WPI.runS_aux m k l (by rw [hk]; exact h)
/-! regions that draw, of quiet operations -/
variable {C : World → Prop} {L : Act → Prop}
theorem WQ.valueS (v : Value) (d : Nat) (ho : ops[k]? = some o) (hd : o.dst = some d) (hw : Region.wanted o (yS ops n G l) = true) (hr : ∀ w, C w → (execOp (S n G l ds).eval o).run P w = .ok (.value v) w)
    (h : WQ P ops C L (k + 1) (S n G ((d, v) :: l) ds)) : WQ P ops C L k (S n G l ds) :=
  .value ho (by rw [S_yield]; exact hw) hr (by rw [S_put, hd]; exact h)
theorem WQ.callS (v : Value) (d : Nat) {f : FuncId} {args : Array Value} (ho : ops[k]? = some o) (hd : o.dst = some d) (hw : Region.wanted o (yS ops n G l) = true) (hr : ∀ w, (execOp (S n G l ds).eval o).run P w = .ok (.enter f args) w)
    (hc : ∀ w, C w → Ret P f args w fun u w' => u = v ∧ C w') (h : WQ P ops C L (k + 1) (S n G ((d, v) :: l) ds)) : WQ P ops C L k (S n G l ds) :=
  .call ho (by rw [S_yield]; exact hw) hr hc (by rw [S_put, hd]; exact h)
theorem WQ.runS_aux (m : Nat) : ∀ (k : Nat) (l : List (Nat × Value)), PX P ops n G (fun l => WQ P ops C L (k + m) (S n G l ds)) m k l → WQ P ops C L k (S n G l ds) := by
  induction m with
  | zero => intro k l h; exact h
  | succ m ih =>
    intro k l h
    have hk : k + (m + 1) = k + 1 + m := by omega
    rw [hk] at h
    unfold PX at h
    cases ho : ops[k]? with
    | none => rw [ho] at h; exact h.elim
    | some o =>
      rw [ho] at h
      simp only at h
      cases hw : Region.wanted o (yS ops n G l) with
      | false =>
        rw [hw] at h
        exact .off ho (by rw [S_yield]; exact hw) (by rw [S_put]; exact ih _ _ h)
      | true =>
        rw [hw] at h
        simp only at h
        cases hr : pureR P (execOp (evS n G l) o) with
        | none => rw [hr] at h; exact h.elim
        | some x =>
          rw [hr] at h
          cases x <;> first
            | exact .value ho (by rw [S_yield]; exact hw) (by rw [S_eval]; exact fun w _ => pureR_run hr w) (by rw [S_put]; exact ih _ _ h)
            | exact h.elim
theorem WQ.runS (m k' : Nat) (nl : List (Nat × Value)) (hm : k + m = k') (hk : ∀ K : List (Nat × Value) → Prop, PX P ops n G K m k l = K (nl ++ l))
    (h : WQ P ops C L k' (S n G (nl ++ l) ds)) : WQ P ops C L k (S n G l ds) := by
  subst hm
  exact WQ.runS_aux m k l (by rw [hk]; exact h)
/-! regions of any order -/
variable {M : Act → World → Prop} {m : Nat} {li li' : Array Bool}
theorem WA.takeS (i : Nat) (v : Value) (d : Nat) (ho : ops[i]? = some o) (hd : o.dst = some d) (hs : (Region.noSelect ops && Region.free .any ops li i && (Region.ready .any ops li).contains i) = true)
    (hw : Region.wanted o (yS ops n G l) = true) (hr : ∀ w, (execOp (S n G l ds).eval o).run P w = .ok (.value v) w) (hab : ∀ w, o.about P w (S n G l ds).eval = none) (hl : li.setIfInBounds i true = li')
    (h : WA P ops M m li' (S n G ((d, v) :: l) ds) w) : WA P ops M (m + 1) li (S n G l ds) w :=
  .take i ho hs (by rw [S_yield]; exact hw) hr hab hl (by rw [S_put, hd]; exact h)
theorem WA.nS (d : Nat) {d' : Option Tmp} {v : Value} {li1 : Array Bool} (li : Array Bool) (hl : li1 = li) (hd : d' = some d) (h : WA P ops M m li (S n G ((d, v) :: l) ds) w) : WA P ops M m li1 ((S n G l ds).put d' v) w := by
  subst hl; rw [S_put, hd]; exact h
theorem WA.nS0 {d' : Option Tmp} {v : Value} {li1 : Array Bool} (li : Array Bool) (hl : li1 = li) (hd : d' = none) (h : WA P ops M m li (S n G l ds) w) : WA P ops M m li1 ((S n G l ds).put d' v) w := by
  subst hl; rw [S_put, hd]; exact h
/-- no call of a function -/
def calm (o : Oper) : Bool := match o.op with
  | .call c => match c.callee with
    | .builtin .len => true
    | _ => false
  | _ => true
theorem calm_about {o : Oper} (h : calm o = true) (w : World) (ρ : Operand → Value) : o.about P w ρ = none := by
  unfold calm at h
  unfold Oper.about
  split at h
  · rename_i c hc
    split at h
    · rename_i hb
      simp [hc, resolve, hb]
      rfl
    · cases h
  · rename_i hn
    split
    · rename_i c hc; exact absurd hc (hn c)
    · rfl
/-- operations of a region of any order, taken one behind the other, that look at no memory -/
def PY (P : Program) (ops : Array Oper) (n : Nat) (G : Nat → Value) (K : Array Bool → List (Nat × Value) → Prop) : List Nat → Array Bool → List (Nat × Value) → Prop
  | [], li, l => K li l
  | i :: is, li, l => match ops[i]? with
    | none => False
    | some o => match (Region.noSelect ops && Region.free .any ops li i && (Region.ready .any ops li).contains i) && calm o with
      | false => False
      | true => match Region.wanted o (yS ops n G l) with
        | false => PY P ops n G K is (li.setIfInBounds i true) (cn o.dst undef l)
        | true => match pureR P (execOp (evS n G l) o) with
          | some (.value v) => PY P ops n G K is (li.setIfInBounds i true) (cn o.dst v l)
          | _ => False
theorem WA.runS_aux (m : Nat) : ∀ (is : List Nat) (li : Array Bool) (l : List (Nat × Value)), PY P ops n G (fun li' l' => WA P ops M m li' (S n G l' ds) w) is li l → WA P ops M (m + is.length) li (S n G l ds) w := by
  intro is
  induction is with
  | nil => intro li l h; exact h
  | cons i is ih =>
    intro li l h
    unfold PY at h
    cases ho : ops[i]? with
    | none => rw [ho] at h; exact h.elim
    | some o =>
      rw [ho] at h
      simp only at h
      cases hs : (Region.noSelect ops && Region.free .any ops li i && (Region.ready .any ops li).contains i) && calm o with
      | false => rw [hs] at h; exact h.elim
      | true =>
        rw [hs] at h
        simp only at h
        rw [Bool.and_eq_true] at hs
        obtain ⟨hs, hc⟩ := hs
        cases hw : Region.wanted o (yS ops n G l) with
        | false =>
          rw [hw] at h
          exact WA.takeOff i ho hs (by rw [S_yield]; exact hw) (fun w => calm_about hc w _) rfl (by rw [S_put]; exact ih _ _ h)
        | true =>
          rw [hw] at h
          simp only at h
          cases hr : pureR P (execOp (evS n G l) o) with
          | none => rw [hr] at h; exact h.elim
          | some x =>
            rw [hr] at h
            cases x <;> first
              | exact WA.take i ho hs (by rw [S_yield]; exact hw) (by rw [S_eval]; exact fun w => pureR_run hr w) (fun w => calm_about hc w _) rfl (by rw [S_put]; exact ih _ _ h)
              | exact h.elim
/-- these operations at once: what they give is said, and the kernel looks -/
theorem WA.runS (is : List Nat) (m m' : Nat) (li' : Array Bool) (nl : List (Nat × Value)) (hm : m + is.length = m') (hk : ∀ K : Array Bool → List (Nat × Value) → Prop, PY P ops n G K is li l = K li' (nl ++ l))
    (h : WA P ops M m li' (S n G (nl ++ l) ds) w) : WA P ops M m' li (S n G l ds) w := by
  subst hm
  exact WA.runS_aux (P := P) (ops := ops) (n := n) (G := G) (ds := ds) (M := M) (w := w) m is li l (by rw [hk]; exact h)
theorem WP.roundS {c : Code} {p : Tmp} {v : Value} (l' : List (Nat × Value)) (hl : l'.map (fun q => lk ((p, v) :: l) q.1 (G q.1)) = l'.map (fun q => q.2))
    (h : ∀ G', WP r P c Q (S n G' l' []) w) : WP r P c Q { tmps := ((#[p] : Array Tmp).zip #[v]).foldl (fun tmps (t, v) => tmps.setIfInBounds t v) (S n G l ds).tmps, defers := [] } w := by
  have e : ({ tmps := ((#[p] : Array Tmp).zip #[v]).foldl (fun tmps (t, v) => tmps.setIfInBounds t v) (S n G l ds).tmps, defers := [] } : Act) = (S n G l []).put (some p) v := by
    simp [Act.put, S]
  rw [e, S_put]
  exact WP.frame (S.sub hl) (h _)
theorem aftS {J : Nat → Option Code} {j : Nat} {D : Nat} (h : Aft P Q J j (S n G l (mk D :: ds)) w) : Aft P Q J j { (S n G l ds) with defers := mk D :: (S n G l ds).defers } w := h
/-! a function's body -/
theorem ret_of_wpS {f : FuncId} {fn : Func} {c : Code} {args : Array Value} {R : Value → World → Prop}
    (hf : P.funcs[f]? = some fn) (hb : fn.body = some c) (n : Nat) (hn : fn.ntmps = n) (l : List (Nat × Value)) (hl : (args ++ Array.replicate (n - args.size) undef).toList = tl (fun i => lk l i undef) n 0)
    (h : ∀ G, WP none P c (Post P fn R) (S n G l []) w) : Ret P f args w R := by
  subst hn
  refine ret_of_wp hf hb _ ?_ (h fun _ => undef)
  show _ = (Array.mk (tl (fun i => lk l i undef) fn.ntmps 0))
  rw [← hl]
theorem ret_of_wpMS {f : FuncId} {fn : Func} {c : Code} {args : Array Value} {R : Value → World → Prop}
    (hf : P.funcs[f]? = some fn) (hb : fn.body = some c) (n : Nat) (hn : fn.ntmps = n) (l : List (Nat × Value)) (hl : (args ++ Array.replicate (n - args.size) undef).toList = tl (fun i => lk l i undef) n 0)
    (h : ∀ G, WP none P c (PostM P fn R) (S n G l []) w) : Ret P f args w R := by
  subst hn
  refine ret_of_wpM hf hb _ ?_ (h fun _ => undef)
  show _ = (Array.mk (tl (fun i => lk l i undef) fn.ntmps 0))
  rw [← hl]
end
end Gw
