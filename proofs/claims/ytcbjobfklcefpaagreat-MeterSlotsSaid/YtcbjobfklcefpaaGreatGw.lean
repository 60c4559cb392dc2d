/- The base of the walks: a calculus over the kit's fenced one, resources, the ways of operations. -/
import Derived.CallsIn
import Derived.OrdersIn
import Derived.RangeFuncIn
import Derived.Below
import Derived.KernelRfl
import Derived.Laws.OwnMore
import Derived.Laws.MakeOwn
import Derived.Sort.QuietThIn
import Derived.Laws.StructEq
import Derived.Laws.Slices
import Derived.Scope
set_option linter.unusedVariables false
set_option linter.unusedSimpArgs false
namespace Gw
open Go Go.RowKit
/-! ## The calculus: a fence that lets all in; in a round of a range over a function, or in none -/
def FW (r : Option Nat) : Fence := { fn := fun _ => True, depth := none, alive := false, round := r }
theorem fenced_FW (P : Program) (r : Option Nat) (m : Machine) : m.fenced P (FW r) := by
  intro g _
  refine ⟨fun h => ?_, Or.inl trivial, fun _ _ => trivial, fun _ h => ?_⟩
  · simp [FW] at h
  · simp [FW] at h
theorem room_FW (r : Option Nat) (n : Nat) : (FW r).room n := fun _ h => by simp [FW] at h
theorem stepsIn_FW {P : Program} {r : Option Nat} {m m' : Machine} : StepsIn (Machine.fenced P (FW r)) P m m' ↔ Steps P m m' :=
  ⟨StepsIn.steps, fun h => (StepsIn.of_steps h).mono fun m _ => fenced_FW P r m⟩
theorem comesIn_FW {P : Program} {r : Option Nat} {m m' : Machine} {e : Ending} : ComesIn (Machine.fenced P (FW r)) P m m' e ↔ Comes P m m' e := by
  cases e with
  | returned v => exact stepsIn_FW
  | panicked chain => exact stepsIn_FW
  | outgrown => exact Iff.rfl
theorem callsIn_FW {r : Option Nat} {n : Nat} {P : Program} {f : FuncId} {args : Array Value} {w : World} {R : Ending → World → Prop} :
    CallsIn (FW r) n P f args w R ↔ Calls P f args w R :=
  ⟨fun h cs => let ⟨e, w', fr, r, s, x⟩ := h.2 cs (room_FW _ _); ⟨e, w', fr, r, comesIn_FW.1 s, x⟩,
   fun h => ⟨trivial, fun cs _ => let ⟨e, w', fr, r, s, x⟩ := h cs; ⟨e, w', fr, r, comesIn_FW.2 s, x⟩⟩⟩
/-- The call returns, and of what it returns, and of the world behind it, R holds. -/
def Ret (P : Program) (f : FuncId) (args : Array Value) (w : World) (R : Value → World → Prop) : Prop :=
  Calls P f args w fun e w' => ∃ v, e = .returned v ∧ R v w'
theorem Ret.mono {P : Program} {f : FuncId} {args : Array Value} {w : World} {R R' : Value → World → Prop} (h : Ret P f args w R)
    (hr : ∀ v w', R v w' → R' v w') : Ret P f args w R' := fun cs =>
  let ⟨e, w', fr, ⟨v, he, hR⟩, s⟩ := h cs
  ⟨e, w', fr, ⟨v, he, hr v w' hR⟩, s⟩
def WP (r : Option Nat) (P : Program) (c : Code) (Q : Exit → Act → World → Prop) (a : Act) (w : World) : Prop := c.wpIn (FW r) 0 P Q a w
section
variable {r : Option Nat} {P : Program} {Q : Exit → Act → World → Prop} {a : Act} {w : World}
theorem WP.mono {c : Code} {Q' : Exit → Act → World → Prop} (h : WP r P c Q a w) (hq : ∀ e a w, Q e a w → Q' e a w) : WP r P c Q' a w := wpIn_mono h hq
theorem WP.skip (h : Q .normal a w) : WP r P .skip Q a w := wpIn_skip h
theorem WP.exit {id : Nat} (h : Q (.exit id) a w) : WP r P (.exit id) Q a w := wpIn_exit h
theorem WP.ret (h : Q .ret a w) : WP r P .ret Q a w := wpIn_ret h
theorem WP.label {l : Nat} (h : Q .normal a w) : WP r P (.label l) Q a w := wpIn_label h
theorem WP.seq {x y : Code} (h : WP r P x (Exit.then (WP r P y Q) Q) a w) : WP r P (.seq x y) Q a w := wpIn_seq h
theorem WP.block {id : Nat} {c : Code} (h : WP r P c (Exit.inBlock id Q) a w) : WP r P (.block id c) Q a w := wpIn_block h
theorem WP.condT {c : Operand} {x y : Code} (hc : a.eval c = .bool true) (h : WP r P x Q a w) : WP r P (.cond c x y) Q a w := wpIn_cond_true hc h
theorem WP.condF {c : Operand} {x y : Code} (hc : a.eval c = .bool false) (h : WP r P y Q a w) : WP r P (.cond c x y) Q a w := wpIn_cond_false hc h
theorem WP.cond {c : Operand} {x y : Code} (t : Bool) (hc : a.eval c = .bool t) (ht : t = true → WP r P x Q a w) (hf : t = false → WP r P y Q a w) :
    WP r P (.cond c x y) Q a w := wpIn_cond_split hc ht hf
/-- A loop, by a relation that a number counts down. -/
theorem WP.loop {c : Code} (I : Nat → Act → World → Prop) (n : Nat) (h₀ : I n a w)
    (round : ∀ n a w, I n a w → WP r P c (Exit.then (fun a' w' => ∃ m, m < n ∧ I m a' w') Q) a w) : WP r P (.loop c) Q a w := by
  intro b k cs hro hb hr
  have key : ∀ j a w, I j a w →
      ∃ e a' w', Q e a' w' ∧ ArrivesIn (Machine.fenced P (FW r)) P (lone (b.atR a (.code c :: .inLoop c :: k)) cs w) b k cs e a' w' := by
    intro j
    induction j using Nat.strongRecOn with
    | _ j ih =>
      intro a w hI
      obtain ⟨e, a₁, w₁, hq, harr⟩ := round j a w hI b (.inLoop c :: k) cs hro hb hr
      cases e with
      | normal =>
        obtain ⟨m, hlt, hI₁⟩ := hq
        obtain ⟨e₂, a₂, w₂, hq₂, harr₂⟩ := ih m hlt a₁ w₁ hI₁
        exact ⟨e₂, a₂, w₂, hq₂, .of_steps (StepsIn.trans harr (.one (fenced_calm hb hr rfl) stepR_inLoop)) harr₂⟩
      | exit id => exact ⟨_, a₁, w₁, hq, .pass (x := .inLoop c) rfl (fun _ _ => .inl (by simp)) harr⟩
      | goto l => exact ⟨_, a₁, w₁, hq, .pass (x := .inLoop c) rfl (fun _ _ => .inl (by simp)) harr⟩
      | ret => exact ⟨_, a₁, w₁, hq, .pass (x := .inLoop c) rfl (fun _ _ => .inl (by simp)) harr⟩
      | panic ch => exact ⟨_, a₁, w₁, hq, .pass (x := .inLoop c) rfl (fun _ _ => .inl (by simp)) harr⟩
      | outgrown => exact ⟨_, a₁, w₁, hq, .pass (x := .inLoop c) rfl (fun _ _ => .inl (by simp)) harr⟩
  obtain ⟨e, a', w', hq, harr⟩ := key n a w h₀
  exact ⟨e, a', w', hq, .of_steps (.one (fenced_calm hb hr rfl) stepR_loop) harr⟩
/-- The machine stands behind a round, at the loop's item. -/
def WPL (r : Option Nat) (P : Program) (c : Code) (Q : Exit → Act → World → Prop) (a : Act) (w : World) : Prop :=
  ∀ (b : Frame) (k : List Item) (cs : List Frame), b.roundOf = r →
    ∃ e a' w', Q e a' w' ∧ ArrivesIn (Machine.fenced P (FW r)) P (lone (b.atR a (.inLoop c :: k)) cs w) b k cs e a' w'
theorem wp_round {c : Code} (h : WP r P c (Exit.then (WPL r P c Q) Q) a w) (b : Frame) (k : List Item) (cs : List Frame) (hro : b.roundOf = r) :
    ∃ e a' w', Q e a' w' ∧ ArrivesIn (Machine.fenced P (FW r)) P (lone (b.atR a (.code c :: .inLoop c :: k)) cs w) b k cs e a' w' := by
  obtain ⟨e, a₁, w₁, hq, harr⟩ := h b (.inLoop c :: k) cs hro trivial (room_FW _ _)
  cases e with
  | normal =>
    obtain ⟨e₂, a₂, w₂, hq₂, harr₂⟩ := hq b k cs hro
    exact ⟨e₂, a₂, w₂, hq₂, .of_steps harr harr₂⟩
  | exit id => exact ⟨_, a₁, w₁, hq, .pass (x := .inLoop c) rfl (fun _ _ => .inl (by simp)) harr⟩
  | goto l => exact ⟨_, a₁, w₁, hq, .pass (x := .inLoop c) rfl (fun _ _ => .inl (by simp)) harr⟩
  | ret => exact ⟨_, a₁, w₁, hq, .pass (x := .inLoop c) rfl (fun _ _ => .inl (by simp)) harr⟩
  | panic ch => exact ⟨_, a₁, w₁, hq, .pass (x := .inLoop c) rfl (fun _ _ => .inl (by simp)) harr⟩
  | outgrown => exact ⟨_, a₁, w₁, hq, .pass (x := .inLoop c) rfl (fun _ _ => .inl (by simp)) harr⟩
theorem WPL.round {c : Code} (h : WP r P c (Exit.then (WPL r P c Q) Q) a w) : WPL r P c Q a w := by
  intro b k cs hro
  obtain ⟨e, a', w', q, harr⟩ := wp_round h b k cs hro
  exact ⟨e, a', w', q, .of_steps (.one (fenced_FW _ _ _) stepR_inLoop) harr⟩
end
/-! ## A function's body -/
/-- What is asked at a body's end: of the results. -/
def Post (P : Program) (fn : Func) (R : Value → World → Prop) : Exit → Act → World → Prop
  | .normal, a, w | .ret, a, w => a.defers = [] ∧ ∃ v, (results fn a.tmps).run P w = .ok v w ∧ R v w
  | _, _, _ => False
theorem ret_of_wp {P : Program} {f : FuncId} {fn : Func} {c : Code} {args : Array Value} {w : World} {R : Value → World → Prop}
    (hf : P.funcs[f]? = some fn) (hb : fn.body = some c) (tmps : Array Value) (ht : args ++ Array.replicate (fn.ntmps - args.size) undef = tmps)
    (h : WP none P c (Post P fn R) { tmps := tmps, defers := [] } w) : Ret P f args w R := by
  subst ht
  refine (callsIn_FW (r := none) (n := 0)).1 (callsIn_of_wp hf hb trivial (wpIn_mono h ?_) rfl)
  intro e a w' q
  cases e with
  | normal => obtain ⟨hd, v, h1, h2⟩ := q; exact ⟨hd, v, h1, v, rfl, h2⟩
  | ret => obtain ⟨hd, v, h1, h2⟩ := q; exact ⟨hd, v, h1, v, rfl, h2⟩
  | exit id => exact q.elim
  | goto l => exact q.elim
  | panic c => exact q.elim
  | outgrown => exact q.elim
/-! ## The operations of a region, one behind the other -/
def WPI (r : Option Nat) (P : Program) (ops : Array Oper) (Q : Exit → Act → World → Prop) (k : Nat) (a : Act) (w : World) : Prop :=
  wpOpsIn (FW r) 0 P ops Q (List.range' k (ops.size - k)) a w
section
variable {r : Option Nat} {P : Program} {Q : Exit → Act → World → Prop} {a : Act} {w w' : World} {ops : Array Oper} {k : Nat} {o : Oper}
theorem WP.region {id : Nat} (h : WPI r P ops Q 0 a w) : WP r P (.region id ops false) Q a w := by
  refine wpIn_region ?_
  simpa [WPI, List.range_eq_range'] using h
theorem WPI.done (hk : ops.size = k) (h : Q .normal a w) : WPI r P ops Q k a w := by
  subst hk
  simpa [WPI, wpOpsIn] using h
theorem range'_step (h : k < ops.size) : List.range' k (ops.size - k) = k :: List.range' (k + 1) (ops.size - (k + 1)) := by
  have e : ops.size - k = (ops.size - (k + 1)) + 1 := by omega
  rw [e, List.range'_succ]
theorem lt_of_get (ho : ops[k]? = some o) : k < ops.size := by
  rcases Nat.lt_or_ge k ops.size with h | h
  · exact h
  · rw [Array.getElem?_eq_none h] at ho; cases ho
theorem WPI.off (ho : ops[k]? = some o) (hw : Region.wanted o (yielded ops a.tmps) = false) (h : WPI r P ops Q (k + 1) (a.put o.dst undef) w) : WPI r P ops Q k a w := by
  unfold WPI at *
  rw [range'_step (lt_of_get ho)]
  simp only [wpOpsIn, ho, hw, Bool.false_eq_true, if_false]
  exact ⟨fun _ _ => trivial, h⟩
theorem noDefer_of_value {v : Value} (hr : (execOp a.eval o).run P w = .ok (.value v) w') : ∀ c, o.op ≠ .defer c := by
  intro c hc
  unfold execOp at hr
  rw [hc] at hr
  simp only [Sem.run_bind] at hr
  cases h : (resolve a.eval c o.type).run P w <;> rw [h] at hr <;> simp [Result.andThen] at hr
theorem noDefer_of_skip (hr : (execOp a.eval o).run P w = .ok .skip w') : ∀ c, o.op ≠ .defer c := by
  intro c hc
  unfold execOp at hr
  rw [hc] at hr
  simp only [Sem.run_bind] at hr
  cases h : (resolve a.eval c o.type).run P w <;> rw [h] at hr <;> simp [Result.andThen] at hr
theorem noDefer_of_enter {f : FuncId} {args : Array Value} (hr : (execOp a.eval o).run P w = .ok (.enter f args) w') : ∀ c, o.op ≠ .defer c := by
  intro c hc
  unfold execOp at hr
  rw [hc] at hr
  simp only [Sem.run_bind] at hr
  cases h : (resolve a.eval c o.type).run P w <;> rw [h] at hr <;> simp [Result.andThen] at hr
theorem WPI.value {v : Value} (ho : ops[k]? = some o) (hw : Region.wanted o (yielded ops a.tmps) = true) (hr : (execOp a.eval o).run P w = .ok (.value v) w')
    (h : WPI r P ops Q (k + 1) (a.put o.dst v) w') : WPI r P ops Q k a w := by
  unfold WPI at *
  rw [range'_step (lt_of_get ho)]
  simp only [wpOpsIn, ho, hw, if_true, Oper.wpIn]
  rw [Oper.semAt_eq _ _ _ (noDefer_of_value hr), hr]
  exact ⟨fun _ _ => trivial, h⟩
theorem WPI.skip (ho : ops[k]? = some o) (hw : Region.wanted o (yielded ops a.tmps) = true) (hr : (execOp a.eval o).run P w = .ok .skip w')
    (h : WPI r P ops Q (k + 1) (a.put o.dst undef) w') : WPI r P ops Q k a w := by
  unfold WPI at *
  rw [range'_step (lt_of_get ho)]
  simp only [wpOpsIn, ho, hw, if_true, Oper.wpIn]
  rw [Oper.semAt_eq _ _ _ (noDefer_of_skip hr), hr]
  exact ⟨fun _ _ => trivial, h⟩
/-- A call of a Go function, by what is known of it. -/
theorem WPI.call {f : FuncId} {args : Array Value} {R : Value → World → Prop} (ho : ops[k]? = some o) (hw : Region.wanted o (yielded ops a.tmps) = true)
    (hr : (execOp a.eval o).run P w = .ok (.enter f args) w) (hc : Ret P f args w R)
    (h : ∀ v w', R v w' → WPI r P ops Q (k + 1) (a.put o.dst v) w') : WPI r P ops Q k a w := by
  unfold WPI at *
  rw [range'_step (lt_of_get ho)]
  simp only [wpOpsIn, ho, hw, if_true, Oper.wpIn]
  rw [Oper.semAt_eq _ _ _ (noDefer_of_enter hr), hr]
  refine ⟨fun _ _ => trivial, fun h => (by simp [FW] at h), callsIn_FW.2 ?_⟩
  intro cs
  obtain ⟨e, w', fr, ⟨v, he, hR⟩, s⟩ := hc cs
  subst he
  exact ⟨_, w', fr, h v w' hR, s⟩
/-- A run of operations that the kernel carries out by itself: n of them, from the k-th on. -/
def PR (P : Program) (ops : Array Oper) (K : Act → World → Prop) : Nat → Nat → Act → World → Prop
  | 0, _, a, w => K a w
  | n + 1, k, a, w =>
    match ops[k]? with
    | none => False
    | some o =>
      match Region.wanted o (yielded ops a.tmps) with
      | false => PR P ops K n (k + 1) (a.put o.dst undef) w
      | true =>
        match (execOp a.eval o).run P w with
        | .ok (.value v) w' => PR P ops K n (k + 1) (a.put o.dst v) w'
        | .ok .skip w' => PR P ops K n (k + 1) (a.put o.dst undef) w'
        | _ => False
theorem WPI.run_aux (n : Nat) : ∀ (k : Nat) (a : Act) (w : World), PR P ops (WPI r P ops Q (k + n)) n k a w → WPI r P ops Q k a w := by
  induction n with
  | zero => intro k a w h; exact h
  | succ n ih =>
    intro k a w h
    have hk : k + (n + 1) = k + 1 + n := by omega
    rw [hk] at h
    unfold PR at h
    cases ho : ops[k]? with
    | none => rw [ho] at h; exact h.elim
    | some o =>
      rw [ho] at h
      simp only at h
      cases hw : Region.wanted o (yielded ops a.tmps) with
      | false => rw [hw] at h; exact .off ho hw (ih _ _ _ h)
      | true =>
        rw [hw] at h
        simp only at h
        cases hr : (execOp a.eval o).run P w with
        | halt x w' => rw [hr] at h; exact h.elim
        | ok x w' =>
          rw [hr] at h
          cases x <;> first
            | exact .value ho hw hr (ih _ _ _ h)
            | exact .skip ho hw hr (ih _ _ _ h)
            | exact h.elim
/-- n operations at once: where they lead to is said, and the kernel looks. -/
theorem WPI.run (n : Nat) (a' : Act) (w' : World) (hk : ∀ K : Act → World → Prop, PR P ops K n k a w = K a' w') (h : WPI r P ops Q (k + n) a' w') : WPI r P ops Q k a w :=
  WPI.run_aux n k a w (by rw [hk]; exact h)
end
end Gw
namespace Gw
open Go Go.RowKit
/-! ## What a piece of memory holds: a resource, with the blocks that it is about -/
structure Res where
  holds : World → Prop
  fp : Nat → Prop
  lt : ∀ w, holds w → ∀ k, fp k → k < w.heap.size
  stable : ∀ w w', holds w → (∀ k, fp k → w'.heap[k]? = w.heap[k]?) → holds w'
theorem lt_of_heap {w : World} {b : Nat} {o : Obj} (h : w.heap[b]? = some o) : b < w.heap.size := (Array.getElem?_eq_some_iff.1 h).1
/-- A variable of one's own: a block, its cells. -/
def Box (b : Nat) (cs : Array Value) (E : TypeId) : Res where
  holds w := w.heap[b]? = some (.cells cs E (0, 0))
  fp k := k = b
  lt := fun w h k hk => by subst hk; exact lt_of_heap h
  stable := fun w w' h hs => (hs b rfl).trans h
/-- How values of a plain type lie in cells: so many, each one cell. -/
structure Flat (α : Type) where
  sz : Nat
  enc : α → List Value
  val : α → Value
  len : ∀ x, (enc x).length = sz
  one : ∀ x, ∀ u ∈ enc x, u.oneCell' = true
  cells : ∀ x, (val x).cells = (enc x).toArray
  pos : 0 < sz
/-- A slice of one's own, from the head of its block on. -/
def Own {α : Type} (F : Flat α) (E : TypeId) (v : Value) (l : List α) : Res where
  holds w := w.ownsRow 0 E F.sz v l.length (l.flatMap F.enc)
  fp k := v.ownBlock = some k
  lt := fun w h k hk => (h.lt k hk).2
  stable := fun w w' h hs => by
    refine ⟨h.1, ?_⟩
    rcases h.2 with h2 | ⟨g, cap, cur, hv, hg, hh, r⟩
    · exact .inl h2
    · exact .inr ⟨g, cap, cur, hv, hg, (hs g (by rw [hv]; rfl)).trans hh, r⟩
/-! ## The state of a walk -/
/-- From w0 on: outside M what there was is as it was; of one's own there are the resources Rs, apart from each other, in M or in what is new. -/
structure St (M : Nat → Prop) (w0 w : World) (Rs : List Res) : Prop where
  os : w.os = w0.os
  tape : w.tape = w0.tape
  output : w.output = w0.output
  size : w0.heap.size ≤ w.heap.size
  block : ∀ k, k < w0.heap.size → ¬ M k → w.heap[k]? = w0.heap[k]?
  holds : ∀ R ∈ Rs, R.holds w
  own : ∀ R ∈ Rs, ∀ k, R.fp k → M k ∨ w0.heap.size ≤ k
  disj : Rs.Pairwise fun R R' => ∀ k, R.fp k → ¬ R'.fp k
def no : Nat → Prop := fun _ => False
theorem St.start (w : World) : St no w w [] := ⟨rfl, rfl, rfl, Nat.le_refl _, fun _ _ _ => rfl, by simp, by simp, .nil⟩
theorem St.start1 {w : World} {R : Res} (h : R.holds w) : St R.fp w w [R] :=
  ⟨rfl, rfl, rfl, Nat.le_refl _, fun _ _ _ => rfl, by simpa using h, by simp; exact fun k hk => .inl hk, by simp⟩
section
variable {M : Nat → Prop} {w0 w w' : World} {Rs Rs' : List Res} {R R' : Res}
theorem St.below (h : St no w0 w Rs) : Below w0.heap.size w0 w := ⟨h.os, h.tape, h.output, h.size, fun k hk => h.block k hk (fun x => x)⟩
theorem St.drew (h : St M w0 w Rs) : St M w0 { w with drawn := w.drawn + 1 } Rs :=
  ⟨h.os, h.tape, h.output, h.size, h.block, fun R hR => R.stable w _ (h.holds R hR) (fun _ _ => rfl), h.own, h.disj⟩
theorem St.get (h : St M w0 w Rs) (i : Nat) (hi : Rs[i]? = some R) : R.holds w := h.holds R (List.mem_of_getElem? hi)
theorem St.ltAll (h : St M w0 w Rs) : ∀ R ∈ Rs, ∀ k, R.fp k → k < w.heap.size := fun R hR k hk => R.lt w (h.holds R hR) k hk
/-- Some of them, in another order. -/
theorem St.sel (h : St M w0 w Rs) (is : List Nat) (hn : is.Nodup) (hs : is.map (fun i => Rs[i]?) = Rs'.map some) : St M w0 w Rs' := by
  have hg : ∀ (j : Nat) (R : Res), Rs'[j]? = some R → ∃ i, is[j]? = some i ∧ Rs[i]? = some R := by
    intro j R hj
    have := congrArg (fun l => l[j]?) hs
    simp only [List.getElem?_map, hj, Option.map_some] at this
    cases hi : is[j]? with
    | none => rw [hi] at this; simp at this
    | some i => rw [hi] at this; simp at this; exact ⟨i, rfl, this⟩
  have hmem : ∀ R ∈ Rs', R ∈ Rs := by
    intro R hR
    obtain ⟨j, hj⟩ := List.getElem?_of_mem hR
    obtain ⟨i, _, hi⟩ := hg j R hj
    exact List.mem_of_getElem? hi
  refine ⟨h.os, h.tape, h.output, h.size, h.block, fun R hR => h.holds R (hmem R hR), fun R hR => h.own R (hmem R hR), ?_⟩
  rw [List.pairwise_iff_getElem]
  intro a b ha hb hab
  obtain ⟨i, hi1, hi2⟩ := hg a Rs'[a] (List.getElem?_eq_getElem ha)
  obtain ⟨j, hj1, hj2⟩ := hg b Rs'[b] (List.getElem?_eq_getElem hb)
  have hij : i ≠ j := by
    intro e
    subst e
    obtain ⟨ha', hai⟩ := List.getElem?_eq_some_iff.1 hi1
    obtain ⟨hb', hbi⟩ := List.getElem?_eq_some_iff.1 hj1
    have hn' := hn
    unfold List.Nodup at hn'
    rw [List.pairwise_iff_getElem] at hn'
    exact hn' a b ha' hb' hab (hai.trans hbi.symm)
  obtain ⟨hi', ei⟩ := List.getElem?_eq_some_iff.1 hi2
  obtain ⟨hj', ej⟩ := List.getElem?_eq_some_iff.1 hj2
  have hd := h.disj
  rw [List.pairwise_iff_getElem] at hd
  intro k hk hk'
  rw [← ei] at hk
  rw [← ej] at hk'
  rcases Nat.lt_or_gt_of_ne hij with hlt | hgt
  · exact hd i j hi' hj' hlt k hk hk'
  · exact hd j i hj' hi' hgt k hk' hk
/-- What another call did, that had the resource i (or none): how it stands behind it. -/
theorem St.call (h : St M w0 w Rs) (N : Nat → Prop) (keep : List Nat) (hn : keep.Nodup) (Rk : List Res) (hk : keep.map (fun i => Rs[i]?) = Rk.map some)
    (hN : ∀ k, N k → M k ∨ w0.heap.size ≤ k) (hd : ∀ R ∈ Rk, ∀ k, R.fp k → ¬ N k) (h' : St N w w' Rs') : St M w0 w' (Rs' ++ Rk) := by
  have hK := h.sel keep hn hk
  have same : ∀ R ∈ Rk, ∀ k, R.fp k → w'.heap[k]? = w.heap[k]? := fun R hR k hk => h'.block k (hK.ltAll R hR k hk) (hd R hR k hk)
  refine ⟨h'.os.trans h.os, h'.tape.trans h.tape, h'.output.trans h.output, Nat.le_trans h.size h'.size, fun k hk hM => ?_, fun R hR => ?_, fun R hR k hk => ?_, ?_⟩
  · have hnN : ¬ N k := fun x => by rcases hN k x with y | y; exact hM y; omega
    exact (h'.block k (Nat.lt_of_lt_of_le hk h.size) hnN).trans (h.block k hk hM)
  · rcases List.mem_append.1 hR with hR | hR
    · exact h'.holds R hR
    · exact R.stable w w' (hK.holds R hR) (same R hR)
  · rcases List.mem_append.1 hR with hR | hR
    · rcases h'.own R hR k hk with y | y
      · exact hN k y
      · exact .inr (Nat.le_trans h.size y)
    · exact hK.own R hR k hk
  · refine List.pairwise_append.2 ⟨h'.disj, hK.disj, fun R hR R' hR' k hk hk' => ?_⟩
    rcases h'.own R hR k hk with y | y
    · exact hd R' hR' k hk' y
    · exact absurd (hK.ltAll R' hR' k hk') (by omega)
theorem St.call0 (h : St M w0 w Rs) (h' : St no w w' Rs') : St M w0 w' (Rs' ++ Rs) := by
  refine h.call no (List.range Rs.length) List.nodup_range Rs ?_ (fun _ hk => hk.elim) (fun _ _ _ _ hk => hk.elim) h'
  apply List.ext_getElem?
  intro i
  by_cases hi : i < Rs.length
  · simp [hi]
  · simp [hi]
theorem St.call0' (h : St M w0 w Rs) (h' : St no w w' []) : St M w0 w' Rs := h.call0 h'
/-- A callee that had the resource i. -/
theorem St.call1 (h : St M w0 w Rs) (i : Nat) (hi : Rs[i]? = some R) (h' : St R.fp w w' Rs') : St M w0 w' (Rs' ++ Rs.eraseIdx i) := by
  have hlt : i < Rs.length := (List.getElem?_eq_some_iff.1 hi).1
  have hR : Rs[i] = R := (List.getElem?_eq_some_iff.1 hi).2
  refine h.call R.fp ((List.range Rs.length).eraseIdx i) ?_ (Rs.eraseIdx i) ?_ (fun k hk => h.own R (List.mem_of_getElem? hi) k hk) ?_ h'
  · exact List.Nodup.sublist (List.eraseIdx_sublist _ _) List.nodup_range
  · apply List.ext_getElem?
    intro j
    simp only [List.getElem?_map, List.getElem?_eraseIdx]
    by_cases hj : j < i
    · have : j < Rs.length := by omega
      simp [hj, this]
    · by_cases hj2 : j + 1 < Rs.length
      · simp [hj, hj2]
      · simp [hj, hj2]
  · intro R' hR' k hk' hk
    obtain ⟨j, hj⟩ := List.getElem?_of_mem hR'
    rw [List.getElem?_eraseIdx] at hj
    have hd := h.disj
    rw [List.pairwise_iff_getElem] at hd
    by_cases hji : j < i
    · simp only [hji, if_true] at hj
      obtain ⟨hj', ej⟩ := List.getElem?_eq_some_iff.1 hj
      exact hd j i hj' hlt hji k (ej ▸ hk') (hR ▸ hk)
    · simp only [hji, if_false] at hj
      obtain ⟨hj', ej⟩ := List.getElem?_eq_some_iff.1 hj
      exact hd i (j + 1) hlt hj' (by omega) k (hR ▸ hk) (ej ▸ hk')
/-- A new block. -/
theorem St.alloc (h : St M w0 w Rs) (cs : Array Value) (E : TypeId) : St M w0 (w.alloc (.cells cs E)) (Box w.heap.size cs E :: Rs) := by
  have h1 : St no w (w.alloc (.cells cs E)) [Box w.heap.size cs E] := by
    refine ⟨rfl, rfl, rfl, by simp, fun k hk _ => Below.heap_alloc w _ k hk, ?_, ?_, by simp⟩
    · simp only [List.mem_singleton, forall_eq]; exact heap_alloc_new w _
    · simp only [List.mem_singleton, forall_eq]; exact fun k hk => .inr (by simp [Box] at hk; omega)
  exact h.call0 h1
/-- The resource i has become another one, on its own blocks. -/
theorem St.upd (h : St M w0 w Rs) (i : Nat) (hi : Rs[i]? = some R) (hfp : ∀ k, R'.fp k → R.fp k) (hR' : R'.holds w')
    (hos : w'.os = w.os) (htape : w'.tape = w.tape) (hout : w'.output = w.output) (hsize : w'.heap.size = w.heap.size) (hb : ∀ k, ¬ R.fp k → w'.heap[k]? = w.heap[k]?) :
    St M w0 w' (R' :: Rs.eraseIdx i) := by
  refine h.call1 i hi (R := R) (Rs' := [R']) ⟨hos, htape, hout, by omega, fun k _ hk => hb k hk, by simpa using hR', ?_, by simp⟩
  simp only [List.mem_singleton, forall_eq]
  exact fun k hk => .inl (hfp k hk)
/-- The nil slice is always one's own. -/
theorem St.nil {α : Type} (h : St M w0 w Rs) (F : Flat α) (E : TypeId) : St M w0 w (Own F E (.slice none 0 0) [] :: Rs) := by
  have h1 : St no w w [Own F E (.slice none 0 0) []] := by
    refine ⟨rfl, rfl, rfl, Nat.le_refl _, fun _ _ _ => rfl, ?_, ?_, by simp⟩
    · simp only [List.mem_singleton, forall_eq]; exact World.ownsRow_nil _ _ _ _
    · simp only [List.mem_singleton, forall_eq]; exact fun k hk => by simp [Own, Value.ownBlock] at hk
  exact h.call0 h1
end
/-! ## What can be read -/
/-- A part of a memory, as it never turns. -/
abbrev Hp := Nat → Option Obj
/-- All of w but M. -/
noncomputable def hp (M : Nat → Prop) (w : World) : Hp := by classical exact fun b => if M b then none else w.heap[b]?
def Hp.le (h : Hp) (w : World) : Prop := ∀ b o, h b = some o → w.heap[b]? = some o
theorem St.hp_le {M : Nat → Prop} {w0 w : World} {Rs : List Res} (h : St M w0 w Rs) : (hp M w0).le w := by
  intro b o hb
  unfold hp at hb
  by_cases hM : M b
  · simp [hM] at hb
  · simp only [hM, if_false] at hb
    rw [h.block b (lt_of_heap hb) hM]; exact hb
/-- The place of element i of a slice whose elements have so many cells. -/
def slAt (v : Value) (sz : Nat) (i : Nat) : Addr :=
  match v with
  | .slice (some a) _ _ => a.add (i * sz)
  | _ => ⟨0, 0, none⟩
/-- The cells from a place on are these. -/
def CellsAt (h : Hp) (a : Addr) (cs : List Value) : Prop :=
  a.spot = none ∧ ∃ c E fz, h a.block = some (.cells c E fz) ∧ ∀ j u, cs[j]? = some u → c[a.off + j]? = some u
/-- v is a slice of length n. -/
def IsSl (v : Value) (n : Nat) : Prop := ∃ a cap, v = .slice a n cap ∧ n ≤ cap ∧ cap ≤ maxLen ∧ (a = none → cap = 0) ∧ ∀ ad, a = some ad → 0 < cap → ad.spot = none
/-- v reads as this list. -/
structure Rd {α : Type} (F : Flat α) (h : Hp) (v : Value) (l : List α) : Prop where
  sl : IsSl v l.length
  at_ : ∀ i x, l[i]? = some x → CellsAt h (slAt v F.sz i) (F.enc x)
theorem CellsAt.mono {h : Hp} {w : World} {a : Addr} {cs : List Value} (hh : h.le w) (hc : CellsAt h a cs) : CellsAt (fun b => w.heap[b]?) a cs :=
  ⟨hc.1, let ⟨c, E, fz, h1, h2⟩ := hc.2; ⟨c, E, fz, hh _ _ h1, h2⟩⟩
theorem CellsAt.mono' {h h' : Hp} {a : Addr} {cs : List Value} (hh : ∀ b o, h b = some o → h' b = some o) (hc : CellsAt h a cs) : CellsAt h' a cs :=
  ⟨hc.1, let ⟨c, E, fz, h1, h2⟩ := hc.2; ⟨c, E, fz, hh _ _ h1, h2⟩⟩
theorem Rd.mono {α : Type} {F : Flat α} {h h' : Hp} {v : Value} {l : List α} (hh : ∀ b o, h b = some o → h' b = some o) (r : Rd F h v l) : Rd F h' v l :=
  ⟨r.sl, fun i x hx => (r.at_ i x hx).mono' hh⟩
theorem hp_no (w : World) : hp no w = fun b => w.heap[b]? := by
  funext b; simp [hp, no]
/-- What an argument reads as, it reads as at a call in the middle: of what the callee may not write. -/
theorem Rd.arg {α : Type} {F : Flat α} {M N : Nat → Prop} {w0 w : World} {Rs : List Res} {v : Value} {l : List α} (r : Rd F (hp M w0) v l) (h : St M w0 w Rs)
    (hN : ∀ k, N k → M k ∨ w0.heap.size ≤ k) : Rd F (hp N w) v l := by
  refine r.mono fun b o hb => ?_
  have h1 := h.hp_le b o hb
  unfold hp at hb ⊢
  by_cases hM : M b
  · simp [hM] at hb
  · simp only [hM, if_false] at hb
    have hlt := lt_of_heap hb
    have hn : ¬ N b := fun x => by rcases hN b x with y | y; exact hM y; omega
    simp only [hn, if_false]
    exact h1
theorem Rd.arg0 {α : Type} {F : Flat α} {M : Nat → Prop} {w0 w : World} {Rs : List Res} {v : Value} {l : List α} (r : Rd F (hp M w0) v l) (h : St M w0 w Rs) : Rd F (hp no w) v l :=
  r.arg h (fun _ hk => hk.elim)
theorem take_flat {α : Type} (F : Flat α) : ∀ (l : List α) (i : Nat) (x : α) (j : Nat), l[i]? = some x → j < F.sz → (l.flatMap F.enc)[i * F.sz + j]? = (F.enc x)[j]?
  | [], i, x, j, h, _ => by simp at h
  | y :: l, 0, x, j, h, hj => by
    simp at h
    subst h
    rw [List.flatMap_cons, List.getElem?_append_left (by rw [F.len]; omega)]
    simp
  | y :: l, i + 1, x, j, h, hj => by
    simp at h
    have ih := take_flat F l i x j h hj
    rw [List.flatMap_cons, List.getElem?_append_right (by rw [F.len, Nat.add_mul]; omega), F.len]
    rw [← ih]
    congr 1
    rw [Nat.add_mul]
    omega
theorem len_flat {α : Type} (F : Flat α) (l : List α) : (l.flatMap F.enc).length = l.length * F.sz := by
  induction l with
  | nil => simp
  | cons x l ih => rw [List.flatMap_cons, List.length_append, ih, F.len, List.length_cons, Nat.add_mul]; omega
theorem Own.isSl {α : Type} {F : Flat α} {E : TypeId} {v : Value} {l : List α} {w : World} (h : (Own F E v l).holds w) : IsSl v l.length := by
  rcases h.2 with ⟨rfl, h0⟩ | ⟨g, cap, cur, rfl, _, _, h1, h2, _⟩
  · exact ⟨none, 0, by rw [h0], by omega, by simp [maxLen], fun _ => rfl, by simp⟩
  · exact ⟨some ⟨g, 0, none⟩, cap, rfl, h1, h2, by simp, by simp⟩
/-- What one owns reads as what it is, in any memory that bears its blocks. -/
theorem Own.rd {α : Type} {F : Flat α} {E : TypeId} {v : Value} {l : List α} {w : World} {h : Hp} (ho : (Own F E v l).holds w) (hh : ∀ k, (Own F E v l).fp k → h k = w.heap[k]?) : Rd F h v l := by
  refine ⟨Own.isSl ho, fun i x hx => ?_⟩
  rcases ho.2 with ⟨rfl, h0⟩ | ⟨g, cap, cur, rfl, _, hg, h1, h2, h3, h4⟩
  · have : l = [] := List.eq_nil_of_length_eq_zero h0
    subst this
    simp at hx
  · have hadd : (⟨g, 0, none⟩ : Addr).add (i * F.sz) = ⟨g, i * F.sz, none⟩ := by
      unfold Addr.add; split <;> simp_all
    simp only [slAt, hadd]
    refine ⟨rfl, cur, E, (0, 0), by rw [hh g rfl]; exact hg, fun j u hu => ?_⟩
    have hj : j < F.sz := by rw [← F.len x]; exact (List.getElem?_eq_some_iff.1 hu).1
    have hi : i < l.length := (List.getElem?_eq_some_iff.1 hx).1
    have e := take_flat F l i x j hx hj
    rw [hu] at e
    rw [← h4, List.getElem?_take] at e
    have hlt : i * F.sz + j < l.length * F.sz := by
      have := Nat.mul_le_mul_right F.sz (show i + 1 ≤ l.length from hi)
      rw [Nat.add_mul] at this
      omega
    rw [if_pos hlt] at e
    simpa using e
theorem St.rd {α : Type} {F : Flat α} {E : TypeId} {v : Value} {l : List α} {M : Nat → Prop} {w0 w : World} {Rs : List Res} (h : St M w0 w Rs) (i : Nat) (hi : Rs[i]? = some (Own F E v l)) :
    Rd F (hp no w) v l := Own.rd (h.get i hi) (fun k _ => by rw [hp_no])
end Gw
namespace Gw
open Go Go.RowKit
/-! ## Short names for values -/
abbrev vi (x : Int) : Value := .int .i64 x
abbrev vu (x : Int) : Value := .int .u64 x
abbrev vb (c : Bool) : Value := .bool c
abbrev vp (b off : Nat) : Value := .pointer (some ⟨b, off, none⟩)
abbrev va (a : Addr) : Value := .pointer (some a)
abbrev vn : Value := .slice none 0 0
abbrev Z : Value := undef
/-! ## What is known of types -/
def isAggD : TypeDesc → Bool
  | .struct _ => true
  | .array _ _ => true
  | _ => false
def tsz (P : Program) (T : TypeId) : Option (Bool × Nat) :=
  match P.underlying T, P.info? T with
  | some d, some i => some (isAggD d, i.size)
  | _, _ => none
/-- Of a slice's type: its elements' type, their cells, their bytes, their zero value. -/
def sinfo (P : Program) (T : TypeId) : Option (TypeId × Nat × Nat × Value) :=
  match P.underlying T with
  | some (.slice E) => match P.info? E with
    | some i => match i.zero with
      | some z => some (E, i.size, i.bytes, z)
      | none => none
    | none => none
  | _ => none
def ainfo (P : Program) (T : TypeId) : Option (Nat × TypeId × Nat) :=
  match P.underlying T with
  | some (.array n E) => match P.info? E with
    | some i => some (n, E, i.size)
    | none => none
  | _ => none
def zcells (P : Program) (T : TypeId) : Option (Array Value) :=
  match P.info? T with
  | some i => i.zero.map Value.cells
  | none => none
theorem sinfo_spec {P : Program} {T E : TypeId} {sz by' : Nat} {z : Value} (h : sinfo P T = some (E, sz, by', z)) :
    P.underlying T = some (.slice E) ∧ ∃ i, P.info? E = some i ∧ i.size = sz ∧ i.bytes = by' ∧ i.zero = some z := by
  unfold sinfo at h
  split at h
  · rename_i E' hu
    split at h
    · rename_i i hi
      split at h
      · rename_i z' hz
        simp only [Option.some.injEq, Prod.mk.injEq] at h
        obtain ⟨rfl, rfl, rfl, rfl⟩ := h
        exact ⟨hu, i, hi, rfl, rfl, hz⟩
      · cases h
    · cases h
  · cases h
/-- The same in short: elements' type, cells, bytes, and that their zero value has so many cells. -/
def sE (P : Program) (T : TypeId) : Option (TypeId × Nat × Nat × Bool) :=
  match sinfo P T with
  | some (E, sz, by', z) => some (E, sz, by', z.cells.size == sz)
  | none => none
theorem sE_spec {P : Program} {T E : TypeId} {sz by' : Nat} (h : sE P T = some (E, sz, by', true)) : ∃ z, sinfo P T = some (E, sz, by', z) ∧ z.cells.size = sz := by
  unfold sE at h
  split at h
  · rename_i E' sz' b' z hs
    simp only [Option.some.injEq, Prod.mk.injEq, beq_iff_eq] at h
    obtain ⟨rfl, rfl, rfl, h⟩ := h
    exact ⟨z, hs, h⟩
  · cases h
theorem ainfo_spec {P : Program} {T E : TypeId} {n sz : Nat} (h : ainfo P T = some (n, E, sz)) : P.underlying T = some (.array n E) ∧ ∃ i, P.info? E = some i ∧ i.size = sz := by
  unfold ainfo at h
  split at h
  · rename_i n' E' hu
    split at h
    · rename_i i hi
      simp only [Option.some.injEq, Prod.mk.injEq] at h
      obtain ⟨rfl, rfl, rfl⟩ := h
      exact ⟨hu, i, hi, rfl⟩
    · cases h
  · cases h
theorem run_typeInfo' {P : Program} {w : World} {T : TypeId} {i : TypeInfo} (hi : P.info? T = some i) : (typeInfo T).run P w = .ok i w := by
  simp [typeInfo, program, Sem.run, Sem.run_bind, Result.andThen, hi]
theorem run_sizeOf' {P : Program} {w : World} {T : TypeId} {i : TypeInfo} (hi : P.info? T = some i) : (Go.sizeOf T).run P w = .ok i.size w := by
  simp [Go.sizeOf, Sem.run_bind, Result.andThen, run_typeInfo' hi]
theorem run_zeroValue' {P : Program} {w : World} {T : TypeId} {i : TypeInfo} {z : Value} (hi : P.info? T = some i) (hz : i.zero = some z) : (zeroValue T).run P w = .ok z w := by
  simp [zeroValue, Sem.run_bind, Result.andThen, run_typeInfo' hi, hz]
/-- A value of type T out of cells. -/
def ldl (P : Program) (T : TypeId) (cs : List Value) (off : Nat) : Option Value :=
  match tsz P T with
  | some (true, n) => if off + n ≤ cs.length then some (.agg ((cs.drop off).take n).toArray) else none
  | some (false, _) => cs[off]?
  | none => none
theorem add_add (a : Addr) (h : a.spot = none) (n m : Nat) : (a.add n).add m = a.add (n + m) := by
  obtain ⟨b, o, s⟩ := a
  simp only at h
  subst h
  unfold Addr.add
  split <;> split <;> split <;> simp_all <;> omega
theorem add_off (a : Addr) (h : a.spot = none) (n : Nat) : a.add n = ⟨a.block, a.off + n, none⟩ := by
  obtain ⟨b, o, s⟩ := a
  simp only at h
  subst h
  unfold Addr.add
  split <;> simp_all
section
variable {r : Option Nat} {P : Program} {Q : Exit → Act → World → Prop} {a : Act} {w : World} {ops : Array Oper} {k : Nat}
variable {M : Nat → Prop} {w0 : World} {Rs : List Res}
theorem CellsAt.cell {h : Hp} {ad : Addr} {cs : List Value} (hc : CellsAt h ad cs) (hle : h.le w) (off : Nat) : ∀ j u, (cs.drop off)[j]? = some u → w.cell? ((ad.add off).add j) = some u := by
  intro j u hu
  obtain ⟨hs, c, E, fz, hb, hcs⟩ := hc
  rw [add_add _ hs, add_off _ hs]
  simp only [World.cell?, hle _ _ hb, Option.isSome_none, Bool.false_eq_true, if_false]
  rw [List.getElem?_drop] at hu
  have := hcs (off + j) u hu
  simpa only [Nat.add_assoc] using this
theorem run_loadAt {h : Hp} {ad : Addr} {cs : List Value} {T : TypeId} {off : Nat} {v : Value} (hc : CellsAt h ad cs) (hle : h.le w) (hv : ldl P T cs off = some v) :
    (loadVar T (ad.add off)).run P w = .ok v w := by
  unfold ldl tsz at hv
  have hcell := hc.cell (w := w) hle off
  have hsp : (ad.add off).spot = none := by rw [add_off _ hc.1]
  cases hu : P.underlying T with
  | none => simp [hu] at hv
  | some d =>
    cases hi : P.info? T with
    | none => simp [hu, hi] at hv
    | some i =>
      simp only [hu, hi] at hv
      have hagg : (isAgg T).run P w = .ok (isAggD d) w := by
        simp only [isAgg, Sem.run_bind, run_underlying hu, Result.andThen]
        cases d <;> rfl
      simp only [loadVar, Sem.run_bind, hagg, Result.andThen]
      cases hd : isAggD d with
      | true =>
        simp only [hd] at hv
        split at hv
        · rename_i hle'
          simp only [Option.some.injEq] at hv
          subst hv
          have hlen : ((cs.drop off).take i.size).length = i.size := by simp; omega
          have hl := run_loadCells_list (P := P) w (ad.add off) ((cs.drop off).take i.size) (fun j u hj => hcell j u (by
            rw [List.getElem?_take] at hj
            split at hj
            · exact hj
            · cases hj))
          rw [hlen] at hl
          have hsz : (Go.sizeOf T).run P w = .ok i.size w := run_sizeOf' hi
          simp only [if_true, Sem.run_bind, hsz, Result.andThen, hl, Sem.run_pure]
        · cases hv
      | false =>
        simp only [hd] at hv
        simp only [Bool.false_eq_true, if_false]
        have h0 := hcell 0 v (by rw [List.getElem?_drop]; simpa using hv)
        have e0 : (ad.add off).add 0 = ad.add off := by simp [Addr.add]
        rw [e0] at h0
        simp [load, Sem.run, h0]
/-- A load, of what is known to lie there. -/
theorem ev_load {h : Hp} {ad : Addr} {cs : List Value} {o : Oper} (T : TypeId) (x : Operand) (off : Nat) (v : Value)
    (hc : CellsAt h ad cs) (hle : h.le w) (ho : o.op = .load T x) (hx : a.eval x = .pointer (some (ad.add off))) (hv : ldl P T cs off = some v) :
    (execOp a.eval o).run P w = .ok (.value v) w := by
  have := run_loadAt (P := P) (w := w) hc hle hv
  simp only [execOp, ho, hx, Instr.loadAt, Instr.sureAddr, Sem.run_bind, Sem.run_pure, Result.andThen, this]
theorem St.boxAt {b : Nat} {cs : Array Value} {E : TypeId} (H : St M w0 w Rs) (i : Nat) (hi : Rs[i]? = some (Box b cs E)) : CellsAt (fun b => w.heap[b]?) ⟨b, 0, none⟩ cs.toList :=
  ⟨rfl, cs, E, (0, 0), H.get i hi, fun j u hu => by simpa using hu⟩
theorem le_self (w : World) : Hp.le (fun b => w.heap[b]?) w := fun _ _ h => h
/-- A load from a variable of one's own. -/
theorem ev_loadBox {b : Nat} {cs : Array Value} {E : TypeId} {o : Oper} (H : St M w0 w Rs) (i : Nat) (hi : Rs[i]? = some (Box b cs E)) (T : TypeId) (x : Operand) (off : Nat) (v : Value)
    (ho : o.op = .load T x) (hx : a.eval x = .pointer (some ((⟨b, 0, none⟩ : Addr).add off))) (hv : ldl P T cs.toList off = some v) :
    (execOp a.eval o).run P w = .ok (.value v) w := ev_load T x off v (H.boxAt i hi) (le_self w) ho hx hv
/-- A load of an element, or of a part of one. -/
theorem ev_loadEl {α : Type} {F : Flat α} {h : Hp} {s : Value} {l : List α} {o : Oper} {i : Nat} {x : α} (hr : Rd F h s l) (hle : h.le w) (hx : l[i]? = some x) (T : TypeId) (y : Operand) (off : Nat) (v : Value)
    (ho : o.op = .load T y) (hy : a.eval y = .pointer (some ((slAt s F.sz i).add off))) (hv : ldl P T (F.enc x) off = some v) :
    (execOp a.eval o).run P w = .ok (.value v) w := ev_load T y off v (hr.at_ i x hx) hle ho hy hv
/-- The length of a slice. -/
theorem ev_len {v : Value} {m : Nat} (hv : IsSl v m) {o : Oper} (T : TypeId) (x : Operand) (E : TypeId) (sz by' : Nat)
    (ho : o.op = .call ⟨.builtin .len, #[x], #[T]⟩) (hT : sE P T = some (E, sz, by', true)) (hx : a.eval x = v) :
    (execOp a.eval o).run P w = .ok (.value (vi m)) w := by
  obtain ⟨ad, cap, rfl, _⟩ := hv
  obtain ⟨z, hT, _⟩ := sE_spec hT
  have hu := (sinfo_spec hT).1
  simp [execOp, ho, resolve, invoke, builtin, Builtin.len_, hx, run_underlying hu, goInt]
/-- The place of a slice's element. -/
theorem ev_index {v : Value} {m : Nat} (hv : IsSl v m) {o : Oper} (T : TypeId) (x y : Operand) (E : TypeId) (sz by' : Nat) (kk : IntKind) (i : Int)
    (ho : o.op = .indexAddr T x y) (hT : sE P T = some (E, sz, by', true)) (hx : a.eval x = v) (hy : a.eval y = .int kk i) (hi : 0 ≤ i ∧ i < m) :
    (execOp a.eval o).run P w = .ok (.value (va (slAt v sz i.toNat))) w := by
  obtain ⟨ad, cap, rfl, hc1, hc2, hc3, hc4⟩ := hv
  obtain ⟨h0, hi⟩ := hi
  obtain ⟨z, hT, _⟩ := sE_spec hT
  obtain ⟨hu, inf, hinf, hsz, _⟩ := sinfo_spec hT
  cases ad with
  | none => have := hc3 rfl; omega
  | some ad =>
    have hszr : (Go.sizeOf E).run P w = .ok sz w := by
      rw [← hsz]; exact run_sizeOf' hinf
    simp only [execOp, ho, hx, hy, Instr.indexAt, asIntOf, Sem.run_bind, Sem.run_pure, Result.andThen, run_underlying hu, slAt, h0, hi, and_self, if_true, hszr]
/-- The place of an array's element. -/
theorem ev_indexArr {ad : Addr} {o : Oper} (T : TypeId) (x y : Operand) (m : Nat) (E : TypeId) (sz : Nat) (kk : IntKind) (i : Int)
    (ho : o.op = .indexAddr T x y) (hT : ainfo P T = some (m, E, sz)) (hx : a.eval x = va ad) (hy : a.eval y = .int kk i) (hi : 0 ≤ i ∧ i < m) :
    (execOp a.eval o).run P w = .ok (.value (va (ad.add (i.toNat * sz)))) w := by
  obtain ⟨h0, hi⟩ := hi
  obtain ⟨hu, inf, hinf, hsz⟩ := ainfo_spec hT
  have hszr : (Go.sizeOf E).run P w = .ok sz w := by
    rw [← hsz]; exact run_sizeOf' hinf
  simp only [execOp, ho, hx, hy, Instr.indexAt, asIntOf, Instr.sureAddr, Sem.run_bind, Sem.run_pure, Result.andThen, run_underlying hu, h0, hi, and_self, if_true, hszr]
/-- An element of an array that lies in a variable of one's own: its cells. -/
theorem CellsAt.elem {α : Type} (F : Flat α) {h : Hp} {ad : Addr} {cs : List Value} (hc : CellsAt h ad cs) (off : Nat) (es : List α) (post : List Value) (hcs : cs.drop off = es.flatMap F.enc ++ post)
    (i : Nat) (x : α) (hx : es[i]? = some x) : CellsAt h ((ad.add off).add (i * F.sz)) (F.enc x) := by
  obtain ⟨hs, c, E, fz, hb, hcell⟩ := hc
  rw [add_add _ hs, add_off _ hs]
  refine ⟨rfl, c, E, fz, hb, fun j u hu => ?_⟩
  have hj : j < F.sz := by rw [← F.len x]; exact (List.getElem?_eq_some_iff.1 hu).1
  have e := take_flat F es i x j hx hj
  have hlt : i * F.sz + j < (es.flatMap F.enc).length := by
    rw [len_flat]
    have hi : i < es.length := (List.getElem?_eq_some_iff.1 hx).1
    have := Nat.mul_le_mul_right F.sz (show i + 1 ≤ es.length from hi)
    rw [Nat.add_mul] at this
    omega
  have h1 : (cs.drop off)[i * F.sz + j]? = some u := by
    rw [hcs, List.getElem?_append_left hlt, e, hu]
  rw [List.getElem?_drop] at h1
  have := hcell _ u h1
  simpa only [Nat.add_assoc] using this
def stl (cs : List Value) (off : Nat) (vs : List Value) : List Value := cs.take off ++ vs ++ cs.drop (off + vs.length)
theorem stl_get {cs : List Value} {off : Nat} {vs : List Value} (h : off + vs.length ≤ cs.length) (k : Nat) :
    (stl cs off vs)[k]? = if k < off then cs[k]? else if k < off + vs.length then vs[k - off]? else cs[k]? := by
  unfold stl
  by_cases h1 : k < off
  · rw [if_pos h1, List.append_assoc, List.getElem?_append_left (by simp; omega), List.getElem?_take, if_pos h1]
  · rw [if_neg h1, List.append_assoc, List.getElem?_append_right (by simp; omega)]
    have e : (List.take off cs).length = off := by simp; omega
    rw [e]
    by_cases h2 : k < off + vs.length
    · rw [if_pos h2, List.getElem?_append_left (by omega)]
    · rw [if_neg h2, List.getElem?_append_right (by omega), List.getElem?_drop]
      congr 1
      omega
theorem stl_len {cs : List Value} {off : Nat} {vs : List Value} (h : off + vs.length ≤ cs.length) : (stl cs off vs).length = cs.length := by
  simp [stl]; omega
theorem take_stl {cs : List Value} {off n : Nat} {vs : List Value} (h : off + vs.length ≤ n) (hn : n ≤ cs.length) : (stl cs off vs).take n = stl (cs.take n) off vs := by
  apply List.ext_getElem?
  intro k
  rw [stl_get (by simp; omega), List.getElem?_take, stl_get (by omega), List.getElem?_take]
  by_cases h1 : k < n <;> by_cases h2 : k < off <;> by_cases h3 : k < off + vs.length <;> simp [h1, h2, h3]
  all_goals omega
theorem run_storeAt {b off : Nat} {cs : Array Value} {E T : TypeId} {v : Value} {ag : Bool} (hb : w.heap[b]? = some (.cells cs E (0, 0))) (ht : tsz P T = some (ag, v.cells.size))
    (h1 : ∀ u ∈ v.cells.toList, u.oneCell' = true) (hfit : off + v.cells.size ≤ cs.size) :
    (storeVar T ⟨b, off, none⟩ v).run P w = .ok () (w.setRow b (stl cs.toList off v.cells.toList).toArray) := by
  have hsz : (Go.sizeOf T).run P w = .ok v.cells.size w := by
    unfold tsz at ht
    cases hu : P.underlying T with
    | none => simp [hu] at ht
    | some d =>
      cases hi : P.info? T with
      | none => simp [hu, hi] at ht
      | some i =>
        simp only [hu, hi, Option.some.injEq, Prod.mk.injEq] at ht
        rw [← ht.2]; exact run_sizeOf' hi
  have hst := run_storeCells_at P b off E v.cells.toList 0 cs w hb (by simpa using hfit) h1
  simp only [Nat.add_zero] at hst
  simp only [storeVar, Sem.run_bind, hsz, Result.andThen, ne_eq, not_true_eq_false, if_false, hst]
  rfl
end
/-! ## The ways of an operation, for whatever follows it: 'Op1' serves the text's order and any other -/
/-- Operation o, in state a and world w, leads to K. -/
def Op1 (P : Program) (ops : Array Oper) (o : Oper) (K : Act → World → Prop) (a : Act) (w : World) : Prop :=
  (Region.wanted o (yielded ops a.tmps) = false ∧ K (a.put o.dst undef) w) ∨
  (Region.wanted o (yielded ops a.tmps) = true ∧
    ((∃ v w', (execOp a.eval o).run P w = .ok (.value v) w' ∧ K (a.put o.dst v) w') ∨
     (∃ w', (execOp a.eval o).run P w = .ok .skip w' ∧ K (a.put o.dst undef) w') ∨
     (∃ f args R, (execOp a.eval o).run P w = .ok (.enter f args) w ∧ Ret P f args w R ∧ ∀ v w', R v w' → K (a.put o.dst v) w')))
section
variable {P : Program} {a : Act} {w : World} {ops : Array Oper} {o : Oper} {K : Act → World → Prop}
variable {M : Nat → Prop} {w0 : World} {Rs : List Res}
theorem Op1.off (hw : Region.wanted o (yielded ops a.tmps) = false) (n : K (a.put o.dst undef) w) : Op1 P ops o K a w := .inl ⟨hw, n⟩
theorem Op1.val {v : Value} (hw : Region.wanted o (yielded ops a.tmps) = true) (hr : (execOp a.eval o).run P w = .ok (.value v) w) (n : K (a.put o.dst v) w) : Op1 P ops o K a w :=
  .inr ⟨hw, .inl ⟨v, w, hr, n⟩⟩
theorem Op1.call {f : FuncId} {args : Array Value} {R : Value → World → Prop} (hw : Region.wanted o (yielded ops a.tmps) = true) (hr : (execOp a.eval o).run P w = .ok (.enter f args) w)
    (hc : Ret P f args w R) (n : ∀ v w', R v w' → K (a.put o.dst v) w') : Op1 P ops o K a w := .inr ⟨hw, .inr (.inr ⟨f, args, R, hr, hc, n⟩)⟩
/-- A new variable that holds a value. -/
theorem Op1.box (H : St M w0 w Rs) (cs : Array Value) (hw : Region.wanted o (yielded ops a.tmps) = true) (E : TypeId) (x : Operand) (ho : o.op = .box E x) (hx : (a.eval x).cells = cs)
    (n : ∀ b w', St M w0 w' (Box b cs E :: Rs) → K (a.put o.dst (vp b 0)) w') : Op1 P ops o K a w := by
  refine .inr ⟨hw, .inl ⟨vp w.heap.size 0, w.alloc (.cells cs E), ?_, n _ _ (H.alloc cs E)⟩⟩
  subst hx
  unfold execOp
  rw [ho]
  rfl
/-- A new variable that holds its type's zero. -/
theorem Op1.alloc (H : St M w0 w Rs) (cs : Array Value) (hw : Region.wanted o (yielded ops a.tmps) = true) (E : TypeId) (ho : o.op = .alloc E) (hz : zcells P E = some cs)
    (n : ∀ b w', St M w0 w' (Box b cs E :: Rs) → K (a.put o.dst (vp b 0)) w') : Op1 P ops o K a w := by
  refine .inr ⟨hw, .inl ⟨vp w.heap.size 0, w.alloc (.cells cs E), ?_, n _ _ (H.alloc cs E)⟩⟩
  unfold zcells at hz
  cases hi : P.info? E with
  | none => rw [hi] at hz; cases hz
  | some i =>
    simp only [hi] at hz
    cases hzz : i.zero with
    | none => simp [hzz] at hz
    | some z =>
      simp only [hzz, Option.map_some, Option.some.injEq] at hz
      subst hz
      simp only [execOp, ho, Instr.alloc, Sem.run_bind, run_zeroValue' hi hzz, Result.andThen]
      rfl
/-- A store into a variable of one's own. -/
theorem Op1.storeBox {b : Nat} {cs : Array Value} {E : TypeId} (H : St M w0 w Rs) (i : Nat) (hi : Rs[i]? = some (Box b cs E)) (hw : Region.wanted o (yielded ops a.tmps) = true)
    (T : TypeId) (x y : Operand) (off : Nat) (v : Value) (cs' : Array Value) (ag : Bool) (ho : o.op = .store T x y)
    (hx : a.eval x = va ((⟨b, 0, none⟩ : Addr).add off)) (hy : a.eval y = v) (ht : tsz P T = some (ag, v.cells.size)) (hfit : Nat.ble (off + v.cells.size) cs.size = true)
    (hcs : (stl cs.toList off v.cells.toList).toArray = cs') (h1 : ∀ u ∈ v.cells.toList, u.oneCell' = true)
    (n : ∀ w', St M w0 w' (Box b cs' E :: Rs.eraseIdx i) → K (a.put o.dst undef) w') : Op1 P ops o K a w := by
  have hb := H.get i hi
  have hs := run_storeAt (P := P) (off := off) (ag := ag) hb ht h1 (Nat.le_of_ble_eq_true hfit)
  rw [hcs] at hs
  have e : (⟨b, 0, none⟩ : Addr).add off = ⟨b, off, none⟩ := by rw [add_off _ rfl]; simp
  rw [e] at hx
  refine .inr ⟨hw, .inr (.inl ⟨w.setRow b cs', ?_, n _ (H.upd i hi (R' := Box b cs' E) (fun _ h => h) (setRow_heap w b cs cs' E (0, 0) hb) rfl rfl rfl (by simp [World.setRow]) (fun k hk => setRow_other w b k cs' hk))⟩)⟩
  simp only [execOp, ho, hx, hy, Instr.storeAt, Instr.sureAddr, Sem.run_bind, Sem.run_pure, Result.andThen, hs]
theorem get_flat {α : Type} (F : Flat α) (l : List α) (k : Nat) : (l.flatMap F.enc)[k]? = (l[k / F.sz]?).bind fun x => (F.enc x)[k % F.sz]? := by
  have hp := F.pos
  have hk : k = (k / F.sz) * F.sz + k % F.sz := by rw [Nat.mul_comm]; exact (Nat.div_add_mod k F.sz).symm
  cases hx : l[k / F.sz]? with
  | some x => conv => lhs; rw [hk]
              rw [take_flat F l _ x _ hx (Nat.mod_lt _ hp)]; rfl
  | none =>
    have : l.length ≤ k / F.sz := by
      rcases Nat.lt_or_ge (k / F.sz) l.length with h | h
      · rw [List.getElem?_eq_getElem h] at hx; cases hx
      · exact h
    rw [List.getElem?_eq_none]
    · rfl
    · rw [len_flat]
      have := Nat.mul_le_mul_right F.sz this
      omega
theorem set_flat {α : Type} (F : Flat α) (l : List α) (i : Nat) (x : α) (h : i < l.length) : stl (l.flatMap F.enc) (i * F.sz) (F.enc x) = (l.set i x).flatMap F.enc := by
  have hp := F.pos
  have hle : i * F.sz + F.sz ≤ l.length * F.sz := by
    have := Nat.mul_le_mul_right F.sz (show i + 1 ≤ l.length from h)
    rw [Nat.add_mul] at this
    omega
  apply List.ext_getElem?
  intro k
  rw [stl_get (by rw [len_flat, F.len]; exact hle), get_flat, get_flat, F.len, List.getElem?_set]
  by_cases h1 : k < i * F.sz
  · have : ¬ i = k / F.sz := fun e => by have := Nat.div_mul_le_self k F.sz; rw [← e] at this; omega
    rw [if_pos h1, if_neg this]
  · rw [if_neg h1]
    by_cases h2 : k < i * F.sz + F.sz
    · have e : k / F.sz = i := by
        apply Nat.div_eq_of_lt_le
        · omega
        · rw [Nat.add_mul]; omega
      rw [if_pos h2, e, if_pos rfl, if_pos h]
      have : k % F.sz = k - i * F.sz := by
        have := Nat.div_add_mod k F.sz
        rw [e, Nat.mul_comm] at this
        omega
      rw [this]; rfl
    · have : ¬ i = k / F.sz := fun e => by
        have := Nat.lt_div_mul_add (a := k) (b := F.sz) hp
        rw [← e] at this
        omega
      rw [if_neg h2, if_neg this]
theorem flat_one {α : Type} (F : Flat α) (l : List α) : ∀ u ∈ l.flatMap F.enc, u.oneCell' = true := by
  intro u hu
  obtain ⟨x, _, hx⟩ := List.mem_flatMap.1 hu
  exact F.one x u hx
/-- A store into a slice of one's own. -/
theorem Op1.storeOwn {α : Type} {F : Flat α} {E : TypeId} {s : Value} {l : List α} (H : St M w0 w Rs) (i : Nat) (hi : Rs[i]? = some (Own F E s l)) (hw : Region.wanted o (yielded ops a.tmps) = true)
    (T : TypeId) (x y : Operand) (j : Nat) (v : α) (ag : Bool) (ho : o.op = .store T x y) (hx : a.eval x = va (slAt s F.sz j)) (hy : a.eval y = F.val v) (ht : tsz P T = some (ag, F.sz)) (hj : j < l.length)
    (n : ∀ w', St M w0 w' (Own F E s (l.set j v) :: Rs.eraseIdx i) → K (a.put o.dst undef) w') : Op1 P ops o K a w := by
  have hown := H.get i hi
  have hlen := hown.1
  rcases hown.2 with ⟨rfl, h0⟩ | ⟨g, cap, cur, rfl, hg0, hg, h1, h2, h3, h4⟩
  · omega
  · have hadd : (⟨g, 0, none⟩ : Addr).add (j * F.sz) = ⟨g, j * F.sz, none⟩ := by rw [add_off _ rfl]; simp
    simp only [slAt, hadd] at hx
    have hcl : (F.val v).cells.size = F.sz := by rw [F.cells]; simp [F.len]
    have hle : j * F.sz + F.sz ≤ l.length * F.sz := by
      have := Nat.mul_le_mul_right F.sz (show j + 1 ≤ l.length from hj)
      rw [Nat.add_mul] at this
      omega
    have hle2 : l.length * F.sz ≤ cur.size := by rw [h3]; exact Nat.mul_le_mul_right _ h1
    have hs := run_storeAt (P := P) (w := w) (b := g) (off := j * F.sz) (cs := cur) (E := E) (T := T) (v := F.val v) (ag := ag) hg (by rw [hcl]; exact ht)
      (by rw [F.cells]; simpa using F.one v) (by rw [hcl]; omega)
    have hown' : (Own F E (.slice (some ⟨g, 0, none⟩) l.length cap) (l.set j v)).holds (w.setRow g (stl cur.toList (j * F.sz) (F.val v).cells.toList).toArray) := by
      refine ⟨by rw [len_flat], .inr ⟨g, cap, _, by simp, hg0, setRow_heap w g cur _ E (0, 0) hg, by simpa using h1, h2, ?_, ?_⟩⟩
      · rw [F.cells]
        rw [List.size_toArray, stl_len (by rw [F.len, Array.length_toList]; omega), Array.length_toList]
        exact h3
      · rw [F.cells]
        simp only [List.length_set]
        rw [← set_flat F l j v hj, ← h4]
        exact take_stl (by rw [F.len]; exact hle) (by simpa using hle2)
    refine .inr ⟨hw, .inr (.inl ⟨_, ?_, n _ (H.upd i hi (fun _ h => h) hown' rfl rfl rfl (by simp [World.setRow]) (fun k hk => setRow_other w g k _ (fun e => hk (by subst e; rfl))))⟩)⟩
    simp only [execOp, ho, hx, hy, Instr.storeAt, Instr.sureAddr, Sem.run_bind, Sem.run_pure, Result.andThen, hs]
end
end Gw
namespace Gw
open Go Go.RowKit
/-! ## Ways out -/
section
variable {r : Option Nat} {P : Program} {Q : Exit → Act → World → Prop} {next M : Act → World → Prop} {a : Act} {w : World} {id id' : Nat}
theorem then_n (h : next a w) : Exit.then next Q .normal a w := h
theorem then_r (h : Q .ret a w) : Exit.then next Q .ret a w := h
theorem then_e (h : Q (.exit id) a w) : Exit.then next Q (.exit id) a w := h
theorem inb_n (h : Q .normal a w) : Exit.inBlock id Q .normal a w := h
theorem inb_r (h : Q .ret a w) : Exit.inBlock id Q .ret a w := h
theorem inb_e (h : Q .normal a w) : Exit.inBlock id Q (.exit id) a w := by simp only [Exit.inBlock, if_true]; exact h
theorem inb_x (hne : id' ≠ id) (h : Q (.exit id') a w) : Exit.inBlock id Q (.exit id') a w := by simp only [Exit.inBlock, hne, if_false]; exact h
/-- Where ways meet again: behind code. -/
theorem WP.seqJ {x y : Code} (M : Act → World → Prop) (hx : WP r P x (Exit.then M Q) a w) (hy : ∀ a w, M a w → WP r P y Q a w) : WP r P (.seq x y) Q a w :=
  WP.seq (hx.mono fun e a w q => by cases e <;> first | exact hy _ _ q | exact q)
theorem WP.blockJ {c : Code} (M : Act → World → Prop) (hx : WP r P c (Exit.inBlock id (Exit.then M Q)) a w) (hy : ∀ a w, M a w → Q .normal a w) : WP r P (.block id c) Q a w :=
  WP.block (hx.mono fun e a w q => by
    cases e with
    | exit id' =>
      by_cases h : id' = id
      · subst h; simp only [Exit.inBlock, if_true] at q ⊢; exact hy _ _ q
      · simp only [Exit.inBlock, h, if_false] at q ⊢; exact q
    | normal => exact hy _ _ q
    | goto l => exact q
    | ret => exact q
    | panic c => exact q
    | outgrown => exact q)
def onlyN (M : Act → World → Prop) : Exit → Act → World → Prop
  | .normal, a, w => M a w
  | _, _, _ => False
theorem WP.onlyN {c : Code} (M : Act → World → Prop) (hx : WP r P c (onlyN M) a w) (hy : ∀ a w, M a w → Q .normal a w) : WP r P c Q a w :=
  hx.mono fun e a w q => by cases e <;> first | exact hy _ _ q | exact q.elim
end
/-! ## Regions that draw their order -/
def noDefer (ops : Array Oper) : Bool := ops.toList.all fun o => match o.op with | .defer _ => false | _ => true
section
variable {r : Option Nat} {P : Program} {Q : Exit → Act → World → Prop} {M : Act → World → Prop} {a : Act} {w : World} {ops : Array Oper}
theorem opsIn_round (hd : noDefer ops = true) (l : List Nat) : ∀ (a : Act) (w : World), wpOpsIn (FW none) 0 P ops Q l a w → wpOpsIn (FW r) 0 P ops Q l a w := by
  induction l with
  | nil => intro a w h; exact h
  | cons i l ih =>
    intro a w h
    simp only [wpOpsIn] at h ⊢
    cases ho : ops[i]? with
    | none => simp only [ho] at h ⊢; exact ih a w h
    | some o =>
      simp only [ho] at h ⊢
      have hnd : ∀ c, o.op ≠ .defer c := by
        intro c hc
        have hm : o ∈ ops.toList := by
          obtain ⟨hlt, e⟩ := Array.getElem?_eq_some_iff.1 ho
          rw [← e]; exact Array.getElem_mem_toList hlt
        have := (List.all_eq_true.1 hd) o hm
        rw [hc] at this
        cases this
      by_cases hw : Region.wanted o (yielded ops a.tmps) = true
      · simp only [hw, if_true, Oper.wpIn] at h ⊢
        rw [Oper.semAt_eq _ _ _ hnd] at h ⊢
        refine ⟨h.1, ?_⟩
        have h := h.2
        generalize (execOp a.eval o).run P w = q at *
        cases q with
        | halt x w' => cases x <;> exact h
        | ok x w' =>
          cases x <;> simp only [Oper.uponIn] at h ⊢ <;>
            first
              | exact ih _ _ h
              | exact ⟨h.1, CallsIn.mono h.2 (fun e w'' he => by cases e <;> first | exact ih _ _ he | exact he)⟩
              | exact ⟨h.1, RowsIn.mono h.2 (fun _ _ he => ih _ _ he)⟩
              | exact ⟨h.1, RoundIn.mono h.2 (fun e w'' he => by cases e <;> first | exact ih _ _ he | exact he)⟩
              | exact h.elim
      · simp only [hw, Bool.false_eq_true, if_false] at h ⊢
        exact ⟨h.1, ih _ _ h.2⟩
/-- Whatever order is drawn. -/
def WA (P : Program) (ops : Array Oper) (M : Act → World → Prop) (fuel : Nat) (listed : Array Bool) (a : Act) (w : World) : Prop :=
  wpAnyIn (FW none) 0 P .any ops (onlyN M) fuel listed a w
theorem WP.draw {id : Nat} (hd : noDefer ops = true) (hm : P.follows .mixedOrders = true) (M : Act → World → Prop) (n : Nat) (l : Array Bool) (hn : ops.size = n) (hl : Array.replicate n false = l)
    (h : WA P ops M n l a { w with drawn := w.drawn + 1 }) (hy : ∀ a w, M a w → Q .normal a w) : WP r P (.region id ops true) Q a w := by
  refine WP.onlyN M ?_ hy
  subst hn
  subst hl
  refine wpIn_region_draw fun t => opsIn_round hd _ _ _ ?_
  simp only [Region.schedule, hm, Bool.true_or, if_true]
  exact wpAnyIn_sound ops.size t _ a _ h
/-- An operation that gives its value whatever the world is, taken first. -/
theorem WA.take (i : Nat) {o : Oper} {v : Value} {n : Nat} {l l' : Array Bool} (ho : ops[i]? = some o) (hs : (Region.noSelect ops && Region.free .any ops l i && (Region.ready .any ops l).contains i) = true)
    (hw : Region.wanted o (yielded ops a.tmps) = true) (hr : ∀ w, (execOp a.eval o).run P w = .ok (.value v) w) (hab : ∀ w, o.about P w a.eval = none) (hl : l.setIfInBounds i true = l')
    (h : WA P ops M n l' (a.put o.dst v) w) : WA P ops M (n + 1) l a w := by
  subst hl
  simp only [Bool.and_eq_true] at hs
  exact wpAnyIn_take rfl ho hs.1.1 hs.1.2 hs.2 (fun c a w h => h) ⟨.inl ⟨hw, hr⟩, hab⟩ h
theorem WA.takeOff (i : Nat) {o : Oper} {n : Nat} {l l' : Array Bool} (ho : ops[i]? = some o) (hs : (Region.noSelect ops && Region.free .any ops l i && (Region.ready .any ops l).contains i) = true)
    (hw : Region.wanted o (yielded ops a.tmps) = false) (hab : ∀ w, o.about P w a.eval = none) (hl : l.setIfInBounds i true = l')
    (h : WA P ops M n l' (a.put o.dst undef) w) : WA P ops M (n + 1) l a w := by
  subst hl
  simp only [Bool.and_eq_true] at hs
  exact wpAnyIn_take rfl ho hs.1.1 hs.1.2 hs.2 (fun c a w h => h) ⟨.inr ⟨hw, rfl⟩, hab⟩ h
/-- One of those that may come up, whichever. -/
theorem WA.any {n : Nat} {l : Array Bool} (rs : List Nat) (hr : Region.ready .any ops l = rs) (hne : rs ≠ [])
    (h : ∀ i ∈ rs, wpOpIn (FW none) 0 P ops (onlyN M) i (WA P ops M n (l.setIfInBounds i true)) a w) : WA P ops M (n + 1) l a w := wpAnyIn_all hr hne h
theorem WA.done {n : Nat} {l : Array Bool} (hr : Region.ready .any ops l = []) (h : M a w) : WA P ops M n l a w := wpAnyIn_done hr h n
end
/-! ## The ways of an operation, for whatever follows it: 'Op1' serves the text's order and any other -/
section
variable {r : Option Nat} {P : Program} {Q : Exit → Act → World → Prop} {M : Act → World → Prop} {a : Act} {w : World} {ops : Array Oper} {o : Oper} {K : Act → World → Prop}
theorem WPI.op {k : Nat} (ho : ops[k]? = some o) (h : Op1 P ops o (WPI r P ops Q (k + 1)) a w) : WPI r P ops Q k a w := by
  rcases h with ⟨hw, h⟩ | ⟨hw, ⟨v, w', hr, h⟩ | ⟨w', hr, h⟩ | ⟨f, args, R, hr, hc, h⟩⟩
  · exact .off ho hw h
  · exact .value ho hw hr h
  · exact .skip ho hw hr h
  · exact .call ho hw hr hc h
theorem WO.op {i : Nat} (ho : ops[i]? = some o) (h : Op1 P ops o K a w) : wpOpIn (FW none) 0 P ops (onlyN M) i K a w := by
  unfold wpOpIn
  simp only [ho]
  rcases h with ⟨hw, h⟩ | ⟨hw, ⟨v, w', hr, h⟩ | ⟨w', hr, h⟩ | ⟨f, args, R, hr, hc, h⟩⟩
  · simp only [hw, Bool.false_eq_true, if_false]; exact ⟨fun _ _ => trivial, h⟩
  · simp only [hw, if_true, Oper.wpIn]
    rw [Oper.semAt_eq _ _ _ (noDefer_of_value hr), hr]
    exact ⟨fun _ _ => trivial, h⟩
  · simp only [hw, if_true, Oper.wpIn]
    rw [Oper.semAt_eq _ _ _ (noDefer_of_skip hr), hr]
    exact ⟨fun _ _ => trivial, h⟩
  · simp only [hw, if_true, Oper.wpIn]
    rw [Oper.semAt_eq _ _ _ (noDefer_of_enter hr), hr]
    refine ⟨fun _ _ => trivial, fun h => (by simp [FW] at h), callsIn_FW.2 ?_⟩
    intro cs
    obtain ⟨e, w', fr, ⟨v, he, hR⟩, s⟩ := hc cs
    subst he
    exact ⟨_, w', fr, h v w' hR, s⟩
end
/-! ## Quiet regions: each operation has one value in every world of a class -/
section
variable {r : Option Nat} {P : Program} {Q : Exit → Act → World → Prop} {C : World → Prop} {L : Act → Prop} {a : Act} {w : World} {ops : Array Oper} {k : Nat} {o : Oper}
def WQ (P : Program) (ops : Array Oper) (C : World → Prop) (L : Act → Prop) (k : Nat) (a : Act) : Prop := wpQuietIn (FW none) 0 P ops C L (ops.toList.drop k) a
theorem WP.quiet {id : Nat} (hd : noDefer ops = true) (hm : P.follows .mixedOrders = true) (hB : Region.lexB .any ops = true) (C : World → Prop) (hC : C { w with drawn := w.drawn + 1 })
    (h : WQ P ops C (fun a' => ∀ w', C w' → Q .normal a' w') 0 a) : WP r P (.region id ops true) Q a w := by
  refine WP.onlyN (fun a' w' => Q .normal a' w') ?_ (fun a w h => h)
  refine wpIn_region_draw fun t => opsIn_round hd _ _ _ ?_
  simp only [Region.schedule, hm, Bool.true_or, if_true]
  refine wpAnyIn_sound ops.size t _ a _ ?_
  simp only [Region.lexB, Bool.and_eq_true] at hB
  refine wpAnyIn_of_quiet (F := FW none) (n := 0) (P := P) (ops := ops) (md := .any) (C := C) (Q := fun a' => ∀ w', C w' → Q .normal a' w') (Q' := Gw.onlyN fun a' w' => Q .normal a' w') rfl (fun _ w' hw' h => h w' hw') _ _ _ _ hC ?_
  have := wpAnyQIn_lex (F := FW none) (n := 0) (C := C) (md := .any) hB.1 ops.toList 0 (Array.replicate ops.size false) a (by simp) (by simpa using hB.2) h
  simpa using this
theorem drop_step (ho : ops[k]? = some o) : ops.toList.drop k = o :: ops.toList.drop (k + 1) := by
  obtain ⟨hlt, e⟩ := Array.getElem?_eq_some_iff.1 ho
  rw [List.drop_eq_getElem_cons (by simpa using hlt)]
  simp [e]
theorem WQ.done (hk : ops.size = k) (h : L a) : WQ P ops C L k a := by
  unfold WQ
  rw [List.drop_of_length_le (by simp [hk])]
  exact h
theorem WQ.off (ho : ops[k]? = some o) (hw : Region.wanted o (yielded ops a.tmps) = false) (h : WQ P ops C L (k + 1) (a.put o.dst undef)) : WQ P ops C L k a := by
  unfold WQ at *
  rw [drop_step ho]
  refine ⟨fun _ _ _ _ => trivial, ?_⟩
  rw [if_neg (by simp [hw])]
  exact h
theorem WQ.value {v : Value} (ho : ops[k]? = some o) (hw : Region.wanted o (yielded ops a.tmps) = true) (hr : ∀ w, C w → (execOp a.eval o).run P w = .ok (.value v) w)
    (h : WQ P ops C L (k + 1) (a.put o.dst v)) : WQ P ops C L k a := by
  unfold WQ at *
  rw [drop_step ho]
  refine ⟨fun _ _ _ _ => trivial, ?_⟩
  rw [if_pos hw]
  exact ⟨v, fun w hw => by unfold Oper.quietAtIn; rw [hr w hw]; exact ⟨rfl, rfl⟩, h⟩
theorem WQ.call {v : Value} {f : FuncId} {args : Array Value} (ho : ops[k]? = some o) (hw : Region.wanted o (yielded ops a.tmps) = true) (hr : ∀ w, (execOp a.eval o).run P w = .ok (.enter f args) w)
    (hc : ∀ w, C w → Ret P f args w fun u w' => u = v ∧ C w') (h : WQ P ops C L (k + 1) (a.put o.dst v)) : WQ P ops C L k a := by
  unfold WQ at *
  rw [drop_step ho]
  refine ⟨fun _ _ _ _ => trivial, ?_⟩
  rw [if_pos hw]
  refine ⟨v, fun w hw => ?_, h⟩
  unfold Oper.quietAtIn
  rw [hr w]
  refine ⟨rfl, fun h => (by simp [FW] at h), callsIn_FW.2 fun cs => ?_⟩
  obtain ⟨e, w', fr, ⟨u, he, hu, hC⟩, s⟩ := hc w hw cs
  exact ⟨e, w', fr, ⟨by rw [he, hu], hC⟩, s⟩
theorem WQ.frame {a' : Act} (h : a = a') (n : WQ P ops C L k a') : WQ P ops C L k a := h ▸ n
end
theorem post_r {P : Program} {fn : Func} {R : Value → World → Prop} {a : Act} {w : World} (v : Value) (hd : a.defers = []) (hr : (results fn a.tmps).run P w = .ok v w) (h : R v w) :
    Post P fn R .ret a w := ⟨hd, v, hr, h⟩
theorem post_n {P : Program} {fn : Func} {R : Value → World → Prop} {a : Act} {w : World} (v : Value) (hd : a.defers = []) (hr : (results fn a.tmps).run P w = .ok v w) (h : R v w) :
    Post P fn R .normal a w := ⟨hd, v, hr, h⟩
/-! ## The words of the pure functions -/
section
variable {α β γ : Type}
/-- a value with a name -/
def lt (a : α) (f : α → Option β) : Option β := f a
/-- what a call gives -/
def bd (a : Option α) (f : α → Option β) : Option β := match a with | some x => f x | none => none
/-- what must hold lest Go panics -/
def gd (c : Prop) [Decidable c] (b : Option β) : Option β := if c then b else none
def br (c : Bool) (x y : Option β) : Option β := match c with | true => x | false => y
/-- where ways meet -/
def jn (k : γ) (f : γ → Option β) : Option β := f k
theorem bd_some {a : Option α} {f : α → Option β} {r : β} (h : bd a f = some r) : ∃ x, a = some x ∧ f x = some r := by
  cases a with
  | none => cases h
  | some x => exact ⟨x, rfl, h⟩
theorem gd_some {c : Prop} [Decidable c] {b : Option β} {r : β} (h : gd c b = some r) : c ∧ b = some r := by
  unfold gd at h
  split at h
  · exact ⟨‹_›, h⟩
  · cases h
end
/-- A whole number within its kind. -/
abbrev wr (k : IntKind) (x : Int) : Int := k.wrap x
end Gw
namespace Gw
open Go Go.RowKit
theorem hp_no_le (w : World) : (hp no w).le w := fun b o h => by rw [hp_no] at h; exact h
def fI64 : Flat Int := { sz := 1, enc := fun x => [vi x], val := fun x => vi x, len := fun _ => rfl, one := fun x u hu => by simp at hu; subst hu; rfl, cells := fun _ => rfl, pos := by decide }
def fU64 : Flat Int := { sz := 1, enc := fun x => [vu x], val := fun x => vu x, len := fun _ => rfl, one := fun x u hu => by simp at hu; subst hu; rfl, cells := fun _ => rfl, pos := by decide }
def fU8 : Flat Int := { sz := 1, enc := fun x => [.int .u8 x], val := fun x => .int .u8 x, len := fun _ => rfl, one := fun x u hu => by simp at hu; subst hu; rfl, cells := fun _ => rfl, pos := by decide }
def fBool : Flat Bool := { sz := 1, enc := fun x => [vb x], val := fun x => vb x, len := fun _ => rfl, one := fun x u hu => by simp at hu; subst hu; rfl, cells := fun _ => rfl, pos := by decide }
def fStr : Flat ByteArray := { sz := 1, enc := fun x => [.string x], val := fun x => .string x, len := fun _ => rfl, one := fun x u hu => by simp at hu; subst hu; rfl, cells := fun _ => rfl, pos := by decide }
theorem idx_lt {i : Int} {n : Nat} (h : 0 ≤ i ∧ i < (n : Int)) : i.toNat < n := by omega
theorem Rd.nil {α : Type} (F : Flat α) (h : Hp) : Rd F h vn [] := ⟨⟨none, 0, rfl, Nat.le_refl _, by simp [maxLen], fun _ => rfl, by simp⟩, by simp⟩
section
variable {P : Program} {a : Act} {w : World} {ops : Array Oper} {o : Oper} {K : Act → World → Prop}
variable {M : Nat → Prop} {w0 : World} {Rs : List Res}
theorem St.grown {α : Type} {F : Flat α} {E : TypeId} {s s' : Value} {l l' : List α} {w' : World} (H : St M w0 w Rs) (i : Nat) (hi : Rs[i]? = some (Own F E s l))
    (ho : (Own F E s' l').holds w') (hg : w.grownBy w' s.ownBlock) (hb : ∀ k, s'.ownBlock = some k → s.ownBlock = some k ∨ w.heap.size ≤ k) : St M w0 w' (Own F E s' l' :: Rs.eraseIdx i) := by
  refine H.call1 i hi (Rs' := [Own F E s' l']) ⟨hg.os, hg.tape, hg.output, hg.size, fun k hk hn => hg.block k hk (fun e => hn e.symm), by simpa using ho, ?_, by simp⟩
  simp only [List.mem_singleton, forall_eq]
  exact hb
/-- append at a slice of one's own, of elements that can be read. -/
theorem Op1.append {α : Type} {F : Flat α} {E : TypeId} {s : Value} {l : List α} (H : St M w0 w Rs) (i : Nat) (hi : Rs[i]? = some (Own F E s l)) (hw : Region.wanted o (yielded ops a.tmps) = true)
    (T : TypeId) (x y : Operand) (by' : Nat) (ho : o.op = .call ⟨.builtin .append, #[x, y], #[T, T]⟩) (hT : sE P T = some (E, F.sz, by', true))
    (hx : a.eval x = s) (s2 : Value) (l2 : List α) {h2 : Hp} (hr : Rd F h2 s2 l2) (hle : h2.le w) (hy : a.eval y = s2)
    (hlen : (l.length + l2.length) * by' ≤ 140737488355328 ∧ l.length + l2.length ≤ maxLen)
    (n : ∀ s' w', St M w0 w' (Own F E s' (l ++ l2) :: Rs.eraseIdx i) → K (a.put o.dst s') w') : Op1 P ops o K a w := by
  obtain ⟨z, hT, hz⟩ := sE_spec hT
  obtain ⟨hu, inf, hinf, hsz, hby, hzz⟩ := sinfo_spec hT
  have hown := H.get i hi
  obtain ⟨ad, cap, rfl, hc1, hc2, hc3, hc4⟩ := hr.sl
  have hrun : ∃ s' w', (Builtin.append_ #[T, T] o.type #[s, .slice ad l2.length cap]).run P w = .ok s' w' ∧ (Own F E s' (l ++ l2)).holds w' ∧ w.grownBy w' s.ownBlock ∧
      (∀ k, s'.ownBlock = some k → s.ownBlock = some k ∨ w.heap.size ≤ k) := by
    cases ad with
    | none =>
      have h0 := hc3 rfl
      have hl2 : l2 = [] := List.eq_nil_of_length_eq_zero (by omega)
      subst hl2
      subst h0
      refine ⟨s, w, ?_, by simpa using hown, ⟨rfl, rfl, rfl, Nat.le_refl _, fun _ _ _ => rfl⟩, fun k hk => .inl hk⟩
      exact run_append_owned_none (P := P) w 0 T o.type E inf F.sz hu hinf s l.length _ hown
    | some ad =>
      have hnews : ∀ j u, (l2.flatMap F.enc)[j]? = some u → w.cell? (ad.add j) = some u := by
        intro j u hj
        rw [get_flat] at hj
        cases hxx : l2[j / F.sz]? with
        | none => rw [hxx] at hj; cases hj
        | some xx =>
          rw [hxx] at hj
          have hsp : ad.spot = none := hc4 ad rfl (Nat.lt_of_lt_of_le (Nat.lt_of_le_of_lt (Nat.zero_le _) (List.getElem?_eq_some_iff.1 hxx).1) hc1)
          have hc := (hr.at_ _ xx hxx).cell (w := w) hle 0 (j % F.sz) u (by simpa using hj)
          have e : slAt (.slice (some ad) l2.length cap) F.sz (j / F.sz) = ad.add (j / F.sz * F.sz) := rfl
          rw [e, add_add _ hsp, add_add _ hsp] at hc
          have e2 : j / F.sz * F.sz + 0 + j % F.sz = j := by rw [Nat.add_zero, Nat.mul_comm]; exact Nat.div_add_mod j F.sz
          rw [e2] at hc
          exact hc
      have hnl := len_flat F l2
      have h1c := flat_one F l2
      have hxl : ((l ++ l2).flatMap F.enc) = l.flatMap F.enc ++ l2.flatMap F.enc := List.flatMap_append
      rcases hown.2 with ⟨rfl, h0⟩ | ⟨g, cap', cur, rfl, _, hg, hn, hcm, hcs, htk⟩
      · have hl0 : l = [] := List.eq_nil_of_length_eq_zero h0
        subst hl0
        obtain ⟨s', w', h1, h2', h3, h4⟩ := run_append_own (P := P) w w.heap.size T o.type E inf z F.sz by' hu hinf hzz hsz hby hz F.pos (.slice none 0 0) 0 [] (World.ownsRow_nil _ _ _ _) ad l2.length cap (l2.flatMap F.enc) hnl hnews
          h1c (by simpa using hlen.2) (by simpa using hlen.1) (Nat.le_refl _)
        refine ⟨s', w', h1, ?_, h3, fun k hk => .inr (h2'.lt k hk).1⟩
        simp only [Nat.zero_add, List.nil_append] at h2'
        show w'.ownsRow 0 E F.sz s' ([] ++ l2).length (([] ++ l2).flatMap F.enc)
        rw [List.nil_append]
        exact ⟨h2'.1, h2'.2.imp id fun ⟨g, c, cu, e1, _, r⟩ => ⟨g, c, cu, e1, Nat.zero_le _, r⟩⟩
      · by_cases hroom : l.length + l2.length ≤ cap'
        · obtain ⟨w', h1, h2', h3⟩ := run_append_fits (P := P) w 0 T o.type E inf F.sz hu hinf hsz g l.length cap' _ hown ad l2.length cap (l2.flatMap F.enc) hnl hnews h1c hroom
          refine ⟨_, w', h1, ?_, h3, fun k hk => .inl hk⟩
          show w'.ownsRow 0 E F.sz _ (l ++ l2).length ((l ++ l2).flatMap F.enc)
          rw [List.length_append, hxl]
          exact h2'
        · have hsmall : l.length + l2.length ≤ 9223372036854775807 := by have := hlen.2; simp only [maxLen] at this; omega
          have holds : ∀ j u, (l.flatMap F.enc)[j]? = some u → w.cell? ((⟨g, 0, none⟩ : Addr).add j) = some u := hown.cells (g := g) rfl
          subst hby
          have hr' := run_append_grow (P := P) w T o.type E inf z hu hinf hzz ⟨g, 0, none⟩ l.length cap' (l.flatMap F.enc) (by rw [len_flat, hsz]) holds ad l2.length cap (l2.flatMap F.enc) (by rw [len_flat, hsz]) hnews (by omega) (by omega)
            (growslice_fits (by omega) hlen.1)
          have hge := grownCap_ge w (l.length + l2.length) cap' E
          have hcm' : grownCap w (l.length + l2.length) cap' E ≤ maxLen := grownCap_le_maxLen w (l.length + l2.length) cap' E hlen.2
          refine ⟨_, _, hr', ?_, ⟨rfl, rfl, rfl, by simp, fun k hk _ => heap_alloc_old w.drew _ k hk⟩, fun k hk => .inr (by simp [Value.ownBlock] at hk; omega)⟩
          refine ⟨by rw [len_flat], .inr ⟨w.heap.size, _, _, by rw [List.length_append], Nat.zero_le _, heap_alloc_new w.drew _, by rw [List.length_append]; exact hge, hcm', ?_, ?_⟩⟩
          · simp only [Array.size_append, List.size_toArray, size_zeroCells, hz, len_flat, ← Nat.add_mul]
            congr 1
            omega
          · simp only [Array.toList_append, List.append_assoc]
            rw [hxl, ← List.append_assoc]
            have e : (l ++ l2).length * F.sz = (l.flatMap F.enc ++ l2.flatMap F.enc).length := by rw [← hxl, len_flat]
            rw [e]
            exact List.take_left
  obtain ⟨s', w', h1, h2', h3, h4⟩ := hrun
  refine .inr ⟨hw, .inl ⟨s', w', ?_, n _ _ (H.grown i hi h2' h3 h4)⟩⟩
  simp only [execOp, ho, resolve, invoke, builtin, Sem.run_bind, Sem.run_pure, Result.andThen, List.map_toArray, List.map_cons, List.map_nil, hx, hy, h1]
end
end Gw
namespace Gw
open Go Go.RowKit
/-! ## Scopes (labels to which no goto jumps) -/
section
variable {r : Option Nat} {P : Program} {Q : Exit → Act → World → Prop} {a : Act} {w : World}
theorem WP.scope {c : Code} (h : WP r P c (Exit.noGoto Q) a w) : WP r P (.scope c) Q a w := by
  intro b k cs hro hb hr
  have s1 : StepsIn (Machine.fenced P (FW r)) P (lone (b.atR a (.code (.scope c) :: k)) cs w) (lone (b.atR a (.code c :: .inScope c :: k)) cs w) :=
    .one (fenced_FW _ _ _) (step_lone_go (by simp [stepG, stepG.exec, Frame.atR]))
  have s2 : ∀ a' w', StepsIn (Machine.fenced P (FW r)) P (lone (b.atR a' (.inScope c :: k)) cs w') (lone (b.atR a' k) cs w') := fun a' w' =>
    .one (fenced_FW _ _ _) (step_lone_go (by simp [stepG, stepG.exec, Frame.atR]))
  have ex : ∀ id, exitTo id (.inScope c :: k) = exitTo id k := fun id => rfl
  obtain ⟨e, a₁, w₁, hq, harr⟩ := h b (.inScope c :: k) cs hro hb hr
  cases e with
  | normal => exact ⟨.normal, a₁, w₁, hq, (s1.trans harr).trans (s2 _ _)⟩
  | exit id => exact ⟨.exit id, a₁, w₁, hq, fun k' hk => s1.trans (harr.1 k' (by rw [ex]; exact hk)), fun hr' hk => let ⟨k₁, h1, h2⟩ := harr.2 hr' (by rw [ex]; exact hk); ⟨k₁, h1, s1.trans h2⟩⟩
  | goto l => exact hq.elim
  | ret => exact ⟨_, a₁, w₁, hq, .of_steps s1 harr⟩
  | panic ch => exact ⟨_, a₁, w₁, hq, .of_steps s1 harr⟩
  | outgrown => exact ⟨.outgrown, a₁, w₁, hq, harr.imp id (Outgrown.of_steps s1.steps)⟩
theorem sc_r (h : Q .ret a w) : Exit.noGoto Q .ret a w := h
end
/-! ## Division by what is not a literal -/
section
variable {P : Program} {a : Act} {w : World} {o : Oper}
end
/-! ## Structs held against each other -/
section
variable {P : Program} {w : World}
end
/-! ## Pieces of slices -/
/-- s[lo:hi] -/
def slSub (v : Value) (sz lo hi : Nat) : Value :=
  match v with
  | .slice a n cap => .slice (if cap = lo then a else a.map (·.add (lo * sz))) (hi - lo) (cap - lo)
  | _ => v
theorem IsSl.sub {v : Value} {n lo hi sz : Nat} (h : IsSl v n) (h1 : lo ≤ hi) (h2 : hi ≤ n) : IsSl (slSub v sz lo hi) (hi - lo) := by
  obtain ⟨a, cap, rfl, hc1, hc2, hc3, hc4⟩ := h
  refine ⟨_, _, rfl, by omega, by omega, fun hn => ?_, fun ad had hp => ?_⟩
  · split at hn
    · have := hc3 hn; omega
    · cases a with
      | none => have := hc3 rfl; omega
      | some a => simp at hn
  · split at had
    · exact hc4 ad had (by omega)
    · cases a with
      | none => simp at had
      | some a =>
        simp only [Option.map_some, Option.some.injEq] at had
        rw [← had, add_off _ (hc4 a rfl (by omega))]
theorem slAt_sub {v : Value} {n lo hi sz i : Nat} (h : IsSl v n) (h1 : lo + i < hi) (h2 : hi ≤ n) : slAt (slSub v sz lo hi) sz i = slAt v sz (lo + i) := by
  obtain ⟨a, cap, rfl, hc1, hc2, hc3, hc4⟩ := h
  have hne : ¬ cap = lo := by omega
  cases a with
  | none => have := hc3 rfl; omega
  | some a =>
    simp only [slSub, hne, if_false, Option.map_some, slAt]
    rw [add_add _ (hc4 a rfl (by omega)), Nat.add_mul]
theorem Rd.sub {α : Type} {F : Flat α} {h : Hp} {v : Value} {l : List α} {lo hi : Nat} (r : Rd F h v l) (h1 : lo ≤ hi) (h2 : hi ≤ l.length) : Rd F h (slSub v F.sz lo hi) ((l.take hi).drop lo) := by
  refine ⟨?_, fun i x hx => ?_⟩
  · have e : ((l.take hi).drop lo).length = hi - lo := by simp; omega
    rw [e]
    exact r.sl.sub h1 h2
  · rw [List.getElem?_drop, List.getElem?_take] at hx
    split at hx
    · rw [slAt_sub r.sl (by omega) h2]
      exact r.at_ (lo + i) x hx
    · cases hx
/-- One's own, cut behind: still one's own. -/
theorem Own.cut {α : Type} {F : Flat α} {E : TypeId} {v : Value} {l : List α} {w : World} {n : Nat} (h : (Own F E v l).holds w) (hn : n ≤ l.length) : (Own F E (slSub v F.sz 0 n) (l.take n)).holds w := by
  rcases h.2 with ⟨rfl, h0⟩ | ⟨g, cap, cur, rfl, hb, hg, h1, h2, h3, h4⟩
  · have : l = [] := List.eq_nil_of_length_eq_zero h0
    subst this
    have : n = 0 := by simpa using hn
    subst this
    simpa [slSub] using h
  · have hz : (⟨g, 0, none⟩ : Addr).add (0 * F.sz) = ⟨g, 0, none⟩ := by rw [add_off _ rfl]; simp
    have e : slSub (.slice (some ⟨g, 0, none⟩) l.length cap) F.sz 0 n = .slice (some ⟨g, 0, none⟩) n cap := by
      simp only [slSub, Option.map_some, hz, Nat.sub_zero]
      split <;> rfl
    rw [e]
    refine ⟨by rw [len_flat], .inr ⟨g, cap, cur, by simp [Nat.min_eq_left hn], hb, hg, by simp; omega, h2, h3, ?_⟩⟩
    have hle : n * F.sz ≤ l.length * F.sz := Nat.mul_le_mul_right _ hn
    have e2 : (l.take n).length * F.sz = n * F.sz := by simp [Nat.min_eq_left hn]
    rw [e2]
    have e3 : cur.toList.take (n * F.sz) = (cur.toList.take (l.length * F.sz)).take (n * F.sz) := by rw [List.take_take, Nat.min_eq_left hle]
    rw [e3, h4]
    -- the first n elements' cells
    have key : ∀ (l : List α) (n : Nat), n ≤ l.length → (l.flatMap F.enc).take (n * F.sz) = (l.take n).flatMap F.enc := by
      intro l
      induction l with
      | nil => intro n hn; simp
      | cons x l ih =>
        intro n hn
        cases n with
        | zero => simp
        | succ n =>
          rw [List.flatMap_cons, List.take_succ_cons, List.flatMap_cons, List.take_append]
          rw [List.take_of_length_le (by rw [F.len, Nat.add_mul]; omega), F.len]
          congr 1
          rw [show (n + 1) * F.sz - F.sz = n * F.sz by rw [Nat.add_mul]; omega]
          exact ih n (by simpa using hn)
    exact key l n hn
theorem slSub_ownBlock {α : Type} {F : Flat α} {E : TypeId} {v : Value} {l : List α} {w : World} {n : Nat} (h : (Own F E v l).holds w) : (slSub v F.sz 0 n).ownBlock = v.ownBlock := by
  rcases h.2 with ⟨rfl, h0⟩ | ⟨g, cap, cur, rfl, hb, hg, h1, h2, h3, h4⟩
  · simp only [slSub, Option.map_none]
    split <;> rfl
  · have hz : (⟨g, 0, none⟩ : Addr).add (0 * F.sz) = ⟨g, 0, none⟩ := by rw [add_off _ rfl]; simp
    simp only [slSub, Option.map_some, hz]
    split <;> rfl
theorem St.cut {α : Type} {F : Flat α} {E : TypeId} {v : Value} {l : List α} {M : Nat → Prop} {w0 w : World} {Rs : List Res} (H : St M w0 w Rs) (i : Nat) (hi : Rs[i]? = some (Own F E v l)) (n : Nat) (hn : n ≤ l.length) :
    St M w0 w (Own F E (slSub v F.sz 0 n) (l.take n) :: Rs.eraseIdx i) :=
  H.upd i hi (fun k hk => by
    have e := slSub_ownBlock (F := F) (n := n) (H.get i hi)
    show v.ownBlock = some k
    rw [← e]; exact hk) (Own.cut (H.get i hi) hn) rfl rfl rfl rfl (fun _ _ => rfl)
section
variable {P : Program} {a : Act} {w : World} {o : Oper}
/-- s[lo:hi]; a bound that is not there is 0, the length. -/
theorem ev_slice {v : Value} {n : Nat} (hv : IsSl v n) (T : TypeId) (x : Operand) (lo hi : Option Operand) (E : TypeId) (sz by' : Nat) (l h : Int) (ho : o.op = .slice T x lo hi none) (hT : sE P T = some (E, sz, by', true)) (hx : a.eval x = v)
    (hl : (lo = none ∧ l = 0) ∨ ∃ y k, lo = some y ∧ a.eval y = .int k l) (hh : (hi = none ∧ h = n) ∨ ∃ y k, hi = some y ∧ a.eval y = .int k h) (hb : 0 ≤ l ∧ l ≤ h ∧ h ≤ n) :
    (execOp a.eval o).run P w = .ok (.value (slSub v sz l.toNat h.toNat)) w := by
  obtain ⟨ad, cap, rfl, hc1, hc2, hc3, hc4⟩ := hv
  obtain ⟨z, hT, _⟩ := sE_spec hT
  obtain ⟨hu, inf, hinf, hsz, _⟩ := sinfo_spec hT
  have hszr : (Go.sizeOf E).run P w = .ok sz w := by rw [← hsz]; exact run_sizeOf' hinf
  have hbh : ∀ k : IntKind, (Instr.sliceBound (.int k h) cap .sliceAcap).run P w = .ok h.toNat w := fun k => run_sliceBound w k h cap .sliceAcap (by omega) (by omega)
  have hbl : ∀ k : IntKind, (Instr.sliceBound (.int k l) h.toNat .sliceB).run P w = .ok l.toNat w := fun k => run_sliceBound w k l h.toNat .sliceB (by omega) (by omega)
  have hn : h = n → h.toNat = n := fun e => by omega
  simp only [execOp, ho, hx, Instr.sliceAt, Sem.run_bind, run_underlying hu, Result.andThen_ok, Instr.slice, Option.map_none]
  rcases hl with ⟨rfl, rfl⟩ | ⟨y, k, rfl, hy⟩ <;> rcases hh with ⟨rfl, rfl⟩ | ⟨y', k', rfl, hy'⟩
  · simp only [Option.map_none, Instr.sliceBounds, Sem.run_bind, Sem.run_pure, Result.andThen_ok, hszr, slSub, Int.toNat_zero, Int.toNat_natCast]
  · simp only [Option.map_none, Option.map_some, hy', Instr.sliceBounds, Sem.run_bind, Sem.run_pure, Result.andThen_ok, hbh, hszr, slSub, Int.toNat_zero, if_true, Bool.false_eq_true, if_false]
  · have hbl' := hbl k
    simp only [Int.toNat_natCast] at hbl'
    simp only [Option.map_none, Option.map_some, hy, Instr.sliceBounds, Sem.run_bind, Sem.run_pure, Result.andThen_ok, hbl', hszr, slSub, Option.isSome_none, Bool.false_eq_true, if_false, Int.toNat_natCast]
  · simp only [Option.map_some, Option.map_none, hy, hy', Instr.sliceBounds, Sem.run_bind, Sem.run_pure, Result.andThen_ok, hbh, hbl, hszr, slSub, Option.isSome_none, if_true, Bool.false_eq_true, if_false]
end
/-! ## New slices -/
section
variable {P : Program} {a : Act} {w : World} {ops : Array Oper} {o : Oper} {K : Act → World → Prop}
variable {M : Nat → Prop} {w0 : World} {Rs : List Res}
theorem St.newOwn {α : Type} {F : Flat α} {E : TypeId} {s : Value} {l : List α} {w' : World} (H : St M w0 w Rs) (ho : (Own F E s l).holds w') (hg : w.grownBy w' none) (hb : ∀ k, s.ownBlock = some k → w.heap.size ≤ k) :
    St M w0 w' (Own F E s l :: Rs) := by
  refine H.call0 (Rs' := [Own F E s l]) ⟨hg.os, hg.tape, hg.output, hg.size, fun k hk hn => hg.block k hk (by simp), by simpa using ho, ?_, by simp⟩
  simp only [List.mem_singleton, forall_eq]
  exact fun k hk => .inr (hb k hk)
/-- []T{..} -/
theorem Op1.lit {α : Type} {F : Flat α} {E : TypeId} (H : St M w0 w Rs) (hw : Region.wanted o (yielded ops a.tmps) = true) (l : List α)
    (hr : ∀ w, (execOp a.eval o).run P w = .ok (.value (.slice (some ⟨w.heap.size, 0, none⟩) l.length l.length)) (w.alloc (.cells (l.flatMap F.enc).toArray E))) (hm : l.length ≤ maxLen)
    (n : ∀ s w', St M w0 w' (Own F E s l :: Rs) → K (a.put o.dst s) w') : Op1 P ops o K a w := by
  refine .inr ⟨hw, .inl ⟨_, _, hr w, n _ _ (H.newOwn ?_ (World.grownBy_alloc w _ none) (fun k hk => by simp [Value.ownBlock] at hk; omega))⟩⟩
  have h := World.ownsRow_lit (base := 0) (e := E) (size := F.sz) w (l.flatMap F.enc).toArray l.length (Nat.zero_le _) hm (by rw [List.size_toArray, len_flat])
  simpa [Own] using h
end
/-! ## Results that lie in variables -/
section
variable {P : Program} {fn : Func} {tmps : Array Value} {w : World}
theorem results_cell {A T : Nat} {b : Addr} {v : Value} (h : fn.results = #[.cell A T]) (ha : tmps[A]?.getD undef = .pointer (some b)) (hl : (loadVar T b).run P w = .ok v w) : (results fn tmps).run P w = .ok v w := by
  simp [results, h, ha, asAddr, hl]
theorem results_cell_tmp {A T t : Nat} {b : Addr} {v u : Value} (h : fn.results = #[.cell A T, .tmp t]) (ha : tmps[A]?.getD undef = .pointer (some b)) (ht : tmps[t]?.getD undef = u) (hl : (loadVar T b).run P w = .ok v w) :
    (results fn tmps).run P w = .ok (.tuple #[v, u]) w := by
  simp [results, h, ha, asAddr, hl, ht]
end
end Gw
namespace Gw
open Go Go.RowKit
theorem piece_lo {l h n : Int} (g : 0 ≤ l ∧ l ≤ h ∧ h ≤ n) : l.toNat ≤ h.toNat := by omega
theorem piece_hi {l h : Int} {n : Nat} (g : 0 ≤ l ∧ l ≤ h ∧ h ≤ (n : Int)) : h.toNat ≤ n := by omega
theorem app_len {m b : Nat} (g : m * b ≤ 140737488355328) (hb : Nat.ble 1 b = true) : m * b ≤ 140737488355328 ∧ m ≤ maxLen := by
  refine ⟨g, ?_⟩
  have hb' := Nat.le_of_ble_eq_true hb
  have h := Nat.mul_le_mul_left m hb'
  unfold maxLen
  omega
theorem CellsAt.below {w w' : World} {a : Addr} {cs : List Value} (h : CellsAt (fun b => w.heap[b]?) a cs) (hb : Below w.heap.size w w') : CellsAt (fun b => w'.heap[b]?) a cs :=
  h.mono' fun b o hbo => by rw [hb.block b (lt_of_heap hbo)]; exact hbo
theorem CellsAt.arg0 {M : Nat → Prop} {w0 w : World} {Rs : List Res} {a : Addr} {cs : List Value} (h : CellsAt (hp M w0) a cs) (H : St M w0 w Rs) : CellsAt (hp no w) a cs :=
  h.mono' fun b o hbo => by rw [hp_no]; exact H.hp_le b o hbo
/-- A function value that computes q, in whatever memory C says. -/
structure FnOk {α β : Type} (P : Program) (F : Flat α) (G : Flat β) (C : World → Prop) (fv : Value) (q : α → Option β) : Prop where
  ok : ∃ k cap, fv = .func (.func k) #[] cap ∧ (∀ args w, (callFunc k args).run P w = .ok (.enter k args) w) ∧
    ∀ w x y, C w → q x = some y → Ret P k (#[F.val x] ++ cap) w (fun v w' => v = G.val y ∧ St no w w' [])
  stable : ∀ w w', C w → Below w.heap.size w w' → C w'
theorem fnOk_mk {α β : Type} {P : Program} {F : Flat α} {G : Flat β} {C : World → Prop} {q : α → Option β} {cap : Array Value} (k : Nat)
    (hk : ∀ args w, (callFunc k args).run P w = .ok (.enter k args) w) (hs : ∀ w w', C w → Below w.heap.size w w' → C w')
    (h : ∀ w x y, C w → q x = some y → Ret P k (#[F.val x] ++ cap) w (fun v w' => v = G.val y ∧ St no w w' [])) : FnOk P F G C (.func (.func k) #[] cap) q := ⟨⟨k, cap, rfl, hk, h⟩, hs⟩
theorem FnOk.op1 {α β : Type} {P : Program} {F : Flat α} {G : Flat β} {C : World → Prop} {fv : Value} {q : α → Option β} {w0 w : World} {Rs : List Res} {a : Act} {ops : Array Oper} {o : Oper} {K : Act → World → Prop} {x : α} {y : β}
    (hf : FnOk P F G C fv q) (hC : C w0) (H : St no w0 w Rs) (hq : q x = some y) (hw : Region.wanted o (yielded ops a.tmps) = true) {X Y : Operand} {ats : Array TypeId}
    (ho : o.op = .call ⟨.value X, #[Y], ats⟩) (hX : a.eval X = fv) (hY : a.eval Y = F.val x)
    (n : ∀ v w', (v = G.val y ∧ St no w w' []) → K (a.put o.dst v) w') : Op1 P ops o K a w := by
  obtain ⟨k, cap, rfl, hk, h⟩ := hf.ok
  refine Op1.call hw (f := k) (args := #[F.val x] ++ cap) ?_ (h w x y (hf.stable _ _ hC H.below) hq) n
  simp only [execOp, ho, resolve, hX, hY, Sem.run_bind, Deferred.ofValue, Sem.run_pure, Result.andThen_ok, invoke, List.map_toArray, List.map_cons, List.map_nil]
  exact hk _ _
end Gw
namespace Gw
open Go
theorem flat_one1 {α : Type} (F : Flat α) (x : α) : ∀ u ∈ (F.val x).cells.toList, u.oneCell' = true := by
  rw [F.cells]
  simpa using F.one x
end Gw
namespace Gw
open Go Go.RowKit
end Gw
namespace Gw
open Go Go.RowKit
section
variable {P : Program} {a : Act} {w : World} {ops : Array Oper} {o : Oper} {K : Act → World → Prop}
variable {M : Nat → Prop} {w0 : World} {Rs : List Res}
theorem stl_mid (pre mid post vs : List Value) (off : Nat) (h : off + vs.length ≤ mid.length) : stl (pre ++ mid ++ post) (pre.length + off) vs = pre ++ stl mid off vs ++ post := by
  apply List.ext_getElem?
  intro k
  rw [stl_get (by simp; omega)]
  have hl := stl_len (cs := mid) (off := off) (vs := vs) h
  by_cases h1 : k < pre.length
  · have e1 : k < pre.length + off := by omega
    rw [if_pos e1, List.append_assoc, List.append_assoc, List.getElem?_append_left h1, List.getElem?_append_left h1]
  · by_cases h2 : k < pre.length + mid.length
    · have r1 : (pre ++ mid ++ post)[k]? = mid[k - pre.length]? := by
        rw [List.append_assoc, List.getElem?_append_right (by omega), List.getElem?_append_left (by omega)]
      have r2 : (pre ++ stl mid off vs ++ post)[k]? = (stl mid off vs)[k - pre.length]? := by
        rw [List.append_assoc, List.getElem?_append_right (by omega), List.getElem?_append_left (by omega)]
      rw [r1, r2, stl_get h]
      by_cases h3 : k < pre.length + off
      · rw [if_pos h3, if_pos (show k - pre.length < off by omega)]
      · rw [if_neg h3, if_neg (show ¬ k - pre.length < off by omega)]
        by_cases h4 : k < pre.length + off + vs.length
        · rw [if_pos h4, if_pos (show k - pre.length < off + vs.length by omega)]; congr 1; omega
        · rw [if_neg h4, if_neg (show ¬ k - pre.length < off + vs.length by omega)]
    · have r1 : (pre ++ mid ++ post)[k]? = post[k - pre.length - mid.length]? := by
        rw [List.append_assoc, List.getElem?_append_right (by omega), List.getElem?_append_right (by omega)]
      have r2 : (pre ++ stl mid off vs ++ post)[k]? = post[k - pre.length - mid.length]? := by
        rw [List.append_assoc, List.getElem?_append_right (by omega), List.getElem?_append_right (by omega), hl]
      rw [if_neg (show ¬ k < pre.length + off by omega), if_neg (show ¬ k < pre.length + off + vs.length by omega), r1, r2]
/-- A store into an element of an array that lies in a variable of one's own. -/
theorem Op1.storeBoxI {α : Type} (F : Flat α) {b : Nat} {cs : Array Value} {E : TypeId} (H : St M w0 w Rs) (i : Nat) (hi : Rs[i]? = some (Box b cs E)) (hw : Region.wanted o (yielded ops a.tmps) = true)
    (T : TypeId) (x y : Operand) (base : Nat) (es : List α) (pre post : List Value) (j : Nat) (v : α) (ag : Bool) (ho : o.op = .store T x y)
    (hcs : cs.toList = pre ++ es.flatMap F.enc ++ post) (hpre : pre.length = base) (hx : a.eval x = va (((⟨b, 0, none⟩ : Addr).add base).add (j * F.sz))) (hy : a.eval y = F.val v)
    (ht : tsz P T = some (ag, F.sz)) (hj : j < es.length) (es' : List α) (hes : es.set j v = es') (cs' : Array Value) (hcs' : (pre ++ es'.flatMap F.enc ++ post).toArray = cs')
    (n : ∀ w', St M w0 w' (Box b cs' E :: Rs.eraseIdx i) → K (a.put o.dst undef) w') : Op1 P ops o K a w := by
  have hb := H.get i hi
  have hcl : (F.val v).cells.size = F.sz := by rw [F.cells]; simp [F.len]
  have hle : j * F.sz + F.sz ≤ es.length * F.sz := by
    have := Nat.mul_le_mul_right F.sz (show j + 1 ≤ es.length from hj)
    rw [Nat.add_mul] at this
    omega
  have hsize : cs.size = pre.length + es.length * F.sz + post.length := by
    rw [← Array.length_toList, hcs, List.length_append, List.length_append, len_flat]
  have hs := run_storeAt (P := P) (w := w) (b := b) (off := base + j * F.sz) (cs := cs) (E := E) (T := T) (v := F.val v) (ag := ag) hb (by rw [hcl]; exact ht)
    (by rw [F.cells]; simpa using F.one v) (by rw [hcl]; omega)
  have hst : (stl cs.toList (base + j * F.sz) (F.val v).cells.toList).toArray = cs' := by
    rw [F.cells, ← hcs', ← hes, hcs, ← hpre]
    congr 1
    simp only []
    rw [stl_mid _ _ _ _ _ (by rw [F.len, len_flat]; exact hle), set_flat F es j v hj]
  rw [hst] at hs
  have e : ((⟨b, 0, none⟩ : Addr).add base).add (j * F.sz) = ⟨b, base + j * F.sz, none⟩ := by rw [add_add _ rfl, add_off _ rfl]; simp
  rw [e] at hx
  refine .inr ⟨hw, .inr (.inl ⟨w.setRow b cs', ?_, n _ (H.upd i hi (R' := Box b cs' E) (fun _ h => h) (setRow_heap w b cs cs' E (0, 0) hb) rfl rfl rfl (by simp [World.setRow]) (fun k hk => setRow_other w b k cs' hk))⟩)⟩
  simp only [execOp, ho, hx, hy, Instr.storeAt, Instr.sureAddr, Sem.run_bind, Sem.run_pure, Result.andThen, hs]
end
section
variable {α β : Type}
def ls4 (l : List α) (f : α → α → α → α → Option β) : Option β := match l with | [a, b, c, d] => f a b c d | _ => none
def ls8 (l : List α) (f : α → α → α → α → α → α → α → α → Option β) : Option β := match l with | [a, b, c, d, e, g, h, i] => f a b c d e g h i | _ => none
theorem ls4_some {l : List α} {f : α → α → α → α → Option β} {r : β} (h : ls4 l f = some r) : ∃ a b c d, l = [a, b, c, d] ∧ f a b c d = some r := by
  unfold ls4 at h; split at h
  · exact ⟨_, _, _, _, rfl, h⟩
  · cases h
theorem ls8_some {l : List α} {f : α → α → α → α → α → α → α → α → Option β} {r : β} (h : ls8 l f = some r) : ∃ a b c d e g i j, l = [a, b, c, d, e, g, i, j] ∧ f a b c d e g i j = some r := by
  unfold ls8 at h; split at h
  · exact ⟨_, _, _, _, _, _, _, _, rfl, h⟩
  · cases h
end
end Gw
