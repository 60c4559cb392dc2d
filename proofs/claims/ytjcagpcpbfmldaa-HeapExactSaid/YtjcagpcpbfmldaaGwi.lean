import Derived.Test.YtjcagpcpbfmldaaGwh
set_option linter.unusedVariables false
/-! Operations of a region of any order that look at nothing, many at once. -/
namespace Gw
open Go Go.RowKit
section
variable {P : Program} {ops : Array Oper} {M : Act → World → Prop} {w : World}
def pureR (P : Program) {α : Type} : Sem α → Option α
  | .pure a => some a
  | .program k => pureR P (k P)
  | .mark _ k => pureR P k
  | _ => none
theorem pureR_run {α : Type} {s : Sem α} {v : α} (h : pureR P s = some v) (w : World) : s.run P w = .ok v w := by
  induction s with
  | pure a => cases h; rfl
  | program k ih => exact ih P h
  | mark x k ih => exact ih h
  | _ => cases h
/-- no call of a function -/
def calm (o : Oper) : Bool := match o.op with
  | .call c => match c.callee with
    | .builtin .len => true
    | _ => false
  | _ => true
theorem calm_about {o : Oper} (h : calm o = true) (w : World) (ρ : Operand → Value) : o.about P w ρ = none := by
  unfold calm at h
  unfold Oper.about
  split at h
  · rename_i c hc
    split at h
    · rename_i hb
      simp [hc, resolve, hb]
      rfl
    · cases h
  · rename_i hn
    split
    · rename_i c hc; exact absurd hc (hn c)
    · rfl
def PA (P : Program) (ops : Array Oper) (K : Array Bool → Act → Prop) : List Nat → Array Bool → Act → Prop
  | [], l, a => K l a
  | i :: is, l, a => match ops[i]? with
    | none => False
    | some o => match (Region.noSelect ops && Region.free .any ops l i && (Region.ready .any ops l).contains i) && calm o with
      | false => False
      | true => match Region.wanted o (yielded ops a.tmps) with
        | false => PA P ops K is (l.setIfInBounds i true) (a.put o.dst undef)
        | true => match pureR P (execOp a.eval o) with
          | some (.value v) => PA P ops K is (l.setIfInBounds i true) (a.put o.dst v)
          | _ => False
theorem WA.runs_aux (n : Nat) : ∀ (is : List Nat) (l : Array Bool) (a : Act), PA P ops (fun l' a' => WA P ops M n l' a' w) is l a → WA P ops M (n + is.length) l a w := by
  intro is
  induction is with
  | nil => intro l a h; exact h
  | cons i is ih =>
    intro l a h
    unfold PA at h
    cases ho : ops[i]? with
    | none => rw [ho] at h; exact h.elim
    | some o =>
      rw [ho] at h
      simp only at h
      cases hs : (Region.noSelect ops && Region.free .any ops l i && (Region.ready .any ops l).contains i) && calm o with
      | false => rw [hs] at h; exact h.elim
      | true =>
        rw [hs] at h
        simp only at h
        rw [Bool.and_eq_true] at hs
        obtain ⟨hs, hc⟩ := hs
        cases hw : Region.wanted o (yielded ops a.tmps) with
        | false =>
          rw [hw] at h
          exact WA.takeOff i ho hs hw (fun w => calm_about hc w _) rfl (ih _ _ h)
        | true =>
          rw [hw] at h
          simp only at h
          cases hr : pureR P (execOp a.eval o) with
          | none => rw [hr] at h; exact h.elim
          | some x =>
            rw [hr] at h
            cases x <;> first
              | exact WA.take i ho hs hw (fun w => pureR_run hr w) (fun w => calm_about hc w _) rfl (ih _ _ h)
              | exact h.elim
/-- these operations at once: where they lead to is said, and the kernel looks -/
theorem WA.runs {n m : Nat} {l : Array Bool} {a : Act} (is : List Nat) (l' : Array Bool) (a' : Act) (hm : n + is.length = m) (hk : ∀ K : Array Bool → Act → Prop, PA P ops K is l a = K l' a') (h : WA P ops M n l' a' w) : WA P ops M m l a w := by
  subst hm
  exact WA.runs_aux n is l a (by rw [hk]; exact h)
def putsL (ops : Array Oper) (a : Act) : List (Nat × Option Value) → Act
  | [] => a
  | (i, v) :: p => putsL ops (a.put ((ops[i]?).bind (·.dst)) (v.getD undef)) p
theorem WA.runs2 {n m : Nat} {l : Array Bool} {a : Act} (plan : List (Nat × Option Value)) (l' : Array Bool) (hm : n + plan.length = m) (hk : ∀ K : Array Bool → Act → Prop, PA P ops K (plan.map (·.1)) l a = K l' (putsL ops a plan))
    (h : WA P ops M n l' (putsL ops a plan) w) : WA P ops M m l a w :=
  WA.runs (plan.map (·.1)) l' _ (by simpa using hm) hk h
end
end Gw
