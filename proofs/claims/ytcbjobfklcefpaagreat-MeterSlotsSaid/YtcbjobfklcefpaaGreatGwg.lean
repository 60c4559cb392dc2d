import Derived.Test.YtcbjobfklcefpaaGreatGwit
import Derived.ProofKit
import Derived.OpenShut
import Derived.Deep.Slices
set_option linter.unusedVariables false
namespace Gw
open Go Go.RowKit
/-! ### From a reading as data to a list -/
def Opens {α : Type} (P : Program) (t : TypeId) (cs : α → List Value) (wf : α → Prop) : Prop :=
  ∀ (H : Type) (enc : TypeId × Value → H) (w : World) (base : Nat) (sp : Nat → Bool) (held : Bool) (n : Nat) (c : List Value) (x : DataW H × List MemPlace),
    DataW.trod enc P w base sp held n t c = some x → ∃ a, c = cs a ∧ wf a
theorem opens_int {P : Program} {t : TypeId} {k : IntKind} (ht : P.underlying t = some (.int k)) : Opens P t (fun n => [.int k n]) (fun n => (Lit.int k n).wf = true) := by
  intro H enc w base sp held n c x h
  obtain ⟨a, rfl, _, hw⟩ := DataW.trod_int ht h
  exact ⟨a, rfl, hw⟩
theorem len8 {α : Type} {l : List α} (h : l.length = 8) : ∃ a b c d e f g i, l = [a, b, c, d, e, f, g, i] := by
  match l, h with
  | [a, b, c, d, e, f, g, i], _ => exact ⟨a, b, c, d, e, f, g, i, rfl⟩
section
variable {H : Type} {enc : TypeId × Value → H} {P : Program} {w : World} {base : Nat} {sp : Nat → Bool} {held : Bool}
theorem field_at {fs : Array Field} {n : Nat} {c : List Value} {xs : List (DataW H × List MemPlace)}
    (hf : ∀ (i : Nat) (f : Field), fs[i]? = some f → DataW.trod enc P w base sp held n f.type ((c.drop f.offset).take (P.cellsOf f.type)) = xs[i]?)
    (hx : xs.length = fs.size) (i : Nat) (T : TypeId) (off sz : Nat) (h1 : (fs[i]?).map (fun f => (f.type, f.offset)) = some (T, off)) (h2 : P.cellsOf T = sz) :
    ∃ y, DataW.trod enc P w base sp held n T ((c.drop off).take sz) = some y ∧ xs[i]? = some y := by
  cases h : fs[i]? with
  | none => simp [h] at h1
  | some f =>
    simp only [h, Option.map_some, Option.some.injEq, Prod.mk.injEq] at h1
    obtain ⟨rfl, rfl⟩ := h1
    have hi : i < xs.length := by rw [hx]; exact (Array.getElem?_eq_some_iff.1 h).1
    have := hf i f h
    rw [h2, List.getElem?_eq_getElem hi] at this
    exact ⟨xs[i], this, List.getElem?_eq_getElem hi⟩
theorem mapM_get {f : Nat → Option Value} : ∀ {l : List Nat} {cs : List Value}, l.mapM f = some cs → ∀ (j : Nat) (u : Value), cs[j]? = some u → ∃ i : Nat, l[j]? = some i ∧ f i = some u
  | [], cs, h, j, u, hu => by simp at h; subst h; simp at hu
  | a :: l, cs, h, j, u, hu => by
    rw [List.mapM_cons] at h
    simp only [Option.pure_def, Option.bind_eq_bind, Option.bind_eq_some_iff, Option.some.injEq] at h
    obtain ⟨v, hv, vs, hvs, rfl⟩ := h
    cases j with
    | zero => simp at hu; subst hu; exact ⟨a, rfl, hv⟩
    | succ j => simpa using mapM_get hvs j u (by simpa using hu)
theorem cells_at {a : Addr} {n : Nat} {cs : List Value} (h : w.cells? base a n = some cs) (hn : 0 < cs.length) : CellsAt (fun b => w.heap[b]?) a cs := by
  unfold World.cells? at h
  split at h
  · have key : ∀ (j : Nat) (u : Value), cs[j]? = some u → w.cell? (a.add j) = some u := by
      intro j u hu
      obtain ⟨i, hi, hf⟩ := mapM_get h j u hu
      have : i = j := by
        have := List.getElem?_eq_some_iff.1 hi
        obtain ⟨_, e⟩ := this
        simpa using e.symm
      subst this; exact hf
    have h0 := key 0 cs[0] (List.getElem?_eq_getElem hn)
    have hsp : a.spot = none := by
      unfold World.cell? at h0
      have e : a.add 0 = a := by simp [Addr.add]
      rw [e] at h0
      split at h0
      · split at h0
        · simp at h0
        · rename_i hs; simpa using hs
      · simp at h0
    refine ⟨hsp, ?_⟩
    have e0 : a.add 0 = a := by simp [Addr.add]
    rw [e0] at h0
    cases hb : w.heap[a.block]? with
    | none => simp [World.cell?, hb] at h0
    | some o =>
      cases o with
      | cells c E fz =>
        refine ⟨c, E, fz, hb, fun j u hu => ?_⟩
        have := key j u hu
        rw [add_off _ hsp] at this
        simpa [World.cell?, hb] using this
      | _ => simp [World.cell?, hb] at h0
  · simp at h
end
end Gw
