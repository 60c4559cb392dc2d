import Derived.Test.YtcbjobfklcefpaaGwit
import Derived.ProofKit
import Derived.OpenShut
import Derived.Deep.Slices
set_option linter.unusedVariables false
namespace Gw
open Go Go.RowKit
/-! ### From a reading as data to a list -/

def Opens {α : Type} (P : Program) (t : TypeId) (cs : α → List Value) (wf : α → Prop) : Prop :=
  ∀ (H : Type) (enc : TypeId × Value → H) (w : World) (base : Nat) (sp : Nat → Bool) (held : Bool) (n : Nat) (c : List Value) (x : DataW H × List MemPlace),
    DataW.trod enc P w base sp held n t c = some x → ∃ a, c = cs a ∧ wf a

theorem opens_int {P : Program} {t : TypeId} {k : IntKind} (ht : P.underlying t = some (.int k)) : Opens P t (fun n => [.int k n]) (fun n => (Lit.int k n).wf = true) := by
  intro H enc w base sp held n c x h
  obtain ⟨a, rfl, _, hw⟩ := DataW.trod_int ht h
  exact ⟨a, rfl, hw⟩

theorem opens_bool {P : Program} {t : TypeId} (ht : P.underlying t = some .bool) : Opens P t (fun b => [.bool b]) (fun _ => True) := by
  intro H enc w base sp held n c x h
  cases n with
  | zero => simp [DataW.trod] at h
  | succ n =>
    unfold DataW.trod at h
    rw [ht] at h
    split at h <;> simp_all

theorem len1 {α : Type} {l : List α} (h : l.length = 1) : ∃ a, l = [a] := by
  match l, h with
  | [a], _ => exact ⟨a, rfl⟩
theorem len2 {α : Type} {l : List α} (h : l.length = 2) : ∃ a b, l = [a, b] := by
  match l, h with
  | [a, b], _ => exact ⟨a, b, rfl⟩
theorem len3 {α : Type} {l : List α} (h : l.length = 3) : ∃ a b c, l = [a, b, c] := by
  match l, h with
  | [a, b, c], _ => exact ⟨a, b, c, rfl⟩
theorem len4 {α : Type} {l : List α} (h : l.length = 4) : ∃ a b c d, l = [a, b, c, d] := by
  match l, h with
  | [a, b, c, d], _ => exact ⟨a, b, c, d, rfl⟩
theorem len5 {α : Type} {l : List α} (h : l.length = 5) : ∃ a b c d e, l = [a, b, c, d, e] := by
  match l, h with
  | [a, b, c, d, e], _ => exact ⟨a, b, c, d, e, rfl⟩
theorem len6 {α : Type} {l : List α} (h : l.length = 6) : ∃ a b c d e f, l = [a, b, c, d, e, f] := by
  match l, h with
  | [a, b, c, d, e, f], _ => exact ⟨a, b, c, d, e, f, rfl⟩
theorem len7 {α : Type} {l : List α} (h : l.length = 7) : ∃ a b c d e f g, l = [a, b, c, d, e, f, g] := by
  match l, h with
  | [a, b, c, d, e, f, g], _ => exact ⟨a, b, c, d, e, f, g, rfl⟩
theorem len8 {α : Type} {l : List α} (h : l.length = 8) : ∃ a b c d e f g i, l = [a, b, c, d, e, f, g, i] := by
  match l, h with
  | [a, b, c, d, e, f, g, i], _ => exact ⟨a, b, c, d, e, f, g, i, rfl⟩

section
variable {H : Type} {enc : TypeId × Value → H} {P : Program} {w : World} {base : Nat} {sp : Nat → Bool} {held : Bool}

theorem field_at {fs : Array Field} {n : Nat} {c : List Value} {xs : List (DataW H × List MemPlace)}
    (hf : ∀ (i : Nat) (f : Field), fs[i]? = some f → DataW.trod enc P w base sp held n f.type ((c.drop f.offset).take (P.cellsOf f.type)) = xs[i]?)
    (hx : xs.length = fs.size) (i : Nat) (T : TypeId) (off sz : Nat) (h1 : (fs[i]?).map (fun f => (f.type, f.offset)) = some (T, off)) (h2 : P.cellsOf T = sz) :
    ∃ y, DataW.trod enc P w base sp held n T ((c.drop off).take sz) = some y ∧ xs[i]? = some y := by
  cases h : fs[i]? with
  | none => simp [h] at h1
  | some f =>
    simp only [h, Option.map_some, Option.some.injEq, Prod.mk.injEq] at h1
    obtain ⟨rfl, rfl⟩ := h1
    have hi : i < xs.length := by rw [hx]; exact (Array.getElem?_eq_some_iff.1 h).1
    have := hf i f h
    rw [h2, List.getElem?_eq_getElem hi] at this
    exact ⟨xs[i], this, List.getElem?_eq_getElem hi⟩

theorem elem_at {k e : TypeId} {n m : Nat} {c : List Value} {xs : List (DataW H × List MemPlace)}
    (hf : ∀ (i : Nat), i < n → DataW.trod enc P w base sp held m e ((c.drop (i * P.cellsOf e)).take (P.cellsOf e)) = xs[i]?)
    (hx : xs.length = n) (i sz : Nat) (h2 : P.cellsOf e = sz) (hi : i < n) :
    ∃ y, DataW.trod enc P w base sp held m e ((c.drop (i * sz)).take sz) = some y := by
  have := hf i hi
  rw [h2, List.getElem?_eq_getElem (by omega)] at this
  exact ⟨_, this⟩

theorem mapM_get {f : Nat → Option Value} : ∀ {l : List Nat} {cs : List Value}, l.mapM f = some cs → ∀ (j : Nat) (u : Value), cs[j]? = some u → ∃ i : Nat, l[j]? = some i ∧ f i = some u
  | [], cs, h, j, u, hu => by simp at h; subst h; simp at hu
  | a :: l, cs, h, j, u, hu => by
    rw [List.mapM_cons] at h
    simp only [Option.pure_def, Option.bind_eq_bind, Option.bind_eq_some_iff, Option.some.injEq] at h
    obtain ⟨v, hv, vs, hvs, rfl⟩ := h
    cases j with
    | zero => simp at hu; subst hu; exact ⟨a, rfl, hv⟩
    | succ j => simpa using mapM_get hvs j u (by simpa using hu)

theorem cells_at {a : Addr} {n : Nat} {cs : List Value} (h : w.cells? base a n = some cs) (hn : 0 < cs.length) : CellsAt (fun b => w.heap[b]?) a cs := by
  unfold World.cells? at h
  split at h
  · have key : ∀ (j : Nat) (u : Value), cs[j]? = some u → w.cell? (a.add j) = some u := by
      intro j u hu
      obtain ⟨i, hi, hf⟩ := mapM_get h j u hu
      have : i = j := by
        have := List.getElem?_eq_some_iff.1 hi
        obtain ⟨_, e⟩ := this
        simpa using e.symm
      subst this; exact hf
    have h0 := key 0 cs[0] (List.getElem?_eq_getElem hn)
    have hsp : a.spot = none := by
      unfold World.cell? at h0
      have e : a.add 0 = a := by simp [Addr.add]
      rw [e] at h0
      split at h0
      · split at h0
        · simp at h0
        · rename_i hs; simpa using hs
      · simp at h0
    refine ⟨hsp, ?_⟩
    have e0 : a.add 0 = a := by simp [Addr.add]
    rw [e0] at h0
    cases hb : w.heap[a.block]? with
    | none => simp [World.cell?, hb] at h0
    | some o =>
      cases o with
      | cells c E fz =>
        refine ⟨c, E, fz, hb, fun j u hu => ?_⟩
        have := key j u hu
        rw [add_off _ hsp] at this
        simpa [World.cell?, hb] using this
      | _ => simp [World.cell?, hb] at h0
  · simp at h

/-- A slice that reads as data, of elements that open, reads as a list. -/
theorem rd_of_trod {α : Type} {F : Flat α} {wf : α → Prop} {t e : TypeId} {fuel b0 : Nat} {v : Value} {x : DataW H × List MemPlace} (ht : P.underlying t = some (.slice e)) (ho : Opens P e F.enc wf) (hsz : P.cellsOf e = F.sz)
    (h : DataW.trod enc P w base sp held fuel t [v] = some x) (hok : Cell.okWide P w .any b0 t v) : ∃ l, Rd F (hp no w) v l ∧ ∀ y ∈ l, wf y := by
  rw [hp_no]
  rcases Go.Deep.open_slice ht h with ⟨hv, _⟩ | ⟨a, len, cap, m, n, D, Pl, hv, hb, hlc, hcm, hm, _, hel⟩
  · simp only [List.cons.injEq, and_true] at hv
    subst hv
    exact ⟨[], ⟨⟨none, 0, rfl, Nat.le_refl _, Nat.zero_le _, fun _ => rfl, fun _ h => by cases h⟩, fun i x hx => by simp at hx⟩, fun y hy => by simp at hy⟩
  · simp only [List.cons.injEq, and_true] at hv
    subst hv
    have hlm : len ≤ m := by rw [hm]; split <;> omega
    have hspot : a.spot = none := by
      simp only [Cell.okWide, ht, Cell.ok] at hok
      exact hok.2.2.2.1
    have build : ∀ k, k ≤ len → ∃ l : List α, l.length = k ∧ (∀ i x, l[i]? = some x → CellsAt (fun b => w.heap[b]?) (a.add (i * F.sz)) (F.enc x)) ∧ ∀ y ∈ l, wf y := by
      intro k
      induction k with
      | zero => exact fun _ => ⟨[], rfl, fun i x hx => by simp at hx, fun y hy => by simp at hy⟩
      | succ k ih =>
        intro hk
        obtain ⟨l, hl, h1, h2⟩ := ih (by omega)
        obtain ⟨cs', hc, hd⟩ := hel k (by omega)
        obtain ⟨y, rfl, hwy⟩ := ho _ _ _ _ _ _ _ _ _ hd
        rw [hsz] at hc
        refine ⟨l ++ [y], by simp [hl], fun i x hx => ?_, fun z hz => ?_⟩
        · by_cases hi : i < l.length
          · rw [List.getElem?_append_left hi] at hx; exact h1 i x hx
          · have : i = l.length := by
              have := (List.getElem?_eq_some_iff.1 hx).1; simp at this; omega
            subst this
            simp at hx; subst hx
            rw [hl]
            exact cells_at hc (by rw [F.len]; exact F.pos)
        · rcases List.mem_append.1 hz with hz | hz
          · exact h2 z hz
          · rw [List.mem_singleton.1 hz]; exact hwy
    obtain ⟨l, hl, h1, h2⟩ := build len (Nat.le_refl _)
    refine ⟨l, ⟨⟨some a, cap, by rw [hl], by omega, hcm, by simp, fun ad hd _ => by cases hd; exact hspot⟩, fun i x hx => ?_⟩, h2⟩
    have := h1 i x hx
    exact this
/-- A cell of a struct that may come in. -/
theorem okWide_cell {P : Program} {w : World} {r : Reach} {b0 : Nat} {t : TypeId} {fs : Array Field} {cs : Array Value} {ts : List TypeId} (hs : P.underlying t = some (.struct fs)) (hts : P.cellTypes P.depth t = some ts)
    (h : Value.okWide P w r b0 t (.agg cs)) (i : Nat) (u : TypeId) (v : Value) (hu : ts[i]? = some u) (hv : cs[i]? = some v) : Cell.okWide P w r b0 u v := by
  simp only [Value.okWide, hs] at h
  obtain ⟨cs', e, _, ts', h1, _, h2⟩ := h
  cases e
  rw [hts] at h1
  cases h1
  obtain ⟨u', hu', hc⟩ := h2 i v hv
  rw [Nat.mod_eq_of_lt (List.getElem?_eq_some_iff.1 hu).1, hu] at hu'
  cases hu'
  exact hc

end
end Gw
