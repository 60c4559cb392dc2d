import Derived.Test.YtcbjobfklcefpaaGreatGwit
import Derived.Test.YtcbjobfklcefpaaGreatGwg
set_option linter.unusedVariables false
namespace Gw
open Go Go.RowKit
/-! From a reading as data to a list, of elements that have slices; what is read is not greater than what is reached -/
def light {H : Type} (P : Program) (t : TypeId) (d : DataW H) : Prop := ∀ n ∈ d.weights P t, n ≤ reachBytes
def OpensW {α : Type} (P : Program) (t : TypeId) (rel : Hp → α → List Value → Prop) (wf : α → Prop) : Prop :=
  ∀ (H : Type) (enc : TypeId × Value → H) (w : World) (base : Nat) (held : Bool) (n : Nat) (c : List Value) (x : DataW H × List MemPlace),
    DataW.trod enc P w base (fun _ => true) held n t c = some x → light P t x.1 → ∃ a, rel (hp no w) a c ∧ wf a
theorem OpensW.of {α : Type} {P : Program} {t : TypeId} {cs : α → List Value} {wf : α → Prop} (h : Opens P t cs wf) : OpensW P t (fun _ a c => c = cs a) wf :=
  fun H enc w base held n c x hx _ => h H enc w base _ held n c x hx
theorem weightsAll_mem {H : Type} {P : Program} {e : TypeId} : ∀ {l : List (DataW H)} {d : DataW H}, d ∈ l → ∀ n ∈ d.weights P e, n ∈ DataW.weightsAll P e l
  | a :: l, d, hd, n, hn => by
    unfold DataW.weightsAll
    rcases List.mem_cons.1 hd with rfl | hd
    · exact List.mem_append_left _ hn
    · exact List.mem_append_right _ (weightsAll_mem hd n hn)
theorem light_slice {H : Type} {P : Program} {t e : TypeId} {elems spare : List (DataW H)} (ht : P.underlying t = some (.slice e)) (h : light P t (.slice elems spare)) :
    (elems.length + spare.length) * P.bytesOf e ≤ reachBytes ∧ ∀ d ∈ elems ++ spare, light P e d := by
  unfold light at h
  rw [DataW.weights, ht] at h
  simp only at h
  refine ⟨h _ (List.mem_cons_self ..), fun d hd n hn => h n (List.mem_cons_of_mem _ ?_)⟩
  rcases List.mem_append.1 hd with hd | hd
  · exact List.mem_append_left _ (weightsAll_mem hd n hn)
  · exact List.mem_append_right _ (weightsAll_mem hd n hn)
section
variable {H : Type} {enc : TypeId × Value → H} {P : Program} {w : World} {base : Nat} {held : Bool}
theorem sl_of_trod {α : Type} {rel : Hp → α → List Value → Prop} {sz : Nat} {wf : α → Prop} {t e : TypeId} {fuel : Nat} {c : List Value} {x : DataW H × List MemPlace} (hlen : ∀ h a c, rel h a c → c.length = sz) (hpos : 0 < sz)
    (ht : P.underlying t = some (.slice e)) (ho : OpensW P e rel wf) (hsz : P.cellsOf e = sz)
    (h : DataW.trod enc P w base (fun _ => true) held fuel t c = some x) (hx : light P t x.1) :
    ∃ (v : Value) (l : List α), c = [v] ∧ IsSl v l.length ∧ (∀ i y, l[i]? = some y → ∃ cs, rel (fun b => w.heap[b]?) y cs ∧ CellsAt (fun b => w.heap[b]?) (slAt v sz i) cs) ∧ (∀ y ∈ l, wf y) ∧ l.length * P.bytesOf e ≤ reachBytes := by
  rcases Go.Deep.open_slice ht h with ⟨hv, _⟩ | ⟨a, len, cap, m, n, D', Pl, hv, hb, hlc, hcm, hm, hxe, hel⟩
  · subst hv
    exact ⟨_, [], rfl, ⟨none, 0, rfl, Nat.le_refl _, Nat.zero_le _, fun _ => rfl, fun _ h => by cases h⟩, fun i y hy => by simp at hy, fun y hy => by simp at hy, by simp⟩
  · subst hv
    simp only [if_true] at hm
    subst hm
    rw [hxe] at hx
    obtain ⟨hw, hd⟩ := light_slice ht hx
    simp only [List.length_map, List.length_range] at hw
    have el : ∀ i, i < m → ∃ (y : α) (cs : List Value), rel (fun b => w.heap[b]?) y cs ∧ CellsAt (fun b => w.heap[b]?) (a.add (i * sz)) cs ∧ wf y := by
      intro i hi
      obtain ⟨cs', hc, hd'⟩ := hel i hi
      have hli : light P e (D' i) := by
        by_cases h1 : i < len
        · exact hd _ (List.mem_append_left _ (List.mem_map.2 ⟨i, List.mem_range.2 h1, rfl⟩))
        · exact hd _ (List.mem_append_right _ (List.mem_map.2 ⟨i - len, List.mem_range.2 (by omega), by rw [show len + (i - len) = i by omega]⟩))
      obtain ⟨y, hr, hwy⟩ := ho _ _ _ _ _ _ _ _ hd' hli
      rw [hp_no] at hr
      rw [hsz] at hc
      exact ⟨y, cs', hr, cells_at hc (by rw [hlen _ _ _ hr]; exact hpos), hwy⟩
    have hspot : 0 < m → a.spot = none := by
      intro hm0
      obtain ⟨y, cs, _, hc, _⟩ := el 0 hm0
      have := hc.1
      rw [Nat.zero_mul] at this
      simpa [Addr.add] using this
    have build : ∀ k, k ≤ len → ∃ l : List α, l.length = k ∧ (∀ i x, l[i]? = some x → ∃ cs, rel (fun b => w.heap[b]?) x cs ∧ CellsAt (fun b => w.heap[b]?) (a.add (i * sz)) cs) ∧ ∀ y ∈ l, wf y := by
      intro k
      induction k with
      | zero => exact fun _ => ⟨[], rfl, fun i x hx => by simp at hx, fun y hy => by simp at hy⟩
      | succ k ih =>
        intro hk
        obtain ⟨l, hl, h1, h2⟩ := ih (by omega)
        obtain ⟨y, cs, hr, hc, hwy⟩ := el k (by omega)
        refine ⟨l ++ [y], by simp [hl], fun i x hx => ?_, fun z hz => ?_⟩
        · by_cases hi : i < l.length
          · rw [List.getElem?_append_left hi] at hx; exact h1 i x hx
          · have : i = l.length := by
              have := (List.getElem?_eq_some_iff.1 hx).1; simp at this; omega
            subst this
            simp at hx; subst hx
            rw [hl]
            exact ⟨cs, hr, hc⟩
        · rcases List.mem_append.1 hz with hz | hz
          · exact h2 z hz
          · rw [List.mem_singleton.1 hz]; exact hwy
    obtain ⟨l, hl, h1, h2⟩ := build len (Nat.le_refl _)
    refine ⟨_, l, rfl, ⟨some a, m, by rw [hl], by omega, hcm, by simp, fun ad hd hp => by cases hd; exact hspot hp⟩, h1, h2, ?_⟩
    rw [hl]
    exact Nat.le_trans (Nat.mul_le_mul_right _ (by omega)) hw
theorem rdD_of_trod {α : Type} {D : Deep α} {wf : α → Prop} {t e : TypeId} {fuel : Nat} {c : List Value} {x : DataW H × List MemPlace} (ht : P.underlying t = some (.slice e)) (ho : OpensW P e D.rel wf) (hsz : P.cellsOf e = D.sz)
    (h : DataW.trod enc P w base (fun _ => true) held fuel t c = some x) (hx : light P t x.1) : ∃ (v : Value) (l : List α), c = [v] ∧ RdD D (hp no w) v l ∧ (∀ y ∈ l, wf y) ∧ l.length * P.bytesOf e ≤ reachBytes := by
  obtain ⟨v, l, hc, h1, h2, h3, h4⟩ := sl_of_trod D.len D.pos ht ho hsz h hx
  rw [hp_no]
  exact ⟨v, l, hc, ⟨h1, h2⟩, h3, h4⟩
theorem rdF_of_trod {α : Type} {F : Flat α} {wf : α → Prop} {t e : TypeId} {fuel : Nat} {c : List Value} {x : DataW H × List MemPlace} (ht : P.underlying t = some (.slice e)) (ho : OpensW P e (fun _ a c => c = F.enc a) wf) (hsz : P.cellsOf e = F.sz)
    (h : DataW.trod enc P w base (fun _ => true) held fuel t c = some x) (hx : light P t x.1) : ∃ (v : Value) (l : List α), c = [v] ∧ Rd F (hp no w) v l ∧ (∀ y ∈ l, wf y) ∧ l.length * P.bytesOf e ≤ reachBytes := by
  obtain ⟨v, l, hc, h1, h2, h3, h4⟩ := sl_of_trod (fun _ a c h => by rw [h]; exact F.len a) F.pos ht ho hsz h hx
  rw [hp_no]
  exact ⟨v, l, hc, ⟨h1, fun i y hy => by obtain ⟨cs, rfl, hc⟩ := h2 i y hy; exact hc⟩, h3, h4⟩
end
end Gw
