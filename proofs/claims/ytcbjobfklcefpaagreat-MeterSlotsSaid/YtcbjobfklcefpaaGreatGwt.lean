import Derived.Test.YtcbjobfklcefpaaGreatGws
set_option linter.unusedVariables false
/-! Deep data: cells that hold slices, and what these hold. -/
namespace Gw
open Go Go.RowKit
def Hp.sub (a b : Hp) : Prop := ∀ k o, a k = some o → b k = some o
theorem Hp.sub_refl (a : Hp) : a.sub a := fun _ _ h => h
theorem Hp.sub_trans {a b c : Hp} (h : a.sub b) (h' : b.sub c) : a.sub c := fun k o x => h' k o (h k o x)
theorem Hp.sub_le {a b : Hp} {w : World} (h : a.sub b) (hb : b.le w) : a.le w := fun k o x => hb k o (h k o x)
/-- one memory, beyond it another one -/
def un (a b : Hp) : Hp := fun k => match a k with
  | some o => some o
  | none => b k
theorem un_l (a b : Hp) : a.sub (un a b) := fun k o h => by unfold un; rw [h]
theorem un_r {a b : Hp} {w : World} (ha : a.le w) (hb : b.le w) : b.sub (un a b) := fun k o h => by
  unfold un
  cases e : a k with
  | none => exact h
  | some o' =>
    have h1 := ha k o' e
    have h2 := hb k o h
    rw [h1] at h2
    exact h2
theorem un_mono {a b c : Hp} (h : b.sub c) : (un a b).sub (un a c) := fun k o => by
  unfold un
  cases a k with
  | none => exact h k o
  | some _ => exact fun x => x
theorem un_le {a b : Hp} {w : World} (ha : a.le w) (hb : b.le w) : (un a b).le w := fun k o => by
  unfold un
  cases e : a k with
  | none => exact hb k o
  | some _ => exact fun x => ha k o (e.trans x)
/-- how values of a type with slices lie in cells, in a memory -/
structure Deep (α : Type) where
  sz : Nat
  rel : Hp → α → List Value → Prop
  len : ∀ h x c, rel h x c → c.length = sz
  one : ∀ h x c, rel h x c → ∀ u ∈ c, u.oneCell' = true
  mono : ∀ (h h' : Hp) x c, h.sub h' → rel h x c → rel h' x c
  pos : 0 < sz
  ag : Bool
  one' : ag = false → sz = 1
structure Cells (n : Nat) where
  l : List Value
  len : l.length = n
  one : ∀ u ∈ l, u.oneCell' = true
theorem oneCell_cells {v : Value} (h : v.oneCell' = true) : v.cells = #[v] := by
  cases v <;> first | rfl | simp [Value.oneCell'] at h
/-- cells as they are -/
def fD {α : Type} (D : Deep α) : Flat (Cells D.sz) where
  sz := D.sz
  enc x := x.l
  val x := match D.ag with
    | true => .agg x.l.toArray
    | false => x.l.headD undef
  len x := x.len
  one x := x.one
  cells x := by
    cases h : D.ag with
    | true => rfl
    | false =>
      have h1 := x.len.trans (D.one' h)
      obtain ⟨v, hv⟩ := List.length_eq_one_iff.1 h1
      have h2 := x.one v (by rw [hv]; simp)
      simp only [hv, List.headD_cons]
      exact oneCell_cells h2
  pos := D.pos
def Deep.ce {α : Type} (D : Deep α) {h : Hp} {x : α} {c : List Value} (r : D.rel h x c) : Cells D.sz := ⟨c, D.len _ _ _ r, D.one _ _ _ r⟩
theorem oc0 : ∀ u ∈ ([] : List Value), u.oneCell' = true := by simp
theorem oc1 {v : Value} {l : List Value} (h : v.oneCell' = true) (t : ∀ u ∈ l, u.oneCell' = true) : ∀ u ∈ v :: l, u.oneCell' = true := by
  intro u hu
  rcases List.mem_cons.1 hu with rfl | hu
  · exact h
  · exact t u hu
theorem IsSl.one {v : Value} {n : Nat} (h : IsSl v n) : v.oneCell' = true := by
  obtain ⟨a, c, rfl, _⟩ := h
  rfl
/-- one by one -/
def F2 {α : Type} {n : Nat} (R : α → List Value → Prop) (l : List α) (cs : List (Cells n)) : Prop :=
  cs.length = l.length ∧ ∀ (i : Nat) (x : α) (c : Cells n), l[i]? = some x → cs[i]? = some c → R x c.l
theorem F2.nil {α : Type} {n : Nat} (R : α → List Value → Prop) : F2 (n := n) R [] [] := ⟨rfl, by simp⟩
theorem F2.one {α : Type} {n : Nat} {R : α → List Value → Prop} {x : α} {c : Cells n} (h : R x c.l) : F2 R [x] [c] := ⟨rfl, fun i y d hy hd => by
  cases i with
  | zero => simp at hy hd; subst hy; subst hd; exact h
  | succ i => simp at hy⟩
theorem F2.cons {α : Type} {n : Nat} {R : α → List Value → Prop} {x : α} {c : Cells n} {l : List α} {cs : List (Cells n)} (h : R x c.l) (t : F2 R l cs) : F2 R (x :: l) (c :: cs) := ⟨by simp [t.1], fun i y d hy hd => by
  cases i with
  | zero => simp at hy hd; subst hy; subst hd; exact h
  | succ i => simp at hy hd; exact t.2 i y d hy hd⟩
theorem F2.append {α : Type} {n : Nat} {R : α → List Value → Prop} {l l' : List α} {cs cs' : List (Cells n)} (h : F2 R l cs) (h' : F2 R l' cs') : F2 R (l ++ l') (cs ++ cs') := by
  refine ⟨by simp [h.1, h'.1], fun i x c hx hc => ?_⟩
  by_cases hi : i < l.length
  · rw [List.getElem?_append_left hi] at hx
    rw [List.getElem?_append_left (by rw [h.1]; exact hi)] at hc
    exact h.2 i x c hx hc
  · rw [List.getElem?_append_right (by omega)] at hx
    rw [List.getElem?_append_right (by rw [h.1]; omega), h.1] at hc
    exact h'.2 _ x c hx hc
theorem F2.set {α : Type} {n : Nat} {R : α → List Value → Prop} {l : List α} {cs : List (Cells n)} {x : α} {c : Cells n} (h : F2 R l cs) (i : Nat) (hx : R x c.l) : F2 R (l.set i x) (cs.set i c) := by
  refine ⟨by simp [h.1], fun j y d hy hd => ?_⟩
  rw [List.getElem?_set] at hy hd
  by_cases e : i = j
  · subst e
    rw [if_pos rfl] at hy hd
    split at hy
    · split at hd
      · cases hy; cases hd; exact hx
      · cases hd
    · cases hy
  · rw [if_neg e] at hy hd
    exact h.2 j y d hy hd
theorem F2.mono {α : Type} {n : Nat} {R R' : α → List Value → Prop} {l : List α} {cs : List (Cells n)} (h : F2 R l cs) (hr : ∀ x c, R x c → R' x c) : F2 R' l cs := ⟨h.1, fun i x c hx hc => hr _ _ (h.2 i x c hx hc)⟩
theorem F2.up {α : Type} {D : Deep α} {h h' : Hp} {l : List α} {cs : List (Cells D.sz)} (hs : h.sub h') (f : F2 (D.rel h) l cs) : F2 (D.rel h') l cs := f.mono fun x c => D.mono h h' x c hs
/-- v reads as this list, deep down -/
structure RdD {α : Type} (D : Deep α) (h : Hp) (v : Value) (l : List α) : Prop where
  sl : IsSl v l.length
  at_ : ∀ i x, l[i]? = some x → ∃ c, D.rel h x c ∧ CellsAt h (slAt v D.sz i) c
theorem RdD.mono {α : Type} {D : Deep α} {h h' : Hp} {v : Value} {l : List α} (hh : h.sub h') (r : RdD D h v l) : RdD D h' v l :=
  ⟨r.sl, fun i x hx => let ⟨c, h1, h2⟩ := r.at_ i x hx; ⟨c, D.mono h h' x c hh h1, h2.mono' hh⟩⟩
theorem RdD.nil {α : Type} (D : Deep α) (h : Hp) : RdD D h vn [] := ⟨⟨none, 0, rfl, Nat.le_refl _, by simp [maxLen], fun _ => rfl, by simp⟩, by simp⟩
theorem RdD.sub {α : Type} {D : Deep α} {h : Hp} {v : Value} {l : List α} {lo hi : Nat} (r : RdD D h v l) (h1 : lo ≤ hi) (h2 : hi ≤ l.length) : RdD D h (slSub v D.sz lo hi) ((l.take hi).drop lo) := by
  refine ⟨?_, fun i x hx => ?_⟩
  · have := IsSl.sub (sz := D.sz) r.sl h1 h2
    simpa [Nat.min_eq_left h2] using this
  · rw [List.getElem?_drop] at hx
    have hlt : lo + i < hi := by
      have := (List.getElem?_eq_some_iff.1 hx).1
      simp at this
      omega
    rw [List.getElem?_take, if_pos hlt] at hx
    obtain ⟨c, h3, h4⟩ := r.at_ _ x hx
    exact ⟨c, h3, by rw [slAt_sub r.sl hlt h2]; exact h4⟩
theorem RdD.of {α : Type} {D : Deep α} {h : Hp} {v : Value} {l : List α} {cs : List (Cells D.sz)} (r : Rd (fD D) h v cs) (f : F2 (D.rel h) l cs) : RdD D h v l := by
  refine ⟨by rw [← f.1]; exact r.sl, fun i x hx => ?_⟩
  have hi : i < cs.length := by rw [f.1]; exact (List.getElem?_eq_some_iff.1 hx).1
  obtain ⟨c, hc⟩ : ∃ c, cs[i]? = some c := ⟨cs[i], List.getElem?_eq_getElem hi⟩
  exact ⟨c.l, f.2 i x c hx hc, r.at_ i c hc⟩
theorem RdD.cells {α : Type} {D : Deep α} {h : Hp} {v : Value} {l : List α} (r : RdD D h v l) : ∃ cs : List (Cells D.sz), Rd (fD D) h v cs ∧ F2 (D.rel h) l cs := by
  have key : ∀ n, n ≤ l.length → ∃ cs : List (Cells D.sz), cs.length = n ∧ ∀ i x c, l[i]? = some x → cs[i]? = some c → D.rel h x c.l ∧ CellsAt h (slAt v D.sz i) c.l := by
    intro n
    induction n with
    | zero => exact fun _ => ⟨[], rfl, by simp⟩
    | succ n ih =>
      intro hn
      obtain ⟨cs, h1, h2⟩ := ih (by omega)
      obtain ⟨c, h3, h4⟩ := r.at_ n l[n] (List.getElem?_eq_getElem (by omega))
      refine ⟨cs ++ [⟨c, D.len _ _ _ h3, D.one _ _ _ h3⟩], by simp [h1], fun i x d hx hd => ?_⟩
      by_cases e : i < n
      · rw [List.getElem?_append_left (by omega)] at hd
        exact h2 i x d hx hd
      · have hi : i = n := by
          have := (List.getElem?_eq_some_iff.1 hd).1
          simp [h1] at this
          omega
        subst hi
        rw [List.getElem?_append_right (by omega), h1, Nat.sub_self] at hd
        simp at hd
        subst hd
        rw [List.getElem?_eq_getElem (by omega)] at hx
        cases hx
        exact ⟨h3, h4⟩
  obtain ⟨cs, h1, h2⟩ := key l.length (Nat.le_refl _)
  refine ⟨cs, ⟨by rw [h1]; exact r.sl, fun i c hc => ?_⟩, h1, fun i x c hx hc => (h2 i x c hx hc).1⟩
  have hi : i < l.length := by rw [← h1]; exact (List.getElem?_eq_some_iff.1 hc).1
  exact (h2 i _ c (List.getElem?_eq_getElem hi) hc).2
theorem RdD.arg {α : Type} {D : Deep α} {M N : Nat → Prop} {w0 w : World} {Rs : List Res} {v : Value} {l : List α} (r : RdD D (hp M w0) v l) (h : St M w0 w Rs)
    (hN : ∀ k, N k → M k ∨ w0.heap.size ≤ k) : RdD D (hp N w) v l := by
  refine r.mono fun b o hb => ?_
  have h1 := h.hp_le b o hb
  unfold hp at hb ⊢
  by_cases hM : M b
  · simp [hM] at hb
  · simp only [hM, if_false] at hb
    have hlt := lt_of_heap hb
    have hn : ¬ N b := fun x => by rcases hN b x with y | y; exact hM y; omega
    simp only [hn, if_false]
    exact h1
/-- frozen memory of one's own -/
def Fz (h : Hp) : Res where
  holds w := h.le w
  fp k := h k ≠ none
  lt := fun w hw k hk => by
    cases e : h k with
    | none => exact absurd e hk
    | some o => exact lt_of_heap (hw k o e)
  stable := fun w w' hw hs k o ho => by rw [hs k (by rw [ho]; simp)]; exact hw k o ho
section
variable {M : Nat → Prop} {w0 w : World} {Rs : List Res}
theorem St.fz0 (H : St M w0 w Rs) : St M w0 w (Fz (fun _ => none) :: Rs) :=
  ⟨H.os, H.tape, H.output, H.size, H.block, fun R hR => by
    rcases List.mem_cons.1 hR with rfl | hR
    · exact fun k o h => by cases h
    · exact H.holds R hR, fun R hR k hk => by
    rcases List.mem_cons.1 hR with rfl | hR
    · exact absurd rfl hk
    · exact H.own R hR k hk, List.pairwise_cons.2 ⟨fun R hR k hk => absurd rfl hk, H.disj⟩⟩
/-- two resources become one, on the same blocks -/
theorem St.merge {R1 R2 R : Res} (H : St M w0 w (R1 :: R2 :: Rs)) (hR : R.holds w) (hfp : ∀ k, R.fp k → R1.fp k ∨ R2.fp k) : St M w0 w (R :: Rs) := by
  have hd := H.disj
  rw [List.pairwise_cons, List.pairwise_cons] at hd
  obtain ⟨d1, d2, d3⟩ := hd
  refine ⟨H.os, H.tape, H.output, H.size, H.block, fun R' hR' => ?_, fun R' hR' k hk => ?_, List.pairwise_cons.2 ⟨fun R' hR' k hk hk' => ?_, d3⟩⟩
  · rcases List.mem_cons.1 hR' with rfl | hR'
    · exact hR
    · exact H.holds R' (by simp [hR'])
  · rcases List.mem_cons.1 hR' with rfl | hR'
    · rcases hfp k hk with h | h
      · exact H.own R1 (by simp) k h
      · exact H.own R2 (by simp) k h
    · exact H.own R' (by simp [hR']) k hk
  · rcases hfp k hk with h | h
    · exact d1 R' (by simp [hR']) k h hk'
    · exact d2 R' hR' k h hk'
/-- a slice of one's own that is never written any more -/
theorem St.freeze {α : Type} {F : Flat α} {E : TypeId} {s : Value} {l : List α} {h hb : Hp} (H : St M w0 w (Own F E s l :: Fz h :: Rs)) (hle : hb.le w) :
    ∃ h', h.sub h' ∧ Rd F (un hb h') s l ∧ St M w0 w (Fz h' :: Rs) := by
  classical
  have ho : (Own F E s l).holds w := H.holds _ (by simp)
  have hz : h.le w := H.holds (Fz h) (by simp)
  let h' : Hp := fun k => if (Own F E s l).fp k then w.heap[k]? else h k
  have hz' : h'.le w := by
    intro k o hk
    simp only [h'] at hk
    split at hk
    · exact hk
    · exact hz k o hk
  refine ⟨h', fun k o hk => ?_, ?_, H.merge (R := Fz h') hz' fun k hk => ?_⟩
  · simp only [h']
    split
    · exact hz k o hk
    · exact hk
  · refine Rd.mono (un_r hle hz') ?_
    exact Own.rd ho fun k hk => by simp only [h', if_pos hk]
  · simp only [Fz, h'] at hk
    split at hk
    · rename_i h1; exact .inl h1
    · exact .inr hk
/-- frozen memory that a call has told beside what there was -/
theorem St.fzJoin {h h2 : Hp} (H : St M w0 w (Fz h2 :: Fz h :: Rs)) : St M w0 w (Fz (un h h2) :: Rs) := by
  refine H.merge (R := Fz (un h h2)) (un_le (H.holds (Fz h) (by simp)) (H.holds (Fz h2) (by simp))) fun k hk => ?_
  simp only [Fz, un] at hk
  cases e : h k with
  | none => rw [e] at hk; exact .inl hk
  | some o => exact .inr (by simp [Fz, e])
theorem un_assoc (a b c : Hp) : un (un a b) c = un a (un b c) := by
  funext k
  unfold un
  cases a k <;> rfl
theorem St.fz_le {h : Hp} (H : St M w0 w Rs) (i : Nat) (hi : Rs[i]? = some (Fz h)) : h.le w := H.get i hi
theorem St.hb_le {hb : Hp} (H : St no w0 w Rs) (h : hb.le w0) : hb.le w := fun k o hk => by
  have h1 := h k o hk
  rw [H.block k (lt_of_heap h1) (fun x => x)]; exact h1
theorem F2.get {α : Type} {n : Nat} {R : α → List Value → Prop} {l : List α} {cs : List (Cells n)} {i : Nat} {x : α} (f : F2 R l cs) (hx : l[i]? = some x) : ∃ c, R x c ∧ ∃ h1 h2, cs[i]? = some ⟨c, h1, h2⟩ := by
  have hi : i < cs.length := by rw [f.1]; exact (List.getElem?_eq_some_iff.1 hx).1
  exact ⟨cs[i].l, f.2 i x cs[i] hx (List.getElem?_eq_getElem hi), cs[i].len, cs[i].one, List.getElem?_eq_getElem hi⟩
theorem sub_hp {h : Hp} {w : World} (hle : h.le w) : h.sub (hp no w) := by rw [hp_no]; exact hle
theorem app_lenD {a b a' b' c : Nat} (h : a' = a) (h' : b' = b) (g : (a + b) * c ≤ 140737488355328) (hb : Nat.ble 1 c = true) : (a' + b') * c ≤ 140737488355328 ∧ a' + b' ≤ maxLen := by
  rw [h, h']; exact app_len g hb
theorem Own.slD {α : Type} {D : Deep α} {E : TypeId} {v : Value} {l : List α} {cs : List (Cells D.sz)} {h : Hp} (ho : (Own (fD D) E v cs).holds w) (f : F2 (D.rel h) l cs) : IsSl v l.length := by
  rw [← f.1]; exact Own.isSl ho
/-- of one's own, deep: as it reads -/
theorem St.rdD {α : Type} {D : Deep α} {E : TypeId} {v : Value} {l : List α} {cs : List (Cells D.sz)} {h : Hp} (H : St M w0 w Rs) (i : Nat) (hi : Rs[i]? = some (Own (fD D) E v cs)) (f : F2 (D.rel h) l cs) (hle : h.le w) : RdD D (hp no w) v l :=
  RdD.of (St.rd H i hi) (f.up (by rw [hp_no]; exact hle))
end
end Gw
