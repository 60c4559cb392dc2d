import Derived.Test.YtcbjobfklcefpaaGreatGwv
set_option linter.unusedVariables false
/-! Iterators that tell deep data, and may use themselves up. -/
namespace Gw
open Go Go.RowKit
/-- A yield that takes what reads as x (AR), from state s to what q says. -/
structure YW {α σ τ : Type} (P : Program) (AR : (Nat → Prop) → World → Array Value → α → Prop) (h : Hp) (yv : Value) (Z : σ → τ → Res) (q : α → σ → Option (σ × Bool)) : Prop where
  ok : ∃ L, yv = .func (.yield L) #[] #[] ∧ ∀ (vs : Array Value) (x : α) (s : σ) (t : τ) (s' : σ) (b : Bool) (w : World), h.le w → (∀ k o, h k = some o → ¬ (Z s t).fp k) → (Z s t).holds w → AR (Z s t).fp w vs x → q x s = some (s', b) →
    Rnd P L vs w (fun v w' => v = vb b ∧ ∃ t', St (Z s t).fp w w' [Z s' t'])
/-- A function value that hands to yield what ap says; C: its own memory. -/
structure IW {α : Type} (P : Program) (AR : (Nat → Prop) → World → Array Value → α → Prop) (fv : Value) (ap : (σ : Type) → (α → σ → Option (σ × Bool)) → σ → Option σ) (C : Res) (hb : Hp) : Prop where
  ok : ∃ k cap, fv = .func (.func k) #[] cap ∧ (∀ args w, (callFunc k args).run P w = .ok (.enter k args) w) ∧
    ∀ (σ τ : Type) (Z : σ → τ → Res) (q : α → σ → Option (σ × Bool)) (h : Hp) (yv : Value), YW P AR h yv Z q → hb.sub h → (∀ k o, h k = some o → ¬ C.fp k) → ∀ (s : σ) (t : τ) (r : σ) (w : World), ap σ q s = some r → C.holds w → h.le w → (∀ k o, h k = some o → ¬ (Z s t).fp k) → (Z s t).holds w →
      (∀ k, C.fp k → ¬ (Z s t).fp k) → Ret P k (#[yv] ++ cap) w (fun v w' => ∃ t', St (fun k => (Z s t).fp k ∨ C.fp k) w w' [Z r t'])
/-- A call of yield, in a walk: the state is the resource i. -/
theorem YW.call {α σ τ : Type} {P : Program} {AR : (Nat → Prop) → World → Array Value → α → Prop} {h : Hp} {yv : Value} {Z : σ → τ → Res} {q : α → σ → Option (σ × Bool)} (hy : YW P AR h yv Z q)
    {r : Option Nat} {Q : Exit → Act → World → Prop} {a : Act} {M : Nat → Prop} {w0 w : World} {Rs : List Res} {ops : Array Oper} {k : Nat} {o : Oper} {s s' : σ} {t : τ} {b : Bool} {x : α} {vs : Array Value}
    (H : St M w0 w Rs) (hle : h.le w0) (hdis : ∀ k o, h k = some o → ¬ M k) (i : Nat) (hi : Rs[i]? = some (Z s t)) (hq : q x s = some (s', b)) (ho : ops[k]? = some o) (hw : Region.wanted o (yielded ops a.tmps) = true)
    {X : Operand} {Ys : Array Operand} {ats : Array TypeId} (hop : o.op = .call ⟨.value X, Ys, ats⟩) (hX : a.eval X = yv) (hY : Ys.map a.eval = vs) (hv : AR (Z s t).fp w vs x)
    (n : ∀ t' w', St M w0 w' (Z s' t' :: Rs.eraseIdx i) → WPI r P ops Q (k + 1) (a.put o.dst (vb b)) w') : WPI r P ops Q k a w := by
  obtain ⟨L, rfl, hh⟩ := hy.ok
  have hdz : ∀ k o, h k = some o → ¬ (Z s t).fp k := fun k o hk hz => by
    rcases H.own _ (List.mem_of_getElem? hi) k hz with y | y
    · exact hdis k o hk y
    · have := lt_of_heap (hle k o hk); omega
  refine WPI.yield (L := L) (args := vs) ho hw ?_ (hh vs x s t s' b w (H.hle hle hdis) hdz (H.get i hi) hv hq) ?_
  · simp only [execOp, hop, resolve, hX, hY, Sem.run_bind, Deferred.ofValue, Sem.run_pure, Result.andThen_ok, invoke]
    simp
  · rintro v w' ⟨rfl, t', h'⟩
    exact n t' w' (H.call1 i hi h')
theorem WP.rangeW {α σ τ : Type} {P : Program} {AR : (Nat → Prop) → World → Array Value → α → Prop} {fv : Value} {ap : (σ : Type) → (α → σ → Option (σ × Bool)) → σ → Option σ} {C : Res} {hb : Hp} {Q : Exit → Act → World → Prop} {a : Act} {M : Nat → Prop} {w0 w : World} {Rs : List Res}
    {g : Operand} {ps : Array Tmp} {assign body : Code} (H : St M w0 w (C :: Rs)) (hit : IW P AR fv ap C hb) (hg : a.eval g = fv)
    (h : Hp) (hbs : hb.sub h) (hhC : ∀ k o, h k = some o → ¬ C.fp k) (hhle : h.le w) (hhd : ∀ k o, h k = some o → ∀ R ∈ Rs, ¬ R.fp k)
    (Z : σ → τ → List Res) (J : Nat → Option Code) (q : α → σ × Nat → Option ((σ × Nat) × Bool)) (s0 : σ) (t0 : τ) (hZ : Z s0 t0 = Rs) (hJ : J 0 = none) (r : σ × Nat) (hq : ap (σ × Nat) q (s0, 0) = some r)
    (hps : ∀ N w vs x, AR N w vs x → vs.size = ps.size)
    (round : ∀ (L : Nat) (rc : Loop) (vs : Array Value) (x : α) (s : σ) (t : τ) (z : (σ × Nat) × Bool) (M1 : Nat → Prop) (w1 : World), rc.state = .ready → rc.pending = none → AR M1 w1 vs x → q x (s, 0) = some z → h.le w1 → (∀ k o, h k = some o → ¬ M1 k) →
      St M1 w1 w1 (Thing L (.loop rc) :: Z s t) → WP (some L) P assign (Begun P L (WP (some L) P body (RP J fun j w2 => ∃ s' t', z = ((s', j), (J j).isNone) ∧ St M1 w1 w2 (Thing L (.loop (busy rc)) :: Z s' t'))))
        { tmps := (ps.zip vs).foldl (fun tmps (t, v) => tmps.setIfInBounds t v) a.tmps, defers := [] } w1)
    (hstop : ∀ x s j, J j ≠ none → q x (s, j) = none) (hnone : ∀ j, J j = none → j = 0)
    (after : ∀ D t' w', St M w0 w' (DMark D :: Z r.1 t') → Aft P Q J r.2 { a with defers := mk D :: a.defers } w') :
    WP none P (.rangeFunc g ps assign body) Q a w := by
  refine wpIn_rangeFunc ?_
  intro fn _
  obtain ⟨k, cap, hfv, hk, hcall⟩ := hit.ok
  obtain ⟨rc, hrc⟩ : ∃ rc : Loop, rc = { state := .ready, pending := none, fn, tmps := a.tmps, params := ps, assign, body, defers := w.heap.size } := ⟨_, rfl⟩
  have H1 := (H.thing (.deferred (some []))).thing (.loop rc)
  have hsz : (w.alloc (.deferred (some []))).heap.size = w.heap.size + 1 := by simp
  rw [hsz] at H1
  generalize hW1 : (w.alloc (.deferred (some []))).alloc (.loop rc) = W1 at H1
  have hrc0 : recAt rc J 0 = rc := by subst hrc; simp [recAt, hJ]
  -- the iterator's consumer, as one resource
  let ZZ : σ × Nat → τ → Res := fun s t => Res.all (Thing (w.heap.size + 1) (.loop (recAt rc J s.2)) :: Z s.1 t)
  have HS := H1.sel (Rs' := Thing (w.heap.size + 1) (.loop rc) :: Rs) (0 :: (List.range Rs.length).map (· + 3)) (by
      refine List.nodup_cons.2 ⟨by simp, ?_⟩
      rw [List.Nodup, List.pairwise_map]
      exact List.nodup_range.imp (fun h => by omega)) (by
      simp only [List.map_cons, List.map_map]
      congr 1
      apply List.ext_getElem?
      intro i
      by_cases hi : i < Rs.length
      · simp [hi]
      · simp [hi])
  have hz0 : (ZZ (s0, 0) t0).holds W1 := by
    show (Res.all (Thing (w.heap.size + 1) (.loop (recAt rc J 0)) :: Z s0 t0)).holds W1
    rw [hrc0, hZ]; exact HS.all
  have hfp0 : ∀ k, (ZZ (s0, 0) t0).fp k ↔ (Res.all (Thing (w.heap.size + 1) (.loop rc) :: Rs)).fp k := by
    intro k
    show (Res.all (Thing (w.heap.size + 1) (.loop (recAt rc J 0)) :: Z s0 t0)).fp k ↔ _
    rw [hrc0, hZ]
  have hCd : ∀ k, C.fp k → ¬ (ZZ (s0, 0) t0).fp k := by
    intro k hC hz
    obtain ⟨R, hR, hk⟩ := (hfp0 k).1 hz
    have hd := H1.disj
    simp only [List.pairwise_cons] at hd
    rcases List.mem_cons.1 hR with rfl | hR
    · exact hd.1 C (by simp) k hk hC
    · exact hd.2.2.1 R hR k hC hk
  have hDd : ∀ k, (DMark w.heap.size).fp k → ¬ (ZZ (s0, 0) t0).fp k := by
    intro k hD hz
    obtain ⟨R, hR, hk⟩ := (hfp0 k).1 hz
    have hd := H1.disj
    simp only [List.pairwise_cons] at hd
    rcases List.mem_cons.1 hR with rfl | hR
    · exact hd.1 (DMark w.heap.size) (by simp) k hk hD
    · exact hd.2.1 R (by simp [hR]) k hD hk
  have hhz : ∀ k o, h k = some o → ¬ (ZZ (s0, 0) t0).fp k := by
    intro k o hk hz
    obtain ⟨R, hR, hkk⟩ := (hfp0 k).1 hz
    rcases List.mem_cons.1 hR with rfl | hR
    · have h1 : k = w.heap.size + 1 := hkk
      have := lt_of_heap (hhle k o hk); omega
    · exact hhd k o hk R hR hkk
  have hhl1 : h.le W1 := by
    intro k o hk
    have h1 := hhle k o hk
    have hlt := lt_of_heap h1
    rw [← hW1, Below.heap_alloc _ _ k (by simp; omega), Below.heap_alloc _ _ k hlt]; exact h1
  have hY : YW P AR h (.func (.yield (w.heap.size + 1)) #[] #[]) ZZ q := by
    refine ⟨w.heap.size + 1, rfl, ?_⟩
    rintro vs x ⟨s, j⟩ t ⟨s', j'⟩ b w1 hle1 hdis1 hz hv hqx
    by_cases hj : J j = none
    · have := hnone j hj
      subst this
      have hz' : (Res.all (Thing (w.heap.size + 1) (.loop rc) :: Z s t)).holds w1 := by rw [← hrc0]; exact hz
      have hst := St.open hz'
      have hL : w1.heap[w.heap.size + 1]? = some (.loop rc) := hst.get 0 rfl
      have hy := run_yield (P := P) (args := vs) hL (by rw [hrc]; exact hps _ w1 vs x hv)
      rw [show rc.fn = fn from by rw [hrc], show rc.params = ps from by rw [hrc], show rc.tmps = a.tmps from by rw [hrc], show rc.assign = assign from by rw [hrc], show rc.body = body from by rw [hrc]] at hy
      refine ⟨fn, _, assign, body, hy, ?_⟩
      have hfpe : ∀ k, (ZZ (s, 0) t).fp k ↔ (Res.all (Thing (w.heap.size + 1) (.loop rc) :: Z s t)).fp k := by
        intro k
        show (Res.all (Thing (w.heap.size + 1) (.loop (recAt rc J 0)) :: Z s t)).fp k ↔ _
        rw [hrc0]
      have hM : (Res.all (Thing (w.heap.size + 1) (.loop rc) :: Z s t)).fp = (ZZ (s, 0) t).fp := funext fun k => propext (hfpe k).symm
      rw [hM] at hst
      refine roundIn_of_wpIn trivial (wpIn_mono (round (w.heap.size + 1) rc vs x s t ((s', j'), b) _ w1 (by rw [hrc]) (by rw [hrc]) hv hqx hle1 hdis1 hst) ?_)
      intro e a2 w2 hb
      have fin : ∀ (jc : Option Code) (j1 : Nat), J j1 = jc → ∀ w3, (∃ s1 t1, (((s', j'), b) : (σ × Nat) × Bool) = ((s1, j1), (J j1).isNone) ∧ St (ZZ (s, 0) t).fp w1 w3 (Thing (w.heap.size + 1) (.loop (busy rc)) :: Z s1 t1)) →
          ∃ v w4, (Instr.endRound (w.heap.size + 1) jc).run P w3 = .ok v w4 ∧ ∃ v', Ending.returned v = .returned v' ∧ (v' = vb b ∧ ∃ t', St (ZZ (s, 0) t).fp w1 w4 [ZZ (s', j') t']) := by
        rintro jc j1 hj1 w3 ⟨s1, t1, he, h3⟩
        obtain ⟨⟨rfl, rfl⟩, rfl⟩ := by simpa [Prod.mk.injEq] using he
        have hg3 : w3.heap[w.heap.size + 1]? = some (.loop (busy rc)) := h3.get 0 rfl
        refine ⟨_, _, run_endRound jc hg3, _, rfl, by rw [hj1], t1, ?_⟩
        have := h3.putThing 0 rfl (.loop (recAt rc J j'))
        have e2 : ({ busy rc with state := if jc.isNone then .ready else .done, pending := jc } : Loop) = recAt rc J j' := by simp [recAt, hj1]
        rw [e2]
        exact this.pack
      revert hb
      cases e with
      | normal =>
        rintro ⟨w5, hbr, hbody⟩
        refine ⟨w5, hbr, wpIn_mono hbody ?_⟩
        intro e3 a3 w3 h3
        cases e3 with
        | normal => obtain ⟨j1, hj1, hd⟩ := h3; exact fin none j1 hj1 w3 hd
        | ret => obtain ⟨j1, hj1, hd⟩ := h3; exact fin (some .ret) j1 hj1 w3 hd
        | exit id => obtain ⟨j1, hj1, hd⟩ := h3; exact fin (some (.exit id)) j1 hj1 w3 hd
        | goto l => exact h3.elim
        | panic c => exact h3.elim
        | outgrown => exact h3.elim
      | exit id => exact fun h => h.elim
      | goto t => exact fun h => h.elim
      | ret => exact fun h => h.elim
      | panic c => exact fun h => h.elim
      | outgrown => exact fun h => h.elim
    · rw [hstop x s j hj] at hqx; cases hqx
  refine ⟨w.heap.size + 1, [mk w.heap.size], W1, { target := .fn (.func k) cap, args := #[.func (.yield (w.heap.size + 1)) #[] #[]] }, W1, k, #[.func (.yield (w.heap.size + 1)) #[] #[]] ++ cap, W1, ?_, ?_, fun _ _ => trivial, ?_, fun h => (by simp [FW] at h), ?_⟩
  · rw [← hW1, hrc]; exact run_enterLoop_outer _ _ _ _ _
  · simp only [resolve, hg, hfv]
    simp [go_sem]
  · simp only [invoke]; exact hk _ _
  · refine callsIn_FW.2 (Calls.mono (hcall (σ × Nat) τ ZZ q h _ hY hbs hhC (s0, 0) t0 r W1 hq (H1.get 2 rfl) hhl1 hhz hz0 hCd) ?_)
    rintro e w' ⟨v, rfl, t', h'⟩
    -- behind the call
    have hN : ∀ k, ((ZZ (s0, 0) t0).fp k ∨ C.fp k) → M k ∨ w0.heap.size ≤ k := by
      intro k hz
      rcases hz with hz | hz
      · obtain ⟨R, hR, hk⟩ := (hfp0 k).1 hz
        refine H1.own R ?_ k hk
        rcases List.mem_cons.1 hR with rfl | hR
        · simp
        · simp [hR]
      · exact H1.own C (by simp) k hz
    have hDC : ∀ k, (DMark w.heap.size).fp k → ¬ C.fp k := by
      have hd := H1.disj
      simp only [List.pairwise_cons] at hd
      exact fun k hk => hd.2.1 C (by simp) k hk
    have H2 := H1.call (fun k => (ZZ (s0, 0) t0).fp k ∨ C.fp k) [1] (by decide) [DMark w.heap.size] rfl hN (by
      intro R hR k hk
      simp only [List.mem_cons, List.not_mem_nil, or_false] at hR
      subst hR
      rintro (y | y)
      · exact hDd k hk y
      · exact hDC k hk y) h'
    have H3 : St M w0 w' (Thing (w.heap.size + 1) (.loop (recAt rc J r.2)) :: Z r.1 t' ++ [DMark w.heap.size]) := H2.unpack
    have hg3 : w'.heap[w.heap.size + 1]? = some (.loop (recAt rc J r.2)) := H3.get 0 rfl
    have H4 := H3.putThing 0 rfl (.loop { recAt rc J r.2 with state := .exhausted })
    refine ⟨J r.2, _, run_endLoop hg3 (by simp only [recAt]; split <;> simp), ?_⟩
    have H5 := H4.sel (Rs' := DMark w.heap.size :: Z r.1 t') ((1 + (Z r.1 t').length) :: (List.range (Z r.1 t').length).map (· + 1)) (by
        refine List.nodup_cons.2 ⟨by simp; omega, ?_⟩
        rw [List.Nodup, List.pairwise_map]
        exact List.nodup_range.imp (fun h => by omega)) (by
        simp only [List.map_cons, List.map_map, List.eraseIdx_cons_zero, List.cons_append]
        rw [show (1 + (Z r.1 t').length) = (Z r.1 t').length + 1 from by omega]
        simp only [List.getElem?_cons_succ]
        rw [List.getElem?_append_right (by omega)]
        simp only [Nat.sub_self, List.getElem?_cons_zero]
        congr 1
        apply List.ext_getElem?
        intro i
        by_cases hi : i < (Z r.1 t').length
        · simp [hi, List.getElem?_append_left hi]
        · simp [hi])
    have := after w.heap.size t' _ H5
    unfold Aft at this
    revert this
    cases J r.2 with
    | none => exact fun h => h
    | some c => exact fun h => h
theorem iw_mk {α : Type} {P : Program} {AR : (Nat → Prop) → World → Array Value → α → Prop} {ap : (σ : Type) → (α → σ → Option (σ × Bool)) → σ → Option σ} {C : Res} {hb : Hp} {cap : Array Value} (k : Nat)
    (hk : ∀ args w, (callFunc k args).run P w = .ok (.enter k args) w)
    (h : ∀ (σ τ : Type) (Z : σ → τ → Res) (q : α → σ → Option (σ × Bool)) (h : Hp) (yv : Value), YW P AR h yv Z q → hb.sub h → (∀ k o, h k = some o → ¬ C.fp k) → ∀ (s : σ) (t : τ) (r : σ) (w : World), ap σ q s = some r → C.holds w → h.le w → (∀ k o, h k = some o → ¬ (Z s t).fp k) → (Z s t).holds w →
      (∀ k, C.fp k → ¬ (Z s t).fp k) → Ret P k (#[yv] ++ cap) w (fun v w' => ∃ t', St (fun k => (Z s t).fp k ∨ C.fp k) w w' [Z r t'])) : IW P AR (.func (.func k) #[] cap) ap C hb := ⟨k, cap, rfl, hk, h⟩
theorem IW.form {α : Type} {P : Program} {AR : (Nat → Prop) → World → Array Value → α → Prop} {fv : Value} {ap : (σ : Type) → (α → σ → Option (σ × Bool)) → σ → Option σ} {C : Res} {hb : Hp} (h : IW P AR fv ap C hb) : ∃ k cap, fv = .func (.func k) #[] cap :=
  let ⟨k, cap, e, _⟩ := h.ok; ⟨k, cap, e⟩
theorem all_fp {R : Res} {Rs : List Res} {k : Nat} (i : Nat) (hi : Rs[i]? = some R) (h : R.fp k) : (Res.all Rs).fp k := ⟨R, List.mem_of_getElem? hi, h⟩
theorem sub_hpN {h : Hp} {w : World} {N : Nat → Prop} (hle : h.le w) (hd : ∀ k o, h k = some o → ¬ N k) : h.sub (hp N w) := fun k o hk => hp_mk (hle k o hk) (hd k o hk)
/-- what was there ahead of the call lies apart from what is one's own -/
theorem St.hb_dis {M : Nat → Prop} {w0 w : World} {Rs : List Res} {R : Res} (H : St M w0 w Rs) (i : Nat) (hi : Rs[i]? = some R) : ∀ k o, hp M w0 k = some o → ¬ R.fp k := fun k o hk hR => by
  obtain ⟨h1, h2⟩ := hp_get hk
  rcases H.own R (List.mem_of_getElem? hi) k hR with y | y
  · exact h2 y
  · have := lt_of_heap h1; omega
theorem St.fz_dis {M : Nat → Prop} {w0 w : World} {Rs : List Res} {R : Res} {h : Hp} (H : St M w0 w Rs) (i j : Nat) (hi : Rs[i]? = some R) (hj : Rs[j]? = some (Fz h)) (hij : i ≠ j) : ∀ k o, h k = some o → ¬ R.fp k := fun k o hk hR => by
  have hd := H.disj
  rw [List.pairwise_iff_getElem] at hd
  obtain ⟨hi', ei⟩ := List.getElem?_eq_some_iff.1 hi
  obtain ⟨hj', ej⟩ := List.getElem?_eq_some_iff.1 hj
  have hf : (Fz h).fp k := by show h k ≠ none; rw [hk]; simp
  rcases Nat.lt_or_gt_of_ne hij with hlt | hgt
  · exact hd i j hi' hj' hlt k (by rw [ei]; exact hR) (by rw [ej]; exact hf)
  · exact hd j i hj' hi' hgt k (by rw [ej]; exact hf) (by rw [ei]; exact hR)
theorem un_dis {a b : Hp} {N : Nat → Prop} (ha : ∀ k o, a k = some o → ¬ N k) (hb : ∀ k o, b k = some o → ¬ N k) : ∀ k o, un a b k = some o → ¬ N k := fun k o h => by
  unfold un at h
  cases e : a k with
  | none => rw [e] at h; exact hb k o h
  | some x => exact ha k x e
/-- two resources at the start -/
theorem St.start2 {w : World} {R R' : Res} (h : R.holds w) (h' : R'.holds w) (hd : ∀ k, R'.fp k → ¬ R.fp k) : St (fun k => R.fp k ∨ R'.fp k) w w [R, R'] :=
  ⟨rfl, rfl, rfl, Nat.le_refl _, fun _ _ _ => rfl, by
    intro x hx
    rcases List.mem_cons.1 hx with rfl | hx
    · exact h
    · simp at hx; subst hx; exact h', by
    intro x hx k hk
    rcases List.mem_cons.1 hx with rfl | hx
    · exact .inl (.inl hk)
    · simp at hx; subst hx; exact .inl (.inr hk), by
    rw [List.pairwise_cons]
    refine ⟨fun x hx k hk hk' => ?_, by simp⟩
    simp at hx; subst hx; exact hd k hk' hk⟩
theorem St.weakM {M N : Nat → Prop} {w0 w : World} {Rs : List Res} (H : St M w0 w Rs) (h : ∀ k, M k → N k) : St N w0 w Rs :=
  ⟨H.os, H.tape, H.output, H.size, fun k hk hn => H.block k hk fun hm => hn (h k hm), H.holds, fun R hR k hk => (H.own R hR k hk).imp (h k) id, H.disj⟩
theorem outer_disC {M : Nat → Prop} {w : World} {C : Res} {Rs : List Res} : ∀ k o, outer M w (C :: Rs) k = some o → ¬ C.fp k := fun k o e => outer_dis k o e C (by simp)
theorem outer_disT {M : Nat → Prop} {w : World} {C : Res} {Rs : List Res} : ∀ k o, outer M w (C :: Rs) k = some o → ∀ R ∈ Rs, ¬ R.fp k := fun k o e R hR => outer_dis k o e R (List.mem_cons_of_mem _ hR)
theorem WP.roundS2 {P : Program} {r : Option Nat} {Q : Exit → Act → World → Prop} {w : World} {n : Nat} {G : Nat → Value} {l : List (Nat × Value)} {ds : List Deferred} {c : Code} {p p' : Tmp} {v v' : Value} (l' : List (Nat × Value)) (hl : l'.map (fun q => lk ((p', v') :: (p, v) :: l) q.1 (G q.1)) = l'.map (fun q => q.2))
    (h : ∀ G', WP r P c Q (S n G' l' []) w) : WP r P c Q { tmps := ((#[p, p'] : Array Tmp).zip #[v, v']).foldl (fun tmps (t, v) => tmps.setIfInBounds t v) (S n G l ds).tmps, defers := [] } w := by
  have e : ({ tmps := ((#[p, p'] : Array Tmp).zip #[v, v']).foldl (fun tmps (t, v) => tmps.setIfInBounds t v) (S n G l ds).tmps, defers := [] } : Act) = ((S n G l []).put (some p) v).put (some p') v' := by
    simp [Act.put, S]
  rw [e, S_put, S_put]
  exact WP.frame (S.sub hl) (h _)
end Gw
