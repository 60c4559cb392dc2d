import Derived.Test.YtcbjobfklcefpaaGreatGw
import Derived.RangeFuncRecord
import Derived.RangeFuncLeaves
set_option linter.unusedVariables false
namespace Gw
open Go Go.RowKit
/-! ## Ranges over functions -/
theorem noDefer_of_round {P : Program} {a : Act} {o : Oper} {w w' : World} {l : Nat} {f : FuncId} {tmps : Array Value} {x y : Code} (hr : (execOp a.eval o).run P w = .ok (.round l f tmps x y) w') : ∀ c, o.op ≠ .defer c := by
  intro c hc
  unfold execOp at hr
  rw [hc] at hr
  simp only [Sem.run_bind] at hr
  cases h : (resolve a.eval c o.type).run P w <;> rw [h] at hr <;> simp [Result.andThen] at hr
theorem roundIn_FW {r r' : Option Nat} {n : Nat} {P : Program} {l : Nat} {f : FuncId} {tmps : Array Value} {x y : Code} {w : World} {R : Ending → World → Prop}
    (h : RoundIn (FW r) n P l f tmps x y w R) : RoundIn (FW r') n P l f tmps x y w R :=
  ⟨trivial, fun c cs _ => let ⟨e, w', q, s⟩ := h.2 c cs (room_FW _ _); ⟨e, w', q, comesIn_FW.2 (comesIn_FW.1 s)⟩⟩
/-- A round of the loop L: it hands back, and of what it hands back, and of the world behind it, R holds. -/
def Rnd (P : Program) (L : Nat) (args : Array Value) (w : World) (R : Value → World → Prop) : Prop :=
  ∃ f tmps x y, (Instr.yield L args).run P w = .ok (.round L f tmps x y) w ∧ RoundIn (FW none) 0 P L f tmps x y w (fun e w' => ∃ v, e = .returned v ∧ R v w')
theorem WPI.yield {r : Option Nat} {P : Program} {Q : Exit → Act → World → Prop} {a : Act} {w : World} {ops : Array Oper} {k : Nat} {o : Oper} {L : Nat} {args : Array Value} {R : Value → World → Prop}
    (ho : ops[k]? = some o) (hw : Region.wanted o (yielded ops a.tmps) = true) (hr : (execOp a.eval o).run P w = (Instr.yield L args).run P w) (hc : Rnd P L args w R)
    (h : ∀ v w', R v w' → WPI r P ops Q (k + 1) (a.put o.dst v) w') : WPI r P ops Q k a w := by
  obtain ⟨f, tmps, x, y, hy, hround⟩ := hc
  rw [hy] at hr
  unfold WPI at *
  rw [range'_step (lt_of_get ho)]
  simp only [wpOpsIn, ho, hw, if_true, Oper.wpIn]
  rw [Oper.semAt_eq _ _ _ (noDefer_of_round hr), hr]
  refine ⟨fun _ _ => trivial, fun h => (by simp [FW] at h), ?_⟩
  refine (roundIn_FW hround).mono ?_
  rintro e w' ⟨v, rfl, hR⟩
  exact h v w' hR
/-! ### Resources joined in one -/
def Res.all (Rs : List Res) : Res where
  holds w := (∀ R ∈ Rs, R.holds w) ∧ Rs.Pairwise fun R R' => ∀ k, R.fp k → ¬ R'.fp k
  fp k := ∃ R ∈ Rs, R.fp k
  lt := fun w h k ⟨R, hR, hk⟩ => R.lt w (h.1 R hR) k hk
  stable := fun w w' h hs => ⟨fun R hR => R.stable w w' (h.1 R hR) (fun k hk => hs k ⟨R, hR, hk⟩), h.2⟩
section
variable {M : Nat → Prop} {w0 w w' : World} {Rs Rs' : List Res} {R R' : Res}
theorem St.all (h : St M w0 w Rs) : (Res.all Rs).holds w := ⟨h.holds, h.disj⟩
theorem St.pack (h : St M w0 w Rs) : St M w0 w [Res.all Rs] :=
  ⟨h.os, h.tape, h.output, h.size, h.block, by simpa using h.all, by simp only [List.mem_singleton, forall_eq]; exact fun k ⟨R, hR, hk⟩ => h.own R hR k hk, by simp⟩
theorem St.unpack {Rk : List Res} (h : St M w0 w (Res.all Rs :: Rk)) : St M w0 w (Rs ++ Rk) := by
  have ha := h.holds (Res.all Rs) (by simp)
  refine ⟨h.os, h.tape, h.output, h.size, h.block, fun R hR => ?_, fun R hR k hk => ?_, ?_⟩
  · rcases List.mem_append.1 hR with hR | hR
    · exact ha.1 R hR
    · exact h.holds R (by simp [hR])
  · rcases List.mem_append.1 hR with hR | hR
    · exact h.own (Res.all Rs) (by simp) k ⟨R, hR, hk⟩
    · exact h.own R (by simp [hR]) k hk
  · have hd := List.pairwise_cons.1 h.disj
    exact List.pairwise_append.2 ⟨ha.2, hd.2, fun R hR R' hR' k hk => hd.1 R' hR' k ⟨R, hR, hk⟩⟩
theorem St.only (h : R.holds w) : St R.fp w w [R] := St.start1 h
theorem St.open (h : (Res.all Rs).holds w) : St (Res.all Rs).fp w w Rs := by
  have := (St.start1 h).unpack
  simpa using this
/-- An object that is no cells, of one's own. -/
def Thing (b : Nat) (o : Obj) : Res where
  holds w := w.heap[b]? = some o
  fp k := k = b
  lt := fun w h k hk => by subst hk; exact lt_of_heap h
  stable := fun w w' h hs => (hs b rfl).trans h
theorem St.thing (h : St M w0 w Rs) (o : Obj) : St M w0 (w.alloc o) (Thing w.heap.size o :: Rs) := by
  have h1 : St no w (w.alloc o) [Thing w.heap.size o] := by
    refine ⟨rfl, rfl, rfl, by simp, fun k hk _ => Below.heap_alloc w _ k hk, ?_, ?_, by simp⟩
    · simp only [List.mem_singleton, forall_eq]; exact heap_alloc_new w _
    · simp only [List.mem_singleton, forall_eq]; exact fun k hk => .inr (by simp [Thing] at hk; omega)
  exact h.call0 h1
theorem St.putThing {b : Nat} {o : Obj} (h : St M w0 w Rs) (i : Nat) (hi : Rs[i]? = some (Thing b o)) (o' : Obj) : St M w0 (w.putObj b o') (Thing b o' :: Rs.eraseIdx i) := by
  have hb : w.heap[b]? = some o := h.get i hi
  exact h.upd i hi (fun _ hk => hk) (World.putObj_heap_same (lt_of_heap hb)) rfl rfl rfl World.putObj_size (fun k hk => World.putObj_heap_other hk)
end
/-- What was there at the start, and may not be written, is there. -/
theorem St.hle {M : Nat → Prop} {w0 w : World} {Rs : List Res} {h : Hp} (H : St M w0 w Rs) (hle : h.le w0) (hd : ∀ k o, h k = some o → ¬ M k) : h.le w := by
  intro k o hk
  have := hle k o hk
  rw [H.block k (lt_of_heap this) (hd k o hk)]; exact this
/-- What lies outside of M, and of one's own, as it is now. -/
noncomputable def outer (M : Nat → Prop) (w : World) (Rs : List Res) : Hp := hp (fun k => M k ∨ (Res.all Rs).fp k) w
theorem hp_get {M : Nat → Prop} {w : World} {k : Nat} {o : Obj} (h : hp M w k = some o) : w.heap[k]? = some o ∧ ¬ M k := by
  unfold hp at h
  split at h
  · cases h
  · rename_i hn; exact ⟨h, hn⟩
theorem hp_mk {M : Nat → Prop} {w : World} {k : Nat} {o : Obj} (h : w.heap[k]? = some o) (hn : ¬ M k) : hp M w k = some o := by
  unfold hp
  rw [if_neg hn]; exact h
theorem outer_le {M : Nat → Prop} {w : World} {Rs : List Res} : (outer M w Rs).le w := fun k o h => (hp_get h).1
theorem St.outer {M : Nat → Prop} {w0 w : World} {Rs : List Res} (H : St M w0 w Rs) : ∀ b o, hp M w0 b = some o → outer M w Rs b = some o := by
  intro b o h
  obtain ⟨h1, h2⟩ := hp_get h
  have hlt := lt_of_heap h1
  refine hp_mk (by rw [H.block b hlt h2]; exact h1) ?_
  rintro (y | ⟨R, hR, hk⟩)
  · exact h2 y
  · rcases H.own R hR b hk with z | z
    · exact h2 z
    · omega
/-! ### Yield, and iterators -/
/-- A yield that takes what reads as x (AR), from state s to what q says. -/
structure YOk {α σ τ : Type} (P : Program) (AR : World → Array Value → α → Prop) (h : Hp) (yv : Value) (Z : σ → τ → Res) (q : α → σ → Option (σ × Bool)) : Prop where
  ok : ∃ L, yv = .func (.yield L) #[] #[] ∧ ∀ (vs : Array Value) (x : α) (s : σ) (t : τ) (s' : σ) (b : Bool) (w : World), h.le w → (∀ k o, h k = some o → ¬ (Z s t).fp k) → (Z s t).holds w → AR w vs x → q x s = some (s', b) →
    Rnd P L vs w (fun v w' => v = vb b ∧ ∃ t', St (Z s t).fp w w' [Z s' t'])
/-- A function value that hands to yield what ap says; C: its own memory. -/
structure ItOk {α : Type} (P : Program) (AR : World → Array Value → α → Prop) (fv : Value) (ap : (σ : Type) → (α → σ → Option (σ × Bool)) → σ → Option σ) (C : Res) : Prop where
  ok : ∃ k cap, fv = .func (.func k) #[] cap ∧ (∀ args w, (callFunc k args).run P w = .ok (.enter k args) w) ∧
    ∀ (σ τ : Type) (Z : σ → τ → Res) (q : α → σ → Option (σ × Bool)) (h : Hp) (yv : Value), YOk P AR h yv Z q → ∀ (s : σ) (t : τ) (r : σ) (w : World), ap σ q s = some r → C.holds w → h.le w → (∀ k o, h k = some o → ¬ (Z s t).fp k) → (Z s t).holds w →
      (∀ k, C.fp k → ¬ (Z s t).fp k) → Ret P k (#[yv] ++ cap) w (fun v w' => ∃ t', St (Z s t).fp w w' [Z r t'])
/-- A call of yield, in a walk: the state is the resource i. -/
theorem YOk.call {α σ τ : Type} {P : Program} {AR : World → Array Value → α → Prop} {h : Hp} {yv : Value} {Z : σ → τ → Res} {q : α → σ → Option (σ × Bool)} (hy : YOk P AR h yv Z q)
    {r : Option Nat} {Q : Exit → Act → World → Prop} {a : Act} {M : Nat → Prop} {w0 w : World} {Rs : List Res} {ops : Array Oper} {k : Nat} {o : Oper} {s s' : σ} {t : τ} {b : Bool} {x : α} {vs : Array Value}
    (H : St M w0 w Rs) (hle : h.le w0) (hdis : ∀ k o, h k = some o → ¬ M k) (i : Nat) (hi : Rs[i]? = some (Z s t)) (hq : q x s = some (s', b)) (ho : ops[k]? = some o) (hw : Region.wanted o (yielded ops a.tmps) = true)
    {X : Operand} {Ys : Array Operand} {ats : Array TypeId} (hop : o.op = .call ⟨.value X, Ys, ats⟩) (hX : a.eval X = yv) (hY : Ys.map a.eval = vs) (hv : AR w vs x)
    (n : ∀ t' w', St M w0 w' (Z s' t' :: Rs.eraseIdx i) → WPI r P ops Q (k + 1) (a.put o.dst (vb b)) w') : WPI r P ops Q k a w := by
  obtain ⟨L, rfl, hh⟩ := hy.ok
  have hdz : ∀ k o, h k = some o → ¬ (Z s t).fp k := fun k o hk hz => by
    rcases H.own _ (List.mem_of_getElem? hi) k hz with y | y
    · exact hdis k o hk y
    · have := lt_of_heap (hle k o hk); omega
  refine WPI.yield (L := L) (args := vs) ho hw ?_ (hh vs x s t s' b w (H.hle hle hdis) hdz (H.get i hi) hv hq) ?_
  · simp only [execOp, hop, resolve, hX, hY, Sem.run_bind, Deferred.ofValue, Sem.run_pure, Result.andThen_ok, invoke]
    simp
  · rintro v w' ⟨rfl, t', h'⟩
    exact n t' w' (H.call1 i hi h')
/-! ### The statement -/
abbrev mk (D : Nat) : Deferred := { target := .collected D, args := #[] }
abbrev DMark (D : Nat) : Res := Thing D (.deferred (some []))
def recAt (rc : Loop) (J : Nat → Option Code) (j : Nat) : Loop := { rc with state := if (J j).isNone then .ready else .done, pending := J j }
abbrev busy (rc : Loop) : Loop := { rc with state := .busy, pending := none }
/-- How a round's body ends: at a jump's number. -/
def RP (J : Nat → Option Code) (Done : Nat → World → Prop) : Exit → Act → World → Prop
  | .normal, _, w => ∃ j, J j = none ∧ Done j w
  | .ret, _, w => ∃ j, J j = some .ret ∧ Done j w
  | .exit id, _, w => ∃ j, J j = some (.exit id) ∧ Done j w
  | _, _, _ => False
/-- behind the assignments: the round is rbegun -/
def Begun (P : Program) (L : Nat) (K : Act → World → Prop) : Exit → Act → World → Prop :=
  Exit.then (fun a w => ∃ w2, (Instr.beginRound L).run P w = .ok () w2 ∧ K a w2) (fun _ _ _ => False)
theorem rbegun {P : Program} {L : Nat} {K : Act → World → Prop} {a : Act} {M : Nat → Prop} {w0 w : World} {Rs : List Res} {rc : Loop} (H : St M w0 w Rs) (i : Nat) (hi : Rs[i]? = some (Thing L (.loop rc)))
    (hr : rc.state = .ready) (hp : rc.pending = none) (n : ∀ w', St M w0 w' (Thing L (.loop (busy rc)) :: Rs.eraseIdx i) → K a w') : Begun P L K .normal a w := by
  refine ⟨w.putObj L (.loop { rc with state := .busy }), run_beginRound (H.get i hi) hr, n _ ?_⟩
  have := H.putThing i hi (.loop { rc with state := .busy })
  have e : busy rc = { rc with state := .busy } := by cases rc; simp only [busy, Loop.mk.injEq] at *; simp [hp]
  rw [e]; exact this
/-- what the activation does behind the loop -/
def Aft (P : Program) (Q : Exit → Act → World → Prop) (J : Nat → Option Code) (j : Nat) (a : Act) (w : World) : Prop := match J j with | none => Q .normal a w | some c => WP none P c Q a w
theorem aft_n {P : Program} {Q : Exit → Act → World → Prop} {J : Nat → Option Code} {j : Nat} {a : Act} {w : World} (h : J j = none) (n : Q .normal a w) : Aft P Q J j a w := by unfold Aft; rw [h]; exact n
theorem aft_c {P : Program} {Q : Exit → Act → World → Prop} {J : Nat → Option Code} {j : Nat} {a : Act} {w : World} (c : Code) (h : J j = some c) (n : WP none P c Q a w) : Aft P Q J j a w := by unfold Aft; rw [h]; exact n
theorem WP.frame {r : Option Nat} {P : Program} {c : Code} {Q : Exit → Act → World → Prop} {a a' : Act} {w : World} (h : a = a') (n : WP r P c Q a' w) : WP r P c Q a w := h ▸ n
theorem WP.range {α σ τ : Type} {P : Program} {AR : World → Array Value → α → Prop} {fv : Value} {ap : (σ : Type) → (α → σ → Option (σ × Bool)) → σ → Option σ} {C : Res} {Q : Exit → Act → World → Prop} {a : Act} {M : Nat → Prop} {w0 w : World} {Rs : List Res}
    {g : Operand} {ps : Array Tmp} {assign body : Code} (H : St M w0 w (C :: Rs)) (hit : ItOk P AR fv ap C) (hg : a.eval g = fv)
    (h : Hp) (hhle : h.le w) (hhd : ∀ k o, h k = some o → ∀ R ∈ Rs, ¬ R.fp k)
    (Z : σ → τ → List Res) (J : Nat → Option Code) (q : α → σ × Nat → Option ((σ × Nat) × Bool)) (s0 : σ) (t0 : τ) (hZ : Z s0 t0 = Rs) (hJ : J 0 = none) (r : σ × Nat) (hq : ap (σ × Nat) q (s0, 0) = some r)
    (hps : ∀ w vs x, AR w vs x → vs.size = ps.size)
    (round : ∀ (L : Nat) (rc : Loop) (vs : Array Value) (x : α) (s : σ) (t : τ) (z : (σ × Nat) × Bool) (M1 : Nat → Prop) (w1 : World), rc.state = .ready → rc.pending = none → AR w1 vs x → q x (s, 0) = some z → h.le w1 → (∀ k o, h k = some o → ¬ M1 k) →
      St M1 w1 w1 (Thing L (.loop rc) :: Z s t) → WP (some L) P assign (Begun P L (WP (some L) P body (RP J fun j w2 => ∃ s' t', z = ((s', j), (J j).isNone) ∧ St M1 w1 w2 (Thing L (.loop (busy rc)) :: Z s' t'))))
        { tmps := (ps.zip vs).foldl (fun tmps (t, v) => tmps.setIfInBounds t v) a.tmps, defers := [] } w1)
    (hstop : ∀ x s j, J j ≠ none → q x (s, j) = none) (hnone : ∀ j, J j = none → j = 0)
    (after : ∀ D t' w', St M w0 w' (DMark D :: C :: Z r.1 t') → Aft P Q J r.2 { a with defers := mk D :: a.defers } w') :
    WP none P (.rangeFunc g ps assign body) Q a w := by
  refine wpIn_rangeFunc ?_
  intro fn _
  obtain ⟨k, cap, hfv, hk, hcall⟩ := hit.ok
  obtain ⟨rc, hrc⟩ : ∃ rc : Loop, rc = { state := .ready, pending := none, fn, tmps := a.tmps, params := ps, assign, body, defers := w.heap.size } := ⟨_, rfl⟩
  have H1 := (H.thing (.deferred (some []))).thing (.loop rc)
  have hsz : (w.alloc (.deferred (some []))).heap.size = w.heap.size + 1 := by simp
  rw [hsz] at H1
  generalize hW1 : (w.alloc (.deferred (some []))).alloc (.loop rc) = W1 at H1
  have hrc0 : recAt rc J 0 = rc := by subst hrc; simp [recAt, hJ]
  -- the iterator's consumer, as one resource
  let ZZ : σ × Nat → τ → Res := fun s t => Res.all (Thing (w.heap.size + 1) (.loop (recAt rc J s.2)) :: Z s.1 t)
  have HS := H1.sel (Rs' := Thing (w.heap.size + 1) (.loop rc) :: Rs) (0 :: (List.range Rs.length).map (· + 3)) (by
      refine List.nodup_cons.2 ⟨by simp, ?_⟩
      rw [List.Nodup, List.pairwise_map]
      exact List.nodup_range.imp (fun h => by omega)) (by
      simp only [List.map_cons, List.map_map]
      congr 1
      apply List.ext_getElem?
      intro i
      by_cases hi : i < Rs.length
      · simp [hi]
      · simp [hi])
  have hz0 : (ZZ (s0, 0) t0).holds W1 := by
    show (Res.all (Thing (w.heap.size + 1) (.loop (recAt rc J 0)) :: Z s0 t0)).holds W1
    rw [hrc0, hZ]; exact HS.all
  have hfp0 : ∀ k, (ZZ (s0, 0) t0).fp k ↔ (Res.all (Thing (w.heap.size + 1) (.loop rc) :: Rs)).fp k := by
    intro k
    show (Res.all (Thing (w.heap.size + 1) (.loop (recAt rc J 0)) :: Z s0 t0)).fp k ↔ _
    rw [hrc0, hZ]
  have hCd : ∀ k, C.fp k → ¬ (ZZ (s0, 0) t0).fp k := by
    intro k hC hz
    obtain ⟨R, hR, hk⟩ := (hfp0 k).1 hz
    have hd := H1.disj
    simp only [List.pairwise_cons] at hd
    rcases List.mem_cons.1 hR with rfl | hR
    · exact hd.1 C (by simp) k hk hC
    · exact hd.2.2.1 R hR k hC hk
  have hDd : ∀ k, (DMark w.heap.size).fp k → ¬ (ZZ (s0, 0) t0).fp k := by
    intro k hD hz
    obtain ⟨R, hR, hk⟩ := (hfp0 k).1 hz
    have hd := H1.disj
    simp only [List.pairwise_cons] at hd
    rcases List.mem_cons.1 hR with rfl | hR
    · exact hd.1 (DMark w.heap.size) (by simp) k hk hD
    · exact hd.2.1 R (by simp [hR]) k hD hk
  have hhz : ∀ k o, h k = some o → ¬ (ZZ (s0, 0) t0).fp k := by
    intro k o hk hz
    obtain ⟨R, hR, hkk⟩ := (hfp0 k).1 hz
    rcases List.mem_cons.1 hR with rfl | hR
    · have h1 : k = w.heap.size + 1 := hkk
      have := lt_of_heap (hhle k o hk); omega
    · exact hhd k o hk R hR hkk
  have hhl1 : h.le W1 := by
    intro k o hk
    have h1 := hhle k o hk
    have hlt := lt_of_heap h1
    rw [← hW1, Below.heap_alloc _ _ k (by simp; omega), Below.heap_alloc _ _ k hlt]; exact h1
  have hY : YOk P AR h (.func (.yield (w.heap.size + 1)) #[] #[]) ZZ q := by
    refine ⟨w.heap.size + 1, rfl, ?_⟩
    rintro vs x ⟨s, j⟩ t ⟨s', j'⟩ b w1 hle1 hdis1 hz hv hqx
    by_cases hj : J j = none
    · have := hnone j hj
      subst this
      have hz' : (Res.all (Thing (w.heap.size + 1) (.loop rc) :: Z s t)).holds w1 := by rw [← hrc0]; exact hz
      have hst := St.open hz'
      have hL : w1.heap[w.heap.size + 1]? = some (.loop rc) := hst.get 0 rfl
      have hy := run_yield (P := P) (args := vs) hL (by rw [hrc]; exact hps w1 vs x hv)
      rw [show rc.fn = fn from by rw [hrc], show rc.params = ps from by rw [hrc], show rc.tmps = a.tmps from by rw [hrc], show rc.assign = assign from by rw [hrc], show rc.body = body from by rw [hrc]] at hy
      refine ⟨fn, _, assign, body, hy, ?_⟩
      have hfpe : ∀ k, (ZZ (s, 0) t).fp k ↔ (Res.all (Thing (w.heap.size + 1) (.loop rc) :: Z s t)).fp k := by
        intro k
        show (Res.all (Thing (w.heap.size + 1) (.loop (recAt rc J 0)) :: Z s t)).fp k ↔ _
        rw [hrc0]
      have hM : (Res.all (Thing (w.heap.size + 1) (.loop rc) :: Z s t)).fp = (ZZ (s, 0) t).fp := funext fun k => propext (hfpe k).symm
      rw [hM] at hst
      refine roundIn_of_wpIn trivial (wpIn_mono (round (w.heap.size + 1) rc vs x s t ((s', j'), b) _ w1 (by rw [hrc]) (by rw [hrc]) hv hqx hle1 hdis1 hst) ?_)
      intro e a2 w2 hb
      have fin : ∀ (jc : Option Code) (j1 : Nat), J j1 = jc → ∀ w3, (∃ s1 t1, (((s', j'), b) : (σ × Nat) × Bool) = ((s1, j1), (J j1).isNone) ∧ St (ZZ (s, 0) t).fp w1 w3 (Thing (w.heap.size + 1) (.loop (busy rc)) :: Z s1 t1)) →
          ∃ v w4, (Instr.endRound (w.heap.size + 1) jc).run P w3 = .ok v w4 ∧ ∃ v', Ending.returned v = .returned v' ∧ (v' = vb b ∧ ∃ t', St (ZZ (s, 0) t).fp w1 w4 [ZZ (s', j') t']) := by
        rintro jc j1 hj1 w3 ⟨s1, t1, he, h3⟩
        obtain ⟨⟨rfl, rfl⟩, rfl⟩ := by simpa [Prod.mk.injEq] using he
        have hg3 : w3.heap[w.heap.size + 1]? = some (.loop (busy rc)) := h3.get 0 rfl
        refine ⟨_, _, run_endRound jc hg3, _, rfl, by rw [hj1], t1, ?_⟩
        have := h3.putThing 0 rfl (.loop (recAt rc J j'))
        have e2 : ({ busy rc with state := if jc.isNone then .ready else .done, pending := jc } : Loop) = recAt rc J j' := by simp [recAt, hj1]
        rw [e2]
        exact this.pack
      revert hb
      cases e with
      | normal =>
        rintro ⟨w5, hbr, hbody⟩
        refine ⟨w5, hbr, wpIn_mono hbody ?_⟩
        intro e3 a3 w3 h3
        cases e3 with
        | normal => obtain ⟨j1, hj1, hd⟩ := h3; exact fin none j1 hj1 w3 hd
        | ret => obtain ⟨j1, hj1, hd⟩ := h3; exact fin (some .ret) j1 hj1 w3 hd
        | exit id => obtain ⟨j1, hj1, hd⟩ := h3; exact fin (some (.exit id)) j1 hj1 w3 hd
        | goto l => exact h3.elim
        | panic c => exact h3.elim
        | outgrown => exact h3.elim
      | exit id => exact fun h => h.elim
      | goto t => exact fun h => h.elim
      | ret => exact fun h => h.elim
      | panic c => exact fun h => h.elim
      | outgrown => exact fun h => h.elim
    · rw [hstop x s j hj] at hqx; cases hqx
  refine ⟨w.heap.size + 1, [mk w.heap.size], W1, { target := .fn (.func k) cap, args := #[.func (.yield (w.heap.size + 1)) #[] #[]] }, W1, k, #[.func (.yield (w.heap.size + 1)) #[] #[]] ++ cap, W1, ?_, ?_, fun _ _ => trivial, ?_, fun h => (by simp [FW] at h), ?_⟩
  · rw [← hW1, hrc]; exact run_enterLoop_outer _ _ _ _ _
  · simp only [resolve, hg, hfv]
    simp [go_sem]
  · simp only [invoke]; exact hk _ _
  · refine callsIn_FW.2 (Calls.mono (hcall (σ × Nat) τ ZZ q h _ hY (s0, 0) t0 r W1 hq (H1.get 2 rfl) hhl1 hhz hz0 hCd) ?_)
    rintro e w' ⟨v, rfl, t', h'⟩
    -- behind the call
    have hN : ∀ k, (ZZ (s0, 0) t0).fp k → M k ∨ w0.heap.size ≤ k := by
      intro k hz
      obtain ⟨R, hR, hk⟩ := (hfp0 k).1 hz
      refine H1.own R ?_ k hk
      rcases List.mem_cons.1 hR with rfl | hR
      · simp
      · simp [hR]
    have H2 := H1.call (ZZ (s0, 0) t0).fp [1, 2] (by decide) [DMark w.heap.size, C] rfl hN (by
      intro R hR k hk
      simp only [List.mem_cons, List.not_mem_nil, or_false] at hR
      rcases hR with rfl | rfl
      · exact hDd k hk
      · exact hCd k hk) h'
    have H3 : St M w0 w' (Thing (w.heap.size + 1) (.loop (recAt rc J r.2)) :: Z r.1 t' ++ [DMark w.heap.size, C]) := H2.unpack
    have hg3 : w'.heap[w.heap.size + 1]? = some (.loop (recAt rc J r.2)) := H3.get 0 rfl
    have H4 := H3.putThing 0 rfl (.loop { recAt rc J r.2 with state := .exhausted })
    refine ⟨J r.2, _, run_endLoop hg3 (by simp only [recAt]; split <;> simp), ?_⟩
    have H5 := H4.sel (Rs' := DMark w.heap.size :: C :: Z r.1 t') ((1 + (Z r.1 t').length) :: (2 + (Z r.1 t').length) :: (List.range (Z r.1 t').length).map (· + 1)) (by
        refine List.nodup_cons.2 ⟨by simp; omega, List.nodup_cons.2 ⟨by simp; omega, ?_⟩⟩
        rw [List.Nodup, List.pairwise_map]
        exact List.nodup_range.imp (fun h => by omega)) (by
        simp only [List.map_cons, List.map_map, List.eraseIdx_cons_zero, List.cons_append]
        rw [show (1 + (Z r.1 t').length) = (Z r.1 t').length + 1 from by omega, show (2 + (Z r.1 t').length) = (Z r.1 t').length + 1 + 1 from by omega]
        simp only [List.getElem?_cons_succ]
        rw [List.getElem?_append_right (by omega), List.getElem?_append_right (by omega)]
        simp only [Nat.sub_self, show (Z r.1 t').length + 1 - (Z r.1 t').length = 1 from by omega, List.getElem?_cons_zero, List.getElem?_cons_succ]
        congr 2
        apply List.ext_getElem?
        intro i
        by_cases hi : i < (Z r.1 t').length
        · simp [hi, List.getElem?_append_left hi]
        · simp [hi])
    have := after w.heap.size t' _ H5
    unfold Aft at this
    revert this
    cases J r.2 with
    | none => exact fun h => h
    | some c => exact fun h => h
/-! ### A function with such loops -/
def Unw (P : Program) (fn : Func) (R : Value → World → Prop) (tmps : Array Value) : List Nat → World → Prop
  | [], w => ∃ v, (results fn tmps).run P w = .ok v w ∧ R v w
  | D :: ds, w => ∃ w', (Instr.takeDeferred D).run P w = .ok [] w' ∧ Unw P fn R tmps ds w'
def PostM (P : Program) (fn : Func) (R : Value → World → Prop) : Exit → Act → World → Prop
  | .normal, a, w | .ret, a, w => ∃ ds : List Nat, a.defers = ds.map mk ∧ Unw P fn R a.tmps ds w
  | _, _, _ => False
theorem leaves_unw {P : Program} {fn : Func} {R : Value → World → Prop} {tmps : Array Value} : ∀ (ds : List Nat) (w : World), Unw P fn R tmps ds w →
    LeavesInM (FW none) 0 P fn tmps (fun e w' => ∃ v, e = .returned v ∧ R v w') (ds.map mk) .returning w
  | [], w, ⟨v, h1, h2⟩ => ⟨v, h1, v, rfl, h2⟩
  | D :: ds, w, ⟨w', h1, h2⟩ => ⟨by simp, .inl ⟨D, w', rfl, h1, leaves_unw ds w' h2⟩⟩
theorem ret_of_wpM {P : Program} {f : FuncId} {fn : Func} {c : Code} {args : Array Value} {w : World} {R : Value → World → Prop}
    (hf : P.funcs[f]? = some fn) (hb : fn.body = some c) (tmps : Array Value) (ht : args ++ Array.replicate (fn.ntmps - args.size) undef = tmps)
    (h : WP none P c (PostM P fn R) { tmps := tmps, defers := [] } w) : Ret P f args w R := by
  subst ht
  refine (callsIn_FW (r := none) (n := 0)).1 (callsIn_of_wp_marks hf hb trivial (wpIn_mono h ?_) rfl)
  intro e a w' q
  cases e with
  | normal => obtain ⟨ds, hd, h⟩ := q; show LeavesInM _ _ _ _ _ _ a.defers _ _; rw [hd]; exact leaves_unw ds w' h
  | ret => obtain ⟨ds, hd, h⟩ := q; show LeavesInM _ _ _ _ _ _ a.defers _ _; rw [hd]; exact leaves_unw ds w' h
  | exit id => exact q.elim
  | goto l => exact q.elim
  | panic c => exact q.elim
  | outgrown => exact q.elim
theorem postM {P : Program} {fn : Func} {R : Value → World → Prop} {a : Act} {w : World} {e : Exit} (he : e = .ret ∨ e = .normal) (ds : List Nat) (hd : a.defers = ds.map mk) (h : Unw P fn R a.tmps ds w) : PostM P fn R e a w := by
  rcases he with rfl | rfl <;> exact ⟨ds, hd, h⟩
theorem Unw.mark {P : Program} {fn : Func} {R : Value → World → Prop} {tmps : Array Value} {D : Nat} {ds : List Nat} {M : Nat → Prop} {w0 w : World} {Rs : List Res} (H : St M w0 w Rs) (i : Nat) (hi : Rs[i]? = some (DMark D))
    (n : ∀ w', St M w0 w' (Rs.eraseIdx i) → Unw P fn R tmps ds w') : Unw P fn R tmps (D :: ds) w := by
  refine ⟨_, run_takeDeferred (H.get i hi), n _ ?_⟩
  have h := H.putThing i hi (.deferred none)
  refine h.sel ((List.range (Rs.eraseIdx i).length).map (· + 1)) ?_ ?_
  · rw [List.Nodup, List.pairwise_map]
    exact List.nodup_range.imp (fun h => by omega)
  · simp only [List.map_map]
    apply List.ext_getElem?
    intro j
    by_cases hj : j < (Rs.eraseIdx i).length
    · simp [hj]
    · simp [hj]
theorem ItOk.form {α : Type} {P : Program} {AR : World → Array Value → α → Prop} {fv : Value} {ap : (σ : Type) → (α → σ → Option (σ × Bool)) → σ → Option σ} {C : Res} (h : ItOk P AR fv ap C) : ∃ k cap, fv = .func (.func k) #[] cap :=
  let ⟨k, cap, e, _⟩ := h.ok; ⟨k, cap, e⟩
section
variable {α β γ δ : Type}
def bd2 (a : Option (α × β)) (f : α → β → Option γ) : Option γ := match a with | some (x, y) => f x y | none => none
theorem bd2_some {a : Option (α × β)} {f : α → β → Option γ} {r : γ} (h : bd2 a f = some r) : ∃ x y, a = some (x, y) ∧ f x y = some r := by
  cases a with
  | none => cases h
  | some p => obtain ⟨x, y⟩ := p; exact ⟨x, y, rfl, h⟩
def sw (j k : Nat) (x y : Option γ) : Option γ := match Nat.beq j k with | true => x | false => y
def rq (f : α → β → Option ((β × Nat) × Bool)) (x : α) (z : β × Nat) : Option ((β × Nat) × Bool) := match z.2 with | 0 => f x z.1 | _ + 1 => none
end
theorem rq_get {α β : Type} {f : α → β → Option ((β × Nat) × Bool)} {x : α} {s : β} {z : (β × Nat) × Bool} (h : rq f x (s, 0) = some z) : f x s = some z := h
theorem sw_t {γ : Type} {k : Nat} {x y : Option γ} {r : γ} (h : sw k k x y = some r) : x = some r := by
  unfold sw at h; rw [Nat.beq_refl] at h; exact h
theorem sw_f {γ : Type} {j k : Nat} {x y : Option γ} {r : γ} (hn : Nat.beq j k = false) (h : sw j k x y = some r) : y = some r := by
  unfold sw at h; rw [hn] at h; exact h
def jmp (js : List Code) : Nat → Option Code
  | 0 => none
  | j + 1 => some (js.getD j .ret)
theorem jmp_none (js : List Code) : ∀ j, jmp js j = none → j = 0
  | 0, _ => rfl
  | j + 1, h => by cases h
theorem rq_stop {α β : Type} (js : List Code) (f : α → β → Option ((β × Nat) × Bool)) : ∀ x s j, jmp js j ≠ none → rq f x (s, j) = none := by
  intro x s j hj
  cases j with
  | zero => exact absurd rfl hj
  | succ j => rfl
theorem mem_all {R : Res} {Rs : List Res} {w : World} (h : (Res.all Rs).holds w) (i : Nat) (hi : Rs[i]? = some R) : R.holds w := h.1 R (List.mem_of_getElem? hi)
theorem mem_fp {R : Res} {Rs : List Res} {N : Nat → Prop} (h : ∀ k, (Res.all Rs).fp k → ¬ N k) (i : Nat) (hi : Rs[i]? = some R) : ∀ k, R.fp k → ¬ N k := fun k hk => h k ⟨R, List.mem_of_getElem? hi, hk⟩
theorem box_hp {N : Nat → Prop} {b : Nat} {cs : Array Value} {E : TypeId} {w : World} (h : (Box b cs E).holds w) (hd : ∀ k, (Box b cs E).fp k → ¬ N k) : CellsAt (hp N w) ⟨b, 0, none⟩ cs.toList :=
  ⟨rfl, cs, E, (0, 0), hp_mk h (hd b rfl), fun j u hu => by simpa using hu⟩
/-- A store of a slice into a variable of one's own. -/
theorem Op1.storeBoxS {P : Program} {a : Act} {w : World} {ops : Array Oper} {o : Oper} {K : Act → World → Prop} {M : Nat → Prop} {w0 : World} {Rs : List Res} {b m : Nat} {cs : Array Value} {E : TypeId} (H : St M w0 w Rs) (i : Nat) (hi : Rs[i]? = some (Box b cs E))
    (hw : Region.wanted o (yielded ops a.tmps) = true) (T : TypeId) (x y : Operand) (off : Nat) (v : Value) (cs' : Array Value) (hv : IsSl v m) (ho : o.op = .store T x y)
    (hx : a.eval x = va ((⟨b, 0, none⟩ : Addr).add off)) (hy : a.eval y = v) (ht : tsz P T = some (false, 1)) (hfit : Nat.ble (off + 1) cs.size = true)
    (hcs : (stl cs.toList off [v]).toArray = cs')
    (n : ∀ w', St M w0 w' (Box b cs' E :: Rs.eraseIdx i) → K (a.put o.dst undef) w') : Op1 P ops o K a w := by
  obtain ⟨ad, cap, rfl, _⟩ := hv
  exact Op1.storeBox H i hi hw T x y off _ cs' false ho hx hy ht hfit hcs (by simp [Value.cells, Value.oneCell']) n
/-- What a round may read of the outside. -/
theorem outer_dis {M : Nat → Prop} {w : World} {Rs : List Res} : ∀ k o, outer M w Rs k = some o → ∀ R ∈ Rs, ¬ R.fp k := fun k o h R hR hk => (hp_get h).2 (.inr ⟨R, hR, hk⟩)
end Gw
