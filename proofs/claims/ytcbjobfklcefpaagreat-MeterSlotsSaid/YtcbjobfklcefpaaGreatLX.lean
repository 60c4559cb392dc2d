/- Which books may be: the program's answer and the page's are the same. -/
import Derived.Test.YtcbjobfklcefpaaGreatLW
set_option linter.unusedVariables false
set_option linter.unusedSimpArgs false
set_option maxRecDepth 100000
set_option maxHeartbeats 400000
namespace Go.Proofs
open Gw
attribute [local irreducible] idS txOK markS txB bytesL
def idsT (l : List TTx) : List Int := l.map idS
def idsH (l : List THeld) : List Int := l.map fun x => idS x.Tx
def WideP (b : TBook) : Prop := headB b.Head = true ∧ acctsB b.Accts = true ∧ limboB b.Limbo = true ∧ b.Txs.length ≤ 48 ∧ RR b.Accts b.Txs (-1) ∧ (idsT b.Txs ++ idsH b.Limbo).Nodup
noncomputable def wideB (b : TBook) : Bool := @decide (WideP b) (Classical.propDecidable _)
theorem wideB_iff (b : TBook) : wideB b = true ↔ WideP b := by unfold wideB; exact @decide_eq_true_iff _ (Classical.propDecidable _)
theorem wideB_f {b : TBook} (h : ¬ WideP b) : wideB b = false := by
  cases e : wideB b
  · rfl
  · exact absurd ((wideB_iff b).1 e) h
/-- what the machine lets a book be, and its weight -/
structure WF (b : TBook) : Prop where
  txs : UTs b.Txs
  lim : UHs b.Limbo
  acc : ∀ a ∈ b.Accts, U a.Balance ∧ I1 a.Nonce
  sT : ∀ t ∈ b.Txs, Sm t
  sL : ∀ x ∈ b.Limbo, Sm x.Tx
  nT : b.Txs.length < 100000
  nL : b.Limbo.length < 100000
  nA : b.Accts.length < 100000
  room : I1 b.Room
theorem pool_IDs {l : List TTx} (hl : l.length < 100000) {f : Nat} (hf : 100000 ≤ f) (hid : ∀ t ∈ l, IDa f t) (hok : ∀ t ∈ l, txOK t = true) : g_pool_IDs f l = some (idsT l) := by
  simp only [g_pool_IDs, p_jn]
  refine idx_loop (fun n (s : List Int) i => g_pool_IDs_l1 l f _ n s i) l.length (fun i => idsT (l.take i)) _ ?_ ?_ f (by omega)
  · intro n
    try simp only
    rw [g_pool_IDs_l1]
    simp only [p_lt]
    rw [dec_f (by omega), p_brf, List.take_of_length_le (Nat.le_refl _)]
  · intro n i hi
    try simp only
    rw [g_pool_IDs_l1]
    simp only [p_lt]
    have hx : l[i]? = some l[i] := List.getElem?_eq_getElem hi
    rw [dec_t (by omega), p_brt, p_ix hx, hid _ (List.getElem_mem _), p_bd, if_pos (hok _ (List.getElem_mem _)), p_gd (by simp [idsT]; omega), wr_s i (by omega)]
    congr 1
    unfold idsT
    rw [← List.take_append_getElem hi, List.map_append]; rfl
theorem wide_l1 {b : TBook} (hb : WF b) {f : Nat} (hf : 300000 ≤ f) (hid : ∀ x ∈ b.Limbo, IDa f x.Tx) (hok : ∀ x ∈ b.Limbo, txOK x.Tx = true) (l0 : List Int) (hl0 : l0.length < 100000) (K : List Int → Option Bool) :
    g_pool_Wide_l1 b f K f l0 0 = K (l0 ++ idsH b.Limbo) := by
  have hL := hb.nL
  have := idx_loop (fun n (s : List Int) i => g_pool_Wide_l1 b f K n s i) b.Limbo.length (fun i => l0 ++ idsH (b.Limbo.take i)) (K (l0 ++ idsH b.Limbo))
    (fun n => by
      rw [g_pool_Wide_l1]
      simp only [p_lt]
      rw [dec_f (by omega), p_brf, List.take_of_length_le (Nat.le_refl _)])
    (fun n i hi => by
      rw [g_pool_Wide_l1]
      simp only [p_lt]
      have hx : b.Limbo[i]? = some b.Limbo[i] := List.getElem?_eq_getElem hi
      rw [dec_t (by omega), p_brt, p_ix hx, hid _ (List.getElem_mem _), p_bd, if_pos (hok _ (List.getElem_mem _)), p_gd (by simp [idsH]; omega), wr_s i (by omega)]
      congr 1
      unfold idsH
      rw [← List.take_append_getElem hi, List.map_append, List.append_assoc]; rfl) f (by omega)
  simpa [idsH] using this
theorem rq0 {α β γ : Type} (f : α → β → Option ((β × Nat) × Bool)) (x : α) (z : β) : rq f x (z, 0) = f x z := rfl
theorem pool_Wide {b : TBook} (hb : WF b) {f : Nat} (hf : 1000000 ≤ f) (hT : ∀ t ∈ b.Txs, IDa f t) (hL : ∀ x ∈ b.Limbo, IDa f x.Tx) : g_pool_Wide f b = some (wideB b) := by
  simp only [g_pool_Wide, p_lt, p_jn, p_br, pool_Head, p_bd]
  have nA := hb.nA; have nT := hb.nT; have nL := hb.nL
  rw [pool_Accts (l := b.Accts) (by omega) (show b.Accts.length < f by omega), p_bd, pool_Limbo nL (show b.Limbo.length < f by omega) hL, p_bd]
  cases h1 : headB b.Head with
  | false => rw [wideB_f fun h => by have := h.1; rw [h1] at this; cases this]; simp
  | true =>
  cases h2 : acctsB b.Accts with
  | false => rw [wideB_f fun h => by have := h.2.1; rw [h2] at this; cases this]; simp
  | true =>
  cases h3 : limboB b.Limbo with
  | false => rw [wideB_f fun h => by have := h.2.2.1; rw [h3] at this; cases this]; simp
  | true =>
  simp only [Bool.not_true, Bool.false_eq_true, if_false]
  by_cases h4 : ((b.Txs.length : Nat) : Int) > 48
  · rw [dec_t h4, wideB_f fun h => by have := h.2.2.2.1; omega]; simp
  rw [dec_f h4]
  simp only [Bool.false_eq_true, if_false, g_pool_chains, p_bd, It_pool_chains.ap, g_pool_chains_1, p_jn]
  have h8 : b.Accts.length = 8 := by
    unfold acctsB at h2
    simp only [Bool.and_eq_true, decide_eq_true_eq] at h2
    exact h2.1
  have hlim := limGo_lt b.Limbo none (by unfold limboB at h3; simp only [Bool.and_eq_true] at h3; exact h3.2)
  have loop := ch_l1 (accts := b.Accts) (rq (fun (x59 : Int × (List TTx)) (_s : Unit) => if decide (x59.1 < 0) = true then some (((), 1), false) else bd (g_chain_Spent f x59.2) fun t77 =>
      if (t77.2 != 0) = true then if True then some (((), 1), false) else some (((), 0), true) else
        gd ((0 : Int) ≤ 0 ∧ 0 < ((List.length x59.2 : Nat) : Int)) (bd (x59.2[Int.toNat 0]?) fun x92 => gd ((0 : Int) ≤ x59.1 ∧ x59.1 < ((List.length b.Accts : Nat) : Int)) (bd (b.Accts[Int.toNat x59.1]?) fun x101 =>
          if (x92.Nonce != x101.Nonce) = true then if True then some (((), 1), false) else some (((), 0), true) else
            gd ((0 : Int) ≤ x59.1 ∧ x59.1 < ((List.length b.Accts : Nat) : Int)) (bd (b.Accts[Int.toNat x59.1]?) fun x104 => bd (g_u256_Cmp f t77.1 x104.Balance) fun t105 => if decide (t105 > 0) = true then some (((), 1), false) else some (((), 0), true))))))
    f (by omega) UTs (fun l F hl => ⟨fun t ht => hl t (by rw [run_app F l]; exact List.mem_append_left _ ht), fun t ht => hl t (by rw [run_app F l]; exact List.mem_append_right _ ht)⟩)
    (fun a m ha hm hne hcc => by
      simp only [rq0]
      obtain ⟨z, hz⟩ : ∃ z, m[0]? = some z := ⟨m[0]'(List.length_pos_iff.2 hne), List.getElem?_eq_getElem _⟩
      have hc : b.Accts[a]? = some (b.Accts[a]'(by omega)) := List.getElem?_eq_getElem _
      obtain ⟨r, hr, e⟩ := (chain_Spent hm (f := f) (by omega)).1 hcc.1
      obtain ⟨c1, c2⟩ := hcc.2 z hz _ hc
      unfold okc at c2
      rw [hr] at c2
      obtain ⟨g, rfl⟩ : ∃ g, f = g + 5 := ⟨f - 5, by omega⟩
      rw [dec_f (by omega), if_neg (by simp), e, p_bd, if_neg (by simp), p_ix0 hz, p_ix hc, if_neg (by simp [c1]), p_ix hc, u256_Cmp, p_bd]
      have c2' := of_decide_eq_true c2
      have c3 : ¬ (cU (r, (0 : Int)).1 (b.Accts[a]'(by omega)).Balance > 0) := by show ¬ (cU r _ > 0); omega
      rw [dec_f c3, if_neg (by simp)])
    (fun a m ha hm hne hcc => by
      simp only [rq0]
      obtain ⟨z, hz⟩ : ∃ z, m[0]? = some z := ⟨m[0]'(List.length_pos_iff.2 hne), List.getElem?_eq_getElem _⟩
      have hc : b.Accts[a]? = some (b.Accts[a]'(by omega)) := List.getElem?_eq_getElem _
      rw [dec_f (by omega), if_neg (by simp)]
      by_cases hch : ChainP m
      · obtain ⟨r, hr, e⟩ := (chain_Spent hm (f := f) (by omega)).1 hch
        rw [e, p_bd, if_neg (by simp), p_ix0 hz, p_ix hc]
        by_cases c1 : z.Nonce = (b.Accts[a]'(by omega)).Nonce
        · obtain ⟨g, rfl⟩ : ∃ g, f = g + 5 := ⟨f - 5, by omega⟩
          rw [if_neg (by simp [c1]), p_ix hc, u256_Cmp, p_bd]
          by_cases c2 : cU r (b.Accts[a]'(by omega)).Balance ≤ 0
          · exfalso
            refine hcc ⟨hch, fun z' hz' c hc' => ?_⟩
            rw [hz] at hz'; rw [hc] at hc'
            cases hz'; cases hc'
            refine ⟨c1, ?_⟩
            unfold okc
            rw [hr]
            exact dec_t c2
          · have c3 : cU (r, (0 : Int)).1 (b.Accts[a]'(by omega)).Balance > 0 := by show cU r _ > 0; omega
            rw [dec_t c3, if_pos rfl]
        · rw [if_pos (by simp [c1]), if_pos trivial]
      · rw [(chain_Spent hm (f := f) (by omega)).2 hch, p_bd, if_pos (by simp), if_pos trivial])
    (fun m => rfl) b.Txs.length b.Txs (-1) f nT (Nat.le_refl _) (by omega) hb.txs (by omega)
  by_cases hR : RR b.Accts b.Txs (-1)
  rotate_left
  · rw [wideB_f fun h => hR h.2.2.2.2.1]
    refine Eq.trans (congrArg (fun o => bd2 o _) (loop.2 hR)) ?_
    rfl
  have hokT : ∀ t ∈ b.Txs, txOK t = true := fun t ht => (hR.1 t ht).1
  refine Eq.trans (congrArg (fun o => bd2 o _) (loop.1 hR)) ?_
  rw [p_bd2, p_sw0, pool_IDs nT (by omega) hT hokT, p_bd, wide_l1 hb (by omega) hL (fun x hx => (hlim.2.2 x hx).1) (idsT b.Txs) (by simp [idsT]; exact nT)]
  have hlen : (idsT b.Txs ++ idsH b.Limbo).length = b.Txs.length + b.Limbo.length := by simp [idsT, idsH]
  obtain ⟨s, e1, e2, e3⟩ := Sort_ok (l := idsT b.Txs ++ idsH b.Limbo) (by omega) (f := f) (by omega)
  rw [e1, p_bd]
  have hsl : s.length = b.Txs.length + b.Limbo.length := by rw [e2.length_eq, hlen]
  obtain ⟨c, e4, e5⟩ := Compact_ok (l := s) (by omega) e3 (f := f) (by omega)
  rw [e4, p_bd, wr_a b.Txs.length b.Limbo.length (by omega) (by omega)]
  have hnd : s.Nodup ↔ (idsT b.Txs ++ idsH b.Limbo).Nodup := e2.nodup_iff
  rw [hsl] at e5
  rw [hnd] at e5
  by_cases hn : (idsT b.Txs ++ idsH b.Limbo).Nodup
  · rw [(wideB_iff b).2 ⟨h1, h2, h3, by omega, hR, hn⟩, e5.2 hn]; simp
  · rw [wideB_f fun h => hn h.2.2.2.2.2]
    have : c.length ≠ b.Txs.length + b.Limbo.length := fun h => hn (e5.1 h)
    congr 1
    simp only [beq_eq_false_iff_ne, ne_eq]
    omega
end Go.Proofs
