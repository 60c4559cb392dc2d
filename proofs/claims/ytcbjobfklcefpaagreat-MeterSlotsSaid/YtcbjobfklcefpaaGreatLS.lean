/- Sorting numbers: the library's sort sorts; who is there once. -/
import Derived.Test.YtcbjobfklcefpaaGreatLR
import Derived.Test.YtcbjobfklcefpaaGreatY4
set_option linter.unusedVariables false
set_option linter.unusedSimpArgs false
set_option maxRecDepth 100000
set_option maxHeartbeats 2000000
namespace Go.Proofs
open Gw
theorem jn_ex {γ β : Type} {k : γ} {f : γ → Option β} {Q : Option β → Prop} (h : ∀ K, K = k → Q (f K)) : Q (jn k f) := by rw [p_jn]; exact h k rfl
def SQ (l : List Int) (a b : Nat) (o : Option (List Int)) : Prop := ∃ l', o = some l' ∧ Loc l l' a b ∧ Srt l' a b
theorem SQ.of {l m : List Int} {a b : Nat} {o : Option (List Int)} (h : Loc l m a b) (g : SQ m a b o) : SQ l a b o := by
  obtain ⟨l', e, h1, h2⟩ := g
  exact ⟨l', e, h.trans h1, h2⟩
theorem pdq_l1 (L f : Nat) (self : List Int → Int → Int → Int → Option (List Int)) (hL : L < 1152921504606846976) (hf : L + 10 < f) (B : Nat)
    (hself : ∀ (l : List Int) (a b : Nat) (lim : Int), l.length = L → a ≤ b → b ≤ L → b - a < B → PR l a b → SQ l a b (self l (a : Int) (b : Int) lim)) :
    ∀ (k : Nat) (l : List Int) (a b : Nat) (lim : Int) (c d : Bool) (n : Nat), l.length = L → a ≤ b → b ≤ L → b - a ≤ k → k < n → k ≤ B → PR l a b →
      SQ l a b (g_sPdq_l1 f self n l (a : Int) (b : Int) lim c d) := by
  intro k
  induction k using Nat.strongRecOn with
  | ind k ih =>
    intro l a b lim c d n hl hab hb hk hn hkB hp
    obtain ⟨n, rfl⟩ : ∃ m, n = m + 1 := ⟨n - 1, by omega⟩
    rw [g_sPdq_l1]
    refine jn_ex fun K25 h25 => ?_
    simp only [p_lt]
    rw [wr_m b a (by omega) hab]
    by_cases h12 : ((b - a : Nat) : Int) ≤ 12
    · rw [dec_t h12, p_brt]
      obtain ⟨l', e, h1, h2⟩ := ins_ok (l := l) (a := a) (b := b) (f := f) (by omega) (by omega) hab (by omega)
      rw [e, p_bd]
      exact ⟨l', rfl, h1, h2⟩
    rw [dec_f h12, p_brf, p_br]
    by_cases h0 : (lim == 0) = true
    · rw [if_pos h0]
      obtain ⟨l', e, h1, h2⟩ := heap_ok (l := l) (a := a) (b := b) (f := f) (by omega) (by omega) (by omega) (by omega)
      rw [e, p_bd]
      exact ⟨l', rfl, h1, h2⟩
    rw [if_neg h0]
    refine jn_ex fun K32 h32 => ?_
    have H32 : ∀ (l29 : List Int) (x30 : Int), Loc l l29 a b → SQ l a b (K32 l29 x30) := by
      intro l29 x30 hL29
      simp only [h32]
      have hl29 : l29.length = L := hL29.len.trans hl
      obtain ⟨m, h, e, hm1, hm2⟩ := piv_ok (l := l29) (a := a) (b := b) (by omega) (by omega) (by omega) f
      rw [e, p_bd]
      refine jn_ex fun K51 h51 => ?_
      have H51 : ∀ (l47 : List Int) (p : Nat) (h : Int), Loc l l47 a b → a ≤ p → p < b → SQ l a b (K51 l47 (p : Int) h) := by
        intro l47 p h hL47 hp1 hp2
        simp only [h51]
        have hl47 : l47.length = L := hL47.len.trans hl
        refine jn_ex fun K66 h66 => ?_
        have H66 : ∀ l64 : List Int, Loc l l64 a b → SQ l a b (K66 l64) := by
          intro l64 hL64
          simp only [h66]
          have hl64 : l64.length = L := hL64.len.trans hl
          have hpr := hp.loc hL64
          refine jn_ex fun K85 h85 => ?_
          have Hf : SQ l a b (K85 false) := by
            simp only [h85, p_brf]
            obtain ⟨l1, q, cc, e1, hL1, q1, q2, q3, q4⟩ := prt_ok (l := l64) (a := a) (b := b) (p := p) (by omega) (by omega) (by omega) ⟨hp1, hp2⟩ (f := f) (by omega)
            rw [e1, p_bd]
            have hl1 : l1.length = L := hL1.len.trans hl64
            have hLl := hL64.trans hL1
            have hpr1 := hp.loc hLl
            simp only
            rw [wr_m q a (by omega) q1, wr_m b q (by omega) (by omega), p_br]
            -- left first
            have fin : ∀ l2 : List Int, Loc l1 l2 a q → Srt l2 a q → ∀ l3 : List Int, Loc l2 l3 (q + 1) b → Srt l3 (q + 1) b → Loc l l3 a b ∧ Srt l3 a b := by
              intro l2 g1 g2 l3 g3 g4
              refine ⟨hLl.trans ((g1.mono (Nat.le_refl a) (by omega)).trans (g3.mono (by omega) (Nat.le_refl b))), fun i j hi hij hj => ?_⟩
              have low : ∀ i, a ≤ i → i < q → at_ l3 i ≤ at_ l1 q := by
                intro i i1 i2
                rw [g3.out i (by omega)]
                obtain ⟨z, z1, z2, z3⟩ := g1.ins i i1 i2
                rw [z3]; exact q3 z z1 z2
              have mid : at_ l3 q = at_ l1 q := by rw [g3.out q (by omega), g1.out q (by omega)]
              have high : ∀ i, q < i → i < b → at_ l1 q ≤ at_ l3 i := by
                intro i i1 i2
                obtain ⟨z, z1, z2, z3⟩ := g3.ins i (by omega) i2
                rw [z3, g1.out z (by omega)]; exact q4 z (by omega) z2
              by_cases ei : i < q
              · by_cases ej : j < q
                · rw [g3.out i (by omega), g3.out j (by omega)]; exact g2 i j hi hij ej
                · by_cases ej2 : j = q
                  · subst ej2; rw [mid]; exact low i hi ei
                  · have := low i hi ei; have := high j (by omega) hj; omega
              · by_cases ei2 : i = q
                · subst ei2; rw [mid]; exact high j hij hj
                · exact g4 i j (by omega) hij hj
            by_cases hlt : decide (((q - a : Nat) : Int) < ((b - q : Nat) : Int)) = true
            · rw [if_pos hlt]
              obtain ⟨l2, e2, g1, g2⟩ := hself l1 a q x30 hl1 q1 (by omega) (by omega) (fun z z0 z1 z2 => hpr1 z z0 z1 (by omega))
              rw [e2, p_bd, wr_s q (by omega)]
              simp only [h25]
              obtain ⟨l3, e3, g3, g4⟩ := ih (b - (q + 1)) (by omega) l2 (q + 1) b x30 (decide (((q - a : Nat) : Int) ≥ wr .i64 (Int.tdiv ((b - a : Nat) : Int) 8))) cc n (by rw [g1.len]; exact hl1) (by omega) hb (Nat.le_refl _) (by omega) (by omega)
                (fun z z0 z1 z2 => by
                  rw [Nat.add_sub_cancel, g1.out q (by omega), g1.out z (by omega)]
                  exact q4 z (by omega) z2)
              obtain ⟨k1, k2⟩ := fin l2 g1 g2 l3 g3 g4
              exact ⟨l3, e3, k1, k2⟩
            · rw [if_neg hlt, wr_s q (by omega)]
              obtain ⟨l2, e2, g1, g2⟩ := hself l1 (q + 1) b x30 hl1 (by omega) hb (by omega) (fun z z0 z1 z2 => by
                rw [Nat.add_sub_cancel]; exact q4 z (by omega) z2)
              rw [e2, p_bd]
              simp only [h25]
              obtain ⟨l3, e3, g3, g4⟩ := ih (q - a) (by omega) l2 a q x30 (decide (((b - q : Nat) : Int) ≥ wr .i64 (Int.tdiv ((b - a : Nat) : Int) 8))) cc n (by rw [g1.len]; exact hl1) q1 (by omega) (Nat.le_refl _) (by omega) (by omega)
                (fun z z0 z1 z2 => by
                  rw [g1.out (a - 1) (by omega), g1.out z (by omega)]
                  exact hpr1 z z0 z1 (by omega))
              refine ⟨l3, e3, hLl.trans ((g1.mono (by omega) (Nat.le_refl b)).trans (g3.mono (Nat.le_refl a) (by omega))), fun i j hi hij hj => ?_⟩
              have low : ∀ i, a ≤ i → i < q → at_ l3 i ≤ at_ l1 q := by
                intro i i1 i2
                obtain ⟨z, z1, z2, z3⟩ := g3.ins i i1 i2
                rw [z3, g1.out z (by omega)]; exact q3 z z1 z2
              have mid : at_ l3 q = at_ l1 q := by rw [g3.out q (by omega), g1.out q (by omega)]
              have high : ∀ i, q < i → i < b → at_ l1 q ≤ at_ l3 i := by
                intro i i1 i2
                rw [g3.out i (by omega)]
                obtain ⟨z, z1, z2, z3⟩ := g1.ins i (by omega) i2
                rw [z3]; exact q4 z (by omega) z2
              by_cases ei : i < q
              · by_cases ej : j < q
                · exact g4 i j hi hij ej
                · by_cases ej2 : j = q
                  · subst ej2; rw [mid]; exact low i hi ei
                  · have := low i hi ei; have := high j (by omega) hj; omega
              · by_cases ei2 : i = q
                · subst ei2; rw [mid]; exact high j hij hj
                · rw [g3.out i (by omega), g3.out j (by omega)]; exact g2 i j (by omega) hij hj
          by_cases ha0 : 0 < a
          · rw [dec_t (by omega), p_brt, wr_p a (by omega) ha0, p_at (by omega), p_at (by omega), Less_ok, p_bd]
            by_cases hlt : at_ l64 (a - 1) < at_ l64 p
            · rw [dec_t hlt]; exact Hf
            · rw [dec_f hlt]
              simp only [Bool.not_false, h85, p_brt]
              obtain ⟨l1, q, e1, hL1, q1, q2, q3, q4⟩ := peq_ok (l := l64) (a := a) (b := b) (p := p) (by omega) (by omega) (by omega) ⟨hp1, hp2⟩ (fun z z1 z2 => by have := hpr z ha0 z1 z2; omega) (f := f) (by omega)
              rw [e1, p_bd]
              simp only [h25]
              have hLl := hL64.trans hL1
              obtain ⟨l3, e3, g3, g4⟩ := ih (b - q) (by omega) l1 q b x30 c d n (by rw [hL1.len]; exact hl64) (by omega) hb (Nat.le_refl _) (by omega) (by omega)
                (fun z z0 z1 z2 => by rw [q3 (q - 1) (by omega) (by omega)]; have := q4 z z1 z2; omega)
              refine ⟨l3, e3, hLl.trans (g3.mono (by omega) (Nat.le_refl b)), fun i j hi hij hj => ?_⟩
              by_cases ei : i < q
              · rw [g3.out i (by omega), q3 i hi ei]
                by_cases ej : j < q
                · rw [g3.out j (by omega), q3 j (by omega) ej]; exact Int.le_refl _
                · obtain ⟨z, z1, z2, z3⟩ := g3.ins j (by omega) hj
                  rw [z3]; have := q4 z z1 z2; omega
              · exact g4 i j (by omega) hij hj
          · rw [dec_f (by omega), p_brf]; exact Hf
        refine jn_ex fun K69 h69 => ?_
        have Hf : SQ l a b (K69 false) := by
          simp only [h69, p_brf]
          exact H66 l47 hL47
        have Ht : SQ l a b (K69 true) := by
          simp only [h69, p_brt]
          obtain ⟨l', c, e, k1, k2⟩ := par_ok (l := l47) (a := a) (b := b) (f := f) (by omega) (by omega) (by omega) (by omega) (by omega) (hp.loc hL47)
          rw [e, p_bd, p_br]
          by_cases hc : c = true
          · rw [if_pos hc]; exact ⟨l', rfl, hL47.trans k1, k2 hc⟩
          · rw [if_neg hc]; exact H66 l' (hL47.trans k1)
        cases c
        · exact Hf
        · rw [p_brt]
          cases d
          · exact Hf
          · rw [p_brt]
            cases (h == 1)
            · exact Hf
            · exact Ht
      rw [p_br]
      by_cases h2 : (h == 2) = true
      · rw [if_pos h2]
        obtain ⟨l', e, k1⟩ := rev_ok (l := l29) (a := a) (b := b) (f := f) (by omega) (by omega) (by omega) (by omega)
        rw [e, p_bd, wr_p b (by omega) (by omega), wr_m m a (by omega) hm1, wr_m (b - 1) (m - a) (by omega) (by omega)]
        exact H51 l' (b - 1 - (m - a)) 1 (hL29.trans k1) (by omega) (by omega)
      · rw [if_neg h2]
        exact H51 l29 m h hL29 hm1 hm2
    cases c
    · simp only [Bool.not_false]
      rw [p_brt]
      obtain ⟨l', e, k1⟩ := brk_ok (l := l) (a := a) (b := b) (f := f) (by omega) (by omega) (by omega) (by omega)
      rw [e, p_bd]
      exact H32 l' _ k1
    · simp only [Bool.not_true]
      rw [p_brf]
      exact H32 l lim (.refl _ _ _)
theorem pdq_ok : ∀ (F : Nat) (l : List Int) (a b : Nat) (lim : Int), l.length < 1152921504606846976 → a ≤ b → b ≤ l.length → b - a + l.length + 11 < F → PR l a b → SQ l a b (g_sPdq F l (a : Int) (b : Int) lim) := by
  intro F
  induction F with
  | zero => intro l a b lim h1 h2 h3 h4; omega
  | succ F ih =>
    intro l a b lim hl hab hb hF hp
    rw [g_sPdq]
    exact pdq_l1 l.length F (g_sPdq F) hl (by omega) (b - a) (fun l' a' b' lim' h1 h2 h3 h4 h5 => ih l' a' b' lim' (by omega) h2 (by omega) (by omega) h5) (b - a) l a b lim true true F rfl hab hb (Nat.le_refl _) (by omega) (Nat.le_refl _) hp
theorem Sort_ok {l : List Int} (hl : l.length < 1000000) {f : Nat} (hf : 2 * l.length + 12 < f) : ∃ l', g_sSrt f l = some l' ∧ l'.Perm l ∧ l'.Pairwise (fun a b => a ≤ b) := by
  simp only [g_sSrt, p_lt, g_math_bits_Len]
  have e1 : wr .u64 ((l.length : Nat) : Int) = ((l.length : Nat) : Int) := by rw [wr_u]; omega
  obtain ⟨r, e, _⟩ := Len64_ok (x := ((l.length : Nat) : Int)) ⟨by omega, by omega⟩ f
  rw [e1, e, p_bd, p_bd]
  obtain ⟨l', g1, g2, g3⟩ := pdq_ok f l 0 l.length r (by omega) (Nat.zero_le _) (Nat.le_refl _) (by omega) (fun k h => by omega)
  have g1' : g_sPdq f l 0 ((l.length : Nat) : Int) r = some l' := g1
  rw [g1', p_bd]
  refine ⟨l', rfl, g2.perm, ?_⟩
  rw [List.pairwise_iff_getElem]
  intro i j hi hj hij
  have := g3 i j (Nat.zero_le _) hij (by rw [← g2.len]; exact hj)
  unfold at_ at this
  rw [List.getElem?_eq_getElem hi, List.getElem?_eq_getElem hj] at this
  exact this
end Go.Proofs
