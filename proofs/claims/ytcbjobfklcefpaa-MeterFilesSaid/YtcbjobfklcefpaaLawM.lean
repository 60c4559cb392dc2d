/- What MeterFiles computes is true. -/
import Derived.Test.YtcbjobfklcefpaaF3
set_option linter.unusedVariables false
set_option linter.unusedSimpArgs false
set_option maxRecDepth 100000
namespace Go.Proofs
open Gw
theorem jn_e {β γ : Type} {k : γ} {f : γ → Option β} : jn k f = f k := by
  have h : ∀ z, z = k → jn z f = f k := fun z hz => hz ▸ rfl
  exact h k (Eq.refl k)
theorem lt_e {α β : Type} {a : α} {f : α → Option β} : lt a f = f a := by
  have h : ∀ z, z = a → lt z f = f a := fun z hz => hz ▸ rfl
  exact h a (Eq.refl a)
theorem br_te {β : Type} {x y : Option β} : br true x y = x := by
  have h : ∀ z, z = true → br z x y = x := fun z hz => hz ▸ rfl
  exact h _ (Eq.refl _)
theorem br_fe {β : Type} {x y : Option β} : br false x y = y := by
  have h : ∀ z, z = false → br z x y = y := fun z hz => hz ▸ rfl
  exact h _ (Eq.refl _)
theorem bd_e {α β : Type} {a : α} {f : α → Option β} : bd (some a) f = f a := by
  have h : ∀ z, z = some a → bd z f = f a := fun z hz => hz ▸ rfl
  exact h _ (Eq.refl _)
theorem wr_lt (x : Int) (h0 : 0 ≤ x) (h : x < 9223372036854775808) : wr .i64 x = x := by
  have h1 : x % 2 ^ 64 = x := Int.emod_eq_of_lt h0 (by omega)
  have h2 : ¬ (x ≥ 2 ^ 63) := by omega
  show (if (true && decide (x % 2 ^ 64 ≥ 2 ^ 63)) = true then x % 2 ^ 64 - 2 ^ 64 else x % 2 ^ 64) = _
  simp only [h1, h2, decide_false, Bool.and_false, Bool.false_eq_true, if_false]
theorem weigh_loop (l : List (List Int)) (fuel : Nat) (hl : l.length ≤ 140737488355328) (hx : ∀ x ∈ l, x.length ≤ 140737488355328) :
    ∀ (n : Nat) (w i : Nat), i ≤ l.length → l.length - i < n → w < 562949953421312 → (∀ j x, j < i → l[j]? = some x → x.length ≤ w) →
      ∃ r : Int, g_tarnlaw0_CellsWeight_l1 l (fun x3 => some x3) fuel n w i = some r ∧ (r ≤ 6000 → ∀ x ∈ l, x.length ≤ 6000) := by
  intro n
  induction n with
  | zero => intro w i _ h; omega
  | succ n ih =>
    intro w i hi hn hw hj
    rw [g_tarnlaw0_CellsWeight_l1]
    simp only [jn_e, lt_e]
    by_cases h1 : i < l.length
    · by_cases h2 : w < 1048576
      · have e1 : decide ((i : Int) < ((l.length : Nat) : Int)) = true := decide_eq_true (by omega)
        have e2 : decide ((w : Int) < 1048576) = true := decide_eq_true (by omega)
        rw [e1, e2]
        simp only [br_te, br_fe]
        have hg : ((0 : Int) ≤ (i : Int) ∧ (i : Int) < ((l.length : Nat) : Int)) := by omega
        have hlx : l[i]? = some l[i] := List.getElem?_eq_getElem h1
        have hxi := hx l[i] (List.getElem_mem _)
        rw [gd, if_pos hg, Int.toNat_natCast, hlx]
        simp only [bd_e]
        rw [wr_lt _ (by omega) (by omega), wr_lt _ (by omega) (by omega)]
        have e3 : (w : Int) + ((l[i].length : Nat) : Int) = ((w + l[i].length : Nat) : Int) := by omega
        have e4 : (i : Int) + 1 = ((i + 1 : Nat) : Int) := by omega
        rw [e3, e4]
        refine ih _ _ (by omega) (by omega) (by omega) ?_
        intro j x hj' hjx
        by_cases e : j = i
        · subst e
          rw [hlx] at hjx
          cases hjx
          omega
        · have := hj j x (by omega) hjx
          omega
      · have e1 : decide ((i : Int) < ((l.length : Nat) : Int)) = true := decide_eq_true (by omega)
        have e2 : decide ((w : Int) < 1048576) = false := decide_eq_false (by omega)
        rw [e1, e2]
        refine ⟨w, ?_, fun h => by omega⟩
        simp only [br_te, br_fe]
    · have e1 : decide ((i : Int) < ((l.length : Nat) : Int)) = false := decide_eq_false (by omega)
      rw [e1]
      refine ⟨w, ?_, fun h x hx' => ?_⟩
      · simp only [br_fe]
      obtain ⟨j, hjl, rfl⟩ := List.getElem_of_mem hx'
      have := hj j _ (by omega) (List.getElem?_eq_getElem hjl)
      omega
theorem copy_loop (l : List Int) (fuel : Nat) (hl : l.length ≤ 6000) : ∀ (n i : Nat), i ≤ l.length → l.length - i < n →
    g_tarnref0_CopyBytes_l1 l (fun l4 => some l4) fuel n (l.take i) i = some l := by
  intro n
  induction n with
  | zero => intro i _ h; omega
  | succ n ih =>
    intro i hi hn
    rw [g_tarnref0_CopyBytes_l1]
    simp only [lt_e]
    by_cases h1 : i < l.length
    · have e1 : decide ((i : Int) < ((l.length : Nat) : Int)) = true := decide_eq_true (by omega)
      rw [e1]
      simp only [br_te, br_fe]
      have hg : ((0 : Int) ≤ (i : Int) ∧ (i : Int) < ((l.length : Nat) : Int)) := by omega
      have hlx : l[i]? = some l[i] := List.getElem?_eq_getElem h1
      rw [gd, if_pos hg, Int.toNat_natCast, hlx]
      simp only [bd_e]
      rw [gd, if_pos (by simp; omega), wr_lt _ (by omega) (by omega)]
      have e4 : (i : Int) + 1 = ((i + 1 : Nat) : Int) := by omega
      have e5 : l.take i ++ [l[i]] = l.take (i + 1) := by rw [List.take_add_one, hlx]; rfl
      rw [e4, e5]
      exact ih (i + 1) (by omega) (by omega)
    · have e1 : decide ((i : Int) < ((l.length : Nat) : Int)) = false := decide_eq_false (by omega)
      rw [e1, List.take_of_length_le (by omega)]
      simp only [br_fe]
theorem copy_is (l : List Int) (fuel : Nat) (hl : l.length ≤ 6000) (hf : 6001 ≤ fuel) : g_tarnref0_CopyBytes fuel l = some l := by
  unfold g_tarnref0_CopyBytes
  simp only [jn_e]
  have := copy_loop l fuel hl fuel 0 (by omega) (by omega)
  simpa using this
theorem files_loop (l : List (List Int)) (fuel : Nat) (hf : 6001 ≤ fuel) (h0 : l.length ≠ 0) (h40 : l.length ≤ 40) (hx : ∀ x ∈ l, x.length ≤ 6000) :
    ∀ (n i : Nat) (a : List (List Int)), i ≤ 8 → 8 - i < n → a.length = i → (∀ x ∈ a, x.length ≤ 6000) → g_tarnlaw27_MeterFiles_l1 l fuel (fun l18 l23 => tailP l18 l23) n a (ints (a.map List.length)) i = some true := by
  intro n
  induction n with
  | zero => intro i a _ h; omega
  | succ n ih =>
    intro i a hi hn ha hax
    rw [g_tarnlaw27_MeterFiles_l1]
    simp only [lt_e]
    by_cases h1 : i < 8
    · have e1 : decide ((i : Int) < 8) = true := decide_eq_true (by omega)
      rw [e1]
      simp only [br_te, br_fe]
      rw [gd, if_pos (by omega)]
      have hm : Int.tmod (i : Int) ((l.length : Nat) : Int) = ((i % l.length : Nat) : Int) := by
        rw [Int.tmod_eq_emod_of_nonneg (by omega)]; rfl
      have hmlt : i % l.length < l.length := Nat.mod_lt _ (by omega)
      rw [hm, gd, if_pos (by omega), Int.toNat_natCast, List.getElem?_eq_getElem hmlt]
      simp only [bd_e]
      have hxl := hx _ (List.getElem_mem hmlt)
      rw [copy_is _ fuel hxl hf]
      simp only [bd_e]
      rw [gd, if_pos (by simp; omega), gd, if_pos (by simp; omega), Int.toNat_natCast]
      have e2 : (a ++ [l[i % l.length]])[i]? = some l[i % l.length] := by rw [List.getElem?_append_right (by omega)]; simp [ha]
      rw [e2]
      simp only [bd_e]
      rw [gd, if_pos (by simp [ints]; omega), wr_lt _ (by omega) (by omega)]
      have e4 : (i : Int) + 1 = ((i + 1 : Nat) : Int) := by omega
      have e5 : ints (a.map List.length) ++ [((l[i % l.length].length : Nat) : Int)] = ints ((a ++ [l[i % l.length]]).map List.length) := by simp [ints]
      rw [e4, e5]
      refine ih (i + 1) _ (by omega) (by omega) (by simp [ha]) ?_
      intro x hx'
      rcases List.mem_append.1 hx' with hx' | hx'
      · exact hax x hx'
      · rw [List.mem_singleton.1 hx']; exact hxl
    · have e1 : decide ((i : Int) < 8) = false := decide_eq_false (by omega)
      rw [e1]
      simp only [br_fe]
      unfold tailP
      rw [if_pos ⟨by omega, fun x hx' => by have := hax x hx'; omega, rfl⟩]
theorem meterFiles_law (l : List (List Int)) (hl : l.length ≤ 140737488355328) (hx : ∀ x ∈ l, x.length ≤ 140737488355328) : g_tarnlaw27_MeterFiles (l.length + 6001) l = some true := by
  unfold g_tarnlaw27_MeterFiles
  obtain ⟨r, hr, hr6⟩ := weigh_loop l (l.length + 6001) hl hx (l.length + 6001) l.length 0 (by omega) (by omega) (by omega) (fun j x h => by omega)
  have hr' : g_tarnlaw0_CellsWeight (l.length + 6001) l = some r := hr
  simp only [jn_e, lt_e, hr', bd_e]
  by_cases h1 : r > 6000
  · rw [decide_eq_true h1]; simp only [br_te]
  · rw [decide_eq_false h1]
    simp only [br_te, br_fe]
    by_cases h2 : ((l.length : Nat) : Int) > 40
    · rw [decide_eq_true h2]; simp only [br_te]
    · rw [decide_eq_false h2]
      simp only [br_fe]
      by_cases h3 : l.length = 0
      · have : (((l.length : Nat) : Int) == 0) = true := by simp [h3]
        rw [this]; simp only [br_te]
      · have : (((l.length : Nat) : Int) == 0) = false := beq_eq_false_iff_ne.2 (by omega)
        rw [this]
        simp only [br_fe]
        exact files_loop l (l.length + 6001) (by omega) h3 (by omega) (hr6 (by omega)) (l.length + 6001) 0 [] (by omega) (by omega) rfl (by simp)
end Go.Proofs
