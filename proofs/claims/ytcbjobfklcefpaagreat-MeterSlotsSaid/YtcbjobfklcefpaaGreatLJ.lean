/- The bytes of a number of 256 bits: the program's and the page's are the same. -/
import Derived.Test.YtcbjobfklcefpaaGreatLI
set_option linter.unusedVariables false
set_option linter.unusedSimpArgs false
set_option maxRecDepth 100000
set_option maxHeartbeats 1000000
namespace Go.Proofs
open Gw
def nBgo (a : TU256) : Nat → Nat
  | 0 => 0
  | k + 1 => if byt a k ≠ 0 then k + 1 else nBgo a k
def nB (a : TU256) : Nat := nBgo a 32
theorem nBgo_ok (a : TU256) (n : Nat) (h : ∀ i, n ≤ i → byt a i = 0) (h' : 0 < n → byt a (n - 1) ≠ 0) : ∀ k, n ≤ k → nBgo a k = n
  | 0, hk => by simp [nBgo]; omega
  | k + 1, hk => by
    unfold nBgo
    by_cases e : n = k + 1
    · subst e
      exact if_pos (h' (by omega))
    · rw [if_neg (by simpa using h k (by omega))]
      exact nBgo_ok a n h h' k (by omega)
theorem BN_nB {a : TU256} {n : Nat} (h : BN a n) : n = nB a := (nBgo_ok a n h.2.1 h.2.2 32 h.1).symm
theorem nB_BN {a : TU256} (h : U a) : BN a (nB a) := by
  obtain ⟨b, _, _, hb⟩ := Bits_ok h 5 (by omega)
  rw [← BN_nB hb]; exact hb
/-- bytes of the places ahead of n, from j on, the highest first -/
def btsL (a : TU256) (j k : Nat) : List Int := (List.range' j k).reverse.map (byt a)
theorem bts_succ (a : TU256) (j k : Nat) : btsL a j (k + 1) = btsL a (j + 1) k ++ [byt a j] := by
  simp [btsL, List.range'_succ]
theorem bts_hi (a : TU256) (j k : Nat) : btsL a j (k + 1) = byt a (j + k) :: btsL a j k := by
  simp [btsL, List.range'_concat]
theorem bts_len (a : TU256) (j k : Nat) : (btsL a j k).length = k := by simp [btsL]
theorem bts_rg {a : TU256} (h : U a) (j k : Nat) : ∀ x ∈ btsL a j k, 0 ≤ x ∧ x < 256 := by
  intro x hx
  simp only [btsL, List.mem_map] at hx
  obtain ⟨i, _, rfl⟩ := hx
  exact byt_rg h i
def textL (a : TU256) : List Int := btsL a 0 (nB a)
theorem byte_at {a : TU256} (h : U a) (i : Nat) (hi : i < 32) (X : Int) (hX : X = ((8 * (i % 8) : Nat) : Int)) : wr .u8 (ishr .u64 ((lU a)[i / 8]?.getD 0) X) = byt a i := by
  rw [ishr_k (limb_ok h _).1 (8 * (i % 8)) (by omega) X hX, wr_b]; rfl
theorem Text_l1 {a : TU256} (h : U a) (n : Nat) (hn : n ≤ 32) (f : Nat) : ∀ (k m i : Nat), i + k = n → k < m →
    g_u256_Text_l1 (n : Int) a (fun l18 => some (bsl l18)) f m (List.replicate k 0 ++ btsL a 0 i) (i : Int) = some (bsl (btsL a 0 n)) := by
  intro k
  induction k with
  | zero =>
    intro m i hi hm
    obtain ⟨m, rfl⟩ : ∃ k, m = k + 1 := ⟨m - 1, by omega⟩
    rw [g_u256_Text_l1]
    simp only [p_lt, List.length_replicate, Int.toNat_natCast]
    rw [dec_f (by omega), p_brf, show i = n by omega]
    simp
  | succ k ih =>
    intro m i hi hm
    obtain ⟨m, rfl⟩ : ∃ k, m = k + 1 := ⟨m - 1, by omega⟩
    rw [g_u256_Text_l1]
    simp only [p_lt, List.length_replicate, Int.toNat_natCast, List.length_append, bts_len]
    have e1 : wr .i64 (wr .i64 (((k + 1 + i : Nat) : Int) - 1) - (i : Int)) = (k : Int) := by
      rw [wr_i (((k + 1 + i : Nat) : Int) - 1) (by omega) (by omega), wr_i _ (by omega) (by omega)]; omega
    have e2 : wr .i64 (Int.tdiv (i : Int) 8) = ((i / 8 : Nat) : Int) := by
      rw [Int.tdiv_eq_ediv_of_nonneg (by omega), wr_i _ (by omega) (by omega)]; omega
    have e3 : wr .i64 (Int.tmod (i : Int) 8 * 8) = ((8 * (i % 8) : Nat) : Int) := by
      rw [Int.tmod_eq_emod_of_nonneg (by omega), wr_i _ (by omega) (by omega)]; omega
    rw [dec_t (by omega), p_brt, e1, e2, p_gd (by omega), Int.toNat_natCast, limb_get (by omega), p_bd, p_gd (by rw [e3]; omega), byte_at h i (by omega) _ e3, p_gd (by omega), Int.toNat_natCast, wr_s i (by omega)]
    have e4 : (List.replicate (k + 1) (0 : Int) ++ btsL a 0 i).set k (byt a i) = List.replicate k 0 ++ btsL a 0 (i + 1) := by
      rw [bts_hi, Nat.zero_add, List.replicate_succ', List.append_assoc, List.set_append_right _ _ (by simp)]
      simp
    rw [e4]
    exact ih m (i + 1) (by omega) (by omega)
theorem u256_Text {a : TU256} (h : U a) (f : Nat) (hf : 40 ≤ f) : g_u256_Text f a = some (bsl (textL a)) := by
  obtain ⟨b, e1, hb, hn⟩ := Bits_ok h f (by omega)
  simp only [g_u256_Text, e1, p_bd, p_lt, p_jn]
  have e2 : wr .i64 (Int.tdiv (wr .i64 ((b : Int) + 7)) 8) = (((b + 7) / 8 : Nat) : Int) := by
    rw [wr_i ((b : Int) + 7) (by omega) (by omega), Int.tdiv_eq_ediv_of_nonneg (by omega), wr_i _ (by omega) (by omega)]; omega
  have hn32 := hn.1
  rw [e2, p_gd (by omega), Int.toNat_natCast]
  have := Text_l1 h ((b + 7) / 8) hn32 f ((b + 7) / 8) f 0 (by omega) (by omega)
  simp only [btsL, List.range'_zero, List.reverse_nil, List.map_nil, List.append_nil] at this
  refine Eq.trans this ?_
  rw [BN_nB hn]; rfl
theorem ref_Text_l1 {a : TU256} (h : U a) (f : Nat) : ∀ (j m : Nat), j ≤ 32 → j < m →
    g_tarnref1_Text_l1 a (fun l7 => some (bsl l7)) f m (btsL a j (nB a - j)) ((j : Int) - 1) = some (bsl (textL a)) := by
  intro j
  induction j with
  | zero =>
    intro m hj hm
    obtain ⟨m, rfl⟩ : ∃ k, m = k + 1 := ⟨m - 1, by omega⟩
    rw [g_tarnref1_Text_l1]
    simp only [p_lt, p_jn]
    rw [dec_f (by omega), p_brf]; rfl
  | succ j ih =>
    intro m hj hm
    obtain ⟨m, rfl⟩ : ∃ k, m = k + 1 := ⟨m - 1, by omega⟩
    rw [g_tarnref1_Text_l1]
    simp only [p_lt, p_jn, p_br]
    have e0 : ((j + 1 : Nat) : Int) - 1 = (j : Int) := by omega
    have e2 : wr .i64 (Int.tdiv (j : Int) 8) = ((j / 8 : Nat) : Int) := by
      rw [Int.tdiv_eq_ediv_of_nonneg (by omega), wr_i _ (by omega) (by omega)]; omega
    have e3 : wr .i64 (8 * Int.tmod (j : Int) 8) = ((8 * (j % 8) : Nat) : Int) := by
      rw [Int.tmod_eq_emod_of_nonneg (by omega), wr_i _ (by omega) (by omega)]; omega
    have e4 : wr .i64 ((j : Int) - 1) = (j : Int) - 1 := wr_i _ (by omega) (by omega)
    rw [e0, dec_t (by omega), if_pos rfl, e2, p_gd (by omega), Int.toNat_natCast, limb_get (by omega), p_bd, p_gd (by rw [e3]; omega), byte_at h j (by omega) _ e3, e4]
    have ih' := ih m (by omega) (by omega)
    obtain ⟨n32, hz, hnz⟩ := nB_BN h
    have hlen := bts_len a (j + 1) (nB a - (j + 1))
    by_cases hj' : nB a ≤ j
    · have e5 : nB a - j = 0 := by omega
      have e6 : nB a - (j + 1) = 0 := by omega
      rw [e5] at ih'
      have hb : (byt a j != 0) = false := by simpa using hz j hj'
      rw [if_neg (by simp [hb]), dec_f (by omega), if_neg (by simp), e6]
      exact ih'
    · have e5 : nB a - j = (nB a - (j + 1)) + 1 := by omega
      rw [e5, bts_succ] at ih'
      have hg : ((btsL a (j + 1) (nB a - (j + 1))).length + ([byt a j] : List Int).length) * 1 ≤ 140737488355328 := by simp only [List.length_singleton]; omega
      by_cases hb : byt a j ≠ 0
      · rw [if_pos (by simpa using hb), if_pos trivial, p_gd hg]
        exact ih'
      · rw [if_neg (by simpa using hb)]
        have hlt : j + 1 < nB a := by
          by_cases e : nB a = j + 1
          · have := hnz (by omega)
            rw [e, Nat.add_sub_cancel] at this
            exact absurd this hb
          · omega
        rw [dec_t (by omega), if_pos rfl, p_gd hg]
        exact ih'
theorem ref1_Text {a : TU256} (h : U a) (f : Nat) (hf : 40 ≤ f) : g_tarnref1_Text f a = some (bsl (textL a)) := by
  simp only [g_tarnref1_Text, p_lt, p_jn]
  have := ref_Text_l1 h f 32 f (by omega) (by omega)
  have e : nB a - 32 = 0 := by have := (nB_BN h).1; omega
  rw [e] at this
  exact this
theorem textL_rg {a : TU256} (h : U a) : ∀ x ∈ textL a, 0 ≤ x ∧ x < 256 := bts_rg h _ _
theorem textL_len {a : TU256} (h : U a) : (textL a).length ≤ 32 := by
  rw [textL, bts_len]; exact (nB_BN h).1
end Go.Proofs
