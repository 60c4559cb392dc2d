/- Items as bytes. -/
import Derived.Test.YtcbjobfklcefpaaGreatLJ
import Derived.Test.YtcbjobfklcefpaaGreatY4
set_option linter.unusedVariables false
set_option linter.unusedSimpArgs false
set_option maxRecDepth 100000
set_option maxHeartbeats 1000000
namespace Go.Proofs
open Gw
theorem nBgo_le (a : TU256) (k n : Nat) (h : ∀ i, k ≤ i → i < n → byt a i = 0) : nBgo a n ≤ k := by
  induction n with
  | zero => simp [nBgo]
  | succ n ih =>
    unfold nBgo
    by_cases hk : k ≤ n
    · rw [if_neg (by simpa using h n hk (by omega))]
      exact ih fun i h1 h2 => h i h1 (by omega)
    · split
      · omega
      · exact ih fun i h1 h2 => absurd h1 (by omega)
theorem gas_len (x : Int) : (textL (gasU x)).length ≤ 8 := by
  rw [textL, bts_len]
  refine nBgo_le _ 8 32 fun i h1 h2 => ?_
  unfold byt
  have : (lU (gasU x))[i / 8]?.getD 0 = 0 := by
    rcases (show i / 8 = 1 ∨ i / 8 = 2 ∨ i / 8 = 3 by omega) with h | h | h <;> rw [h] <;> rfl
  rw [this]; simp
def headL (base : Int) (n : Nat) : List Int := if n ≤ 55 then [base + n] else (base + 55 + (((textL (gasU n)).length : Nat) : Int)) :: textL (gasU n)
theorem headL_len (base : Int) (n : Nat) : (headL base n).length ≤ 9 ∧ 1 ≤ (headL base n).length := by
  unfold headL
  have := gas_len (n : Int)
  split
  · simp
  · simp only [List.length_cons]; omega
theorem headL_rg {base : Int} (hb : 128 ≤ base ∧ base ≤ 192) (n : Nat) : ∀ x ∈ headL base n, 0 ≤ x ∧ x < 256 := by
  intro x hx
  unfold headL at hx
  have := gas_len (n : Int)
  split at hx
  · simp only [List.mem_singleton] at hx; omega
  · rcases List.mem_cons.1 hx with rfl | hx
    · omega
    · exact textL_rg (gasU_U _) x hx
def encT (s : List Int) : List Int := if s.length = 1 ∧ s[0]?.getD 0 < 128 then s else headL 128 s.length ++ s
def encL (p : List Int) : List Int := headL 192 p.length ++ p
inductive Enc : Nat → TItem → List Int → Prop
  | text (d : Nat) (s : ByteArray) : (encT (lsb s)).length ≤ 65536 → Enc d ⟨false, s, []⟩ (encT (lsb s))
  | list (d : Nat) (items : List TItem) (es : Nat → List Int) : d < 16 → (∀ i x, items[i]? = some x → Enc (d + 1) x (es i)) → (encL ((List.range items.length).map es).flatten).length ≤ 65536 →
      Enc d ⟨true, ByteArray.empty, items⟩ (encL ((List.range items.length).map es).flatten)
theorem Enc.len {d : Nat} {x : TItem} {e : List Int} (h : Enc d x e) : e.length ≤ 65536 := by cases h <;> assumption
theorem Enc.rg {d : Nat} {x : TItem} {e : List Int} (h : Enc d x e) : ∀ z ∈ e, 0 ≤ z ∧ z < 256 := by
  induction h with
  | text d s hl =>
    intro z hz
    unfold encT at hz
    split at hz
    · exact lsb_rg s z hz
    · rcases List.mem_append.1 hz with hz | hz
      · exact headL_rg (by omega) _ z hz
      · exact lsb_rg s z hz
  | list d items es hd hs hl ih =>
    intro z hz
    unfold encL at hz
    rcases List.mem_append.1 hz with hz | hz
    · exact headL_rg (by omega) _ z hz
    · simp only [List.mem_flatten, List.mem_map, List.mem_range] at hz
      obtain ⟨_, ⟨i, hi, rfl⟩, hz⟩ := hz
      exact ih i items[i] (List.getElem?_eq_getElem hi) z hz
theorem u256_Of (n : Nat) (f : Nat) : g_u256_Of f (n : Int) = some (gasU n, 0) := by
  simp only [g_u256_Of, p_lt, p_br]
  rw [dec_f (by omega), if_neg (by simp)]; rfl
theorem item_size (n f : Nat) (hf : 40 ≤ f) : g_item_size f (n : Int) = some (bsl (textL (gasU n))) := by
  simp only [g_item_size, u256_Of, p_bd]
  rw [u256_Text (gasU_U _) f hf, p_bd]
theorem slen_bsl {l : List Int} (h : ∀ x ∈ l, 0 ≤ x ∧ x < 256) : slen (bsl l) = (l.length : Int) := by rw [slen_lsb, lsb_bsl h]
theorem item_ahead (base : Int) (n f : Nat) (hf : 40 ≤ f) : g_item_ahead f (n : Int) = some ((headL base n).length : Int) := by
  simp only [g_item_ahead, p_lt, p_br, decide_eq_true_eq, headL]
  have := gas_len (n : Int)
  by_cases h : n ≤ 55
  · rw [if_pos (by omega), if_pos h]; rfl
  · rw [if_neg (by omega), if_neg h, item_size n f hf, p_bd, slen_bsl (textL_rg (gasU_U _)), wr_i _ (by omega) (by omega)]
    simp only [List.length_cons]; congr 1; omega
theorem item_front (b : List Int) {base : Int} (hb : 128 ≤ base ∧ base ≤ 192) (n f : Nat) (hf : 40 ≤ f) (hl : b.length ≤ 1000000000) : g_item_front f b base (n : Int) = some (b ++ headL base n) := by
  simp only [g_item_front, p_lt, p_br, decide_eq_true_eq, headL]
  have := gas_len (n : Int)
  by_cases h : n ≤ 55
  · rw [if_pos (by omega), if_pos h, p_gd (by simp only [List.length_singleton]; omega)]
    have e : wr .u8 (wr .i64 (base + (n : Int))) = base + n := by rw [wr_i _ (by omega) (by omega), wr_b]; omega
    rw [e]
  · have e : wr .u8 (wr .i64 (wr .i64 (base + 55) + (((textL (gasU n)).length : Nat) : Int))) = base + 55 + (((textL (gasU n)).length : Nat) : Int) := by rw [wr_i (base + 55) (by omega) (by omega), wr_i _ (by omega) (by omega), wr_b]; omega
    rw [if_neg (by omega), if_neg h, item_size n f hf, p_bd, slen_bsl (textL_rg (gasU_U _)), e, p_gd (by simp only [List.length_singleton]; omega), lsb_bsl (textL_rg (gasU_U _)),
      p_gd (by simp only [List.length_append, List.length_singleton]; omega), List.append_assoc]
    rfl
theorem ref_head {base : Int} (hb : 128 ≤ base ∧ base ≤ 192) (n f : Nat) (hf : 40 ≤ f) : g_tarnref4_head f (n : Int) base = some (bsl (headL base n)) := by
  simp only [g_tarnref4_head, p_lt, p_br, decide_eq_true_eq, headL, ref1_Of]
  have := gas_len (n : Int)
  by_cases h : n ≤ 55
  · rw [if_pos (by omega), if_pos h]
    have e : wr .u8 (wr .i64 (base + (n : Int))) = base + n := by rw [wr_i _ (by omega) (by omega), wr_b]; omega
    rw [e]
  · have e : wr .u8 (wr .i64 (wr .i64 (base + 55) + (((textL (gasU n)).length : Nat) : Int))) = base + 55 + (((textL (gasU n)).length : Nat) : Int) := by rw [wr_i (base + 55) (by omega) (by omega), wr_i _ (by omega) (by omega), wr_b]; omega
    have h1 : ∀ x ∈ [base + 55 + (((textL (gasU n)).length : Nat) : Int)], 0 ≤ x ∧ x < 256 := by intro x hx; simp only [List.mem_singleton] at hx; omega
    rw [if_neg (by omega), if_neg h, p_bd, ref1_Text (gasU_U _) f hf, p_bd, slen_bsl (textL_rg (gasU_U _)), e, slen_bsl h1, p_gd (by simp only [List.length_singleton]; omega), ← bsl_append _ _ h1 (textL_rg (gasU_U _))]
    rfl
theorem item_alone (s : ByteArray) (f : Nat) : g_item_alone f s = some (decide ((lsb s).length = 1 ∧ (lsb s)[0]?.getD 0 < 128)) := by
  simp only [g_item_alone, p_lt, p_jn, p_br, slen_lsb]
  by_cases h : (lsb s).length = 1
  · rw [if_pos (by simp [h]), p_gd (by omega)]
    have e : (lsb s)[0]? = some ((lsb s)[0]?.getD 0) := by rw [List.getElem?_eq_getElem (by omega)]; rfl
    rw [show (0 : Int) = ((0 : Nat) : Int) from rfl, sget_lsb s 0 _ e]
    simp [h]
  · rw [if_neg (by simpa using fun g => h (by omega))]
    simp [h]
theorem seq_empty : seq ByteArray.empty (ByteArray.mk #[]) = true := by decide +kernel
end Go.Proofs
