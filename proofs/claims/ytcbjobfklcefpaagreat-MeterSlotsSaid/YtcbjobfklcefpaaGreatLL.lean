/- Items as bytes: the program's and the page's are the same. -/
import Derived.Test.YtcbjobfklcefpaaGreatLK
set_option linter.unusedVariables false
set_option linter.unusedSimpArgs false
set_option maxRecDepth 100000
set_option maxHeartbeats 1000000
namespace Go.Proofs
open Gw
/-- what stands ahead of a place -/
def pre (es : Nat → List Int) (i : Nat) : List Int := ((List.range i).map es).flatten
theorem pre_succ (es : Nat → List Int) (i : Nat) : pre es (i + 1) = pre es i ++ es i := by simp [pre, List.range_succ]
theorem pre_le (es : Nat → List Int) : ∀ (k i : Nat), (pre es i).length ≤ (pre es (i + k)).length
  | 0, i => Nat.le_refl _
  | k + 1, i => by
    have := pre_le es k i
    rw [← Nat.add_assoc, pre_succ, List.length_append]; omega
theorem pre_le' (es : Nat → List Int) {i j : Nat} (h : i ≤ j) : (pre es i).length ≤ (pre es j).length := by
  have := pre_le es (j - i) i
  rwa [Nat.add_sub_cancel' h] at this
theorem encL_len (p : List Int) : (encL p).length = (headL 192 p.length).length + p.length := by simp [encL]
theorem encT_ne {s : List Int} (h : ¬ (s.length = 1 ∧ s[0]?.getD 0 < 128)) : encT s = headL 128 s.length ++ s := by rw [encT, if_neg h]
theorem Enc.pos {d : Nat} {x : TItem} {e : List Int} (h : Enc d x e) : 1 ≤ e.length := by
  cases h with
  | text _ s hl =>
    unfold encT
    split
    · omega
    · have := headL_len 128 (lsb s).length
      rw [List.length_append]; omega
  | list _ items es hd hs hl =>
    rw [encL_len]
    have := headL_len 192 ((List.range items.length).map es).flatten.length
    omega
theorem pre_ge (es : Nat → List Int) : ∀ n, (∀ i, i < n → 1 ≤ (es i).length) → n ≤ (pre es n).length
  | 0, _ => Nat.zero_le _
  | n + 1, h => by
    have := pre_ge es n fun i hi => h i (by omega)
    have := h n (by omega)
    rw [pre_succ, List.length_append]; omega
theorem items_le {d : Nat} {items : List TItem} {es : Nat → List Int} (hs : ∀ i x, items[i]? = some x → Enc (d + 1) x (es i)) (hl : (encL (pre es items.length)).length ≤ 65536) : items.length ≤ 65536 ∧ (pre es items.length).length ≤ 65536 := by
  have h1 := pre_ge es items.length fun i hi => (hs i _ (List.getElem?_eq_getElem hi)).pos
  rw [encL_len] at hl
  omega
theorem item_long {d : Nat} {x : TItem} {e : List Int} (h : Enc d x e) : Ev (fun f => g_item_long f x (d : Int)) ((e.length : Int), true) := by
  induction h with
  | text d s hl =>
    refine ⟨50, fun f hf => ?_⟩
    obtain ⟨f, rfl⟩ : ∃ g, f = g + 1 := ⟨f - 1, by omega⟩
    show g_item_long (f + 1) _ _ = _
    rw [g_item_long]
    simp only [p_lt, p_jn, p_br, Bool.not_false, if_true, item_alone, p_bd, slen_lsb, List.length_nil]
    have hs : (lsb s).length ≤ 65536 := by
      unfold encT at hl
      split at hl
      · exact hl
      · rw [List.length_append] at hl; omega
    rw [if_neg (by simp), if_neg (by simp; omega)]
    by_cases ha : (lsb s).length = 1 ∧ (lsb s)[0]?.getD 0 < 128
    · rw [if_pos (by simpa using ha), encT, if_pos ha, ha.1]; rfl
    · rw [if_neg (by simpa using ha)]
      rw [encT_ne ha, List.length_append] at hl ⊢
      have hh := headL_len 128 (lsb s).length
      rw [item_ahead 128 _ f (by omega), p_bd, wr_i _ (by omega) (by omega), dec_t (by omega)]
      congr 2; omega
  | list d items es hd hs hl ih =>
    obtain ⟨N, hN⟩ := ev_items (P := fun i x f => g_item_long f x ((d + 1 : Nat) : Int) = some (((es i).length : Int), true)) items ih
    refine ⟨max N (items.length + 50) + 1, fun f hf => ?_⟩
    obtain ⟨f, rfl⟩ : ∃ g, f = g + 1 := ⟨f - 1, by omega⟩
    show g_item_long (f + 1) _ _ = _
    rw [g_item_long]
    simp only [p_lt, p_jn, p_br, Bool.not_true, Bool.false_eq_true, if_false, seq_empty]
    rw [if_neg (by simp; omega)]
    obtain ⟨hi6, hp⟩ := items_le hs hl
    have key := idx_loop (fun n s i => g_item_long_l1 ⟨true, ByteArray.empty, items⟩ (d : Int) (g_item_long f) (fun x35 => Gw.bd (g_item_ahead f x35) fun t73 => some (wr .i64 (x35 + t73), decide (wr .i64 (x35 + t73) ≤ 65536))) f n s i)
      items.length (fun i => ((pre es i).length : Int)) (some ((((encL (pre es items.length)).length : Nat) : Int), true))
      (fun n => by
        rw [g_item_long_l1]
        simp only [p_lt]
        rw [dec_f (by omega), p_brf, item_ahead 192 _ f (by omega), p_bd]
        have hh := headL_len 192 (pre es items.length).length
        have hl' : (encL (pre es items.length)).length ≤ 65536 := hl
        rw [encL_len] at hl' ⊢
        rw [wr_i _ (by omega) (by omega), dec_t (by omega)]
        congr 2; omega)
      (fun n i hi => by
        rw [g_item_long_l1]
        simp only [p_lt, p_jn]
        have hx : items[i]? = some items[i] := List.getElem?_eq_getElem hi
        have e1 : wr .i64 ((d : Int) + 1) = ((d + 1 : Nat) : Int) := wr_s d (by omega)
        have hle := pre_le' es (show i + 1 ≤ items.length by omega)
        rw [dec_t (by omega), p_brt, p_ix hx, e1, hN f (by omega) i _ hx, p_bd]
        have e2 : wr .i64 (((pre es i).length : Int) + ((es i).length : Int)) = ((pre es (i + 1)).length : Int) := by
          rw [pre_succ, List.length_append] at *
          rw [wr_i _ (by omega) (by omega)]; omega
        rw [e2, wr_s i (by omega)]
        simp only [Bool.not_true, p_brf]
        rw [dec_f (by omega), p_brf]) f (by omega)
    exact key
theorem item_Check {x : TItem} {e : List Int} (h : Enc 0 x e) : Ev (fun f => g_item_Check f x) 0 := by
  have := Ev.bd (B := fun n t8 => lt (!t8.2) fun c12 => br c12 (some (1 : Int)) (some 0)) (item_long h) (b := 0) ⟨0, fun n _ => rfl⟩
  exact this
theorem item_copied {d : Nat} {x : TItem} {e : List Int} (h : Enc d x e) : Ev (fun f => g_item_copied f x) x := by
  induction h with
  | text d s hl =>
    refine ⟨2, fun f hf => ?_⟩
    obtain ⟨f, rfl⟩ : ∃ g, f = g + 2 := ⟨f - 2, by omega⟩
    show g_item_copied (f + 1 + 1) _ = _
    rw [g_item_copied]
    simp only [p_jn]
    rw [g_item_copied_l1]
    simp only [p_lt]
    rfl
  | list d items es hd hs hl ih =>
    obtain ⟨N, hN⟩ := ev_items (P := fun i x f => g_item_copied f x = some x) items ih
    obtain ⟨hi6, hp⟩ := items_le hs hl
    refine ⟨max N (items.length + 50) + 1, fun f hf => ?_⟩
    obtain ⟨f, rfl⟩ : ∃ g, f = g + 1 := ⟨f - 1, by omega⟩
    show g_item_copied (f + 1) _ = _
    rw [g_item_copied]
    simp only [p_jn]
    exact idx_loop (fun n s i => g_item_copied_l1 ⟨true, ByteArray.empty, items⟩ (g_item_copied f) (fun l21 => some (TItem.mk true ByteArray.empty l21)) f n s i)
      items.length (fun i => items.take i) (some ⟨true, ByteArray.empty, items⟩)
      (fun n => by
        rw [g_item_copied_l1]
        simp only [p_lt]
        rw [dec_f (by omega), p_brf, List.take_length])
      (fun n i hi => by
        rw [g_item_copied_l1]
        simp only [p_lt, p_jn]
        have hx : items[i]? = some items[i] := List.getElem?_eq_getElem hi
        rw [dec_t (by omega), p_brt, p_ix hx, hN f (by omega) i _ hx, p_bd, p_gd (by simp only [List.length_take, List.length_singleton]; omega), wr_s i (by omega), List.take_append_getElem hi]) f (by omega)
theorem item_laid {d : Nat} {x : TItem} {e : List Int} (h : Enc d x e) : ∃ N, ∀ f, N ≤ f → ∀ b : List Int, b.length ≤ 1000000 → g_item_laid f b x = some (b ++ e) := by
  induction h with
  | text d s hl =>
    refine ⟨50, fun f hf b hb => ?_⟩
    obtain ⟨f, rfl⟩ : ∃ g, f = g + 1 := ⟨f - 1, by omega⟩
    rw [g_item_laid]
    simp only [p_lt, p_jn, p_br, item_alone, p_bd, slen_lsb]
    rw [if_neg (by simp)]
    have hs : (lsb s).length ≤ 65536 := by
      unfold encT at hl
      split at hl
      · exact hl
      · rw [List.length_append] at hl; omega
    by_cases ha : (lsb s).length = 1 ∧ (lsb s)[0]?.getD 0 < 128
    · rw [if_neg (by rw [dec_t ha]; simp), encT, if_pos ha, p_gd (by omega)]
    · rw [if_pos (by simp only [Bool.not_eq_true', decide_eq_false_iff_not]; exact ha), encT_ne ha, item_front b (by omega) _ f (by omega) (by omega), p_bd]
      have hh := headL_len 128 (lsb s).length
      rw [p_gd (by rw [List.length_append]; omega), List.append_assoc]
  | list d items es hd hs hl ih =>
    obtain ⟨N, hN⟩ := ev_items (P := fun i x f => ∀ b : List Int, b.length ≤ 1000000 → g_item_laid f b x = some (b ++ es i)) items ih
    obtain ⟨N', hN'⟩ := ev_items (P := fun i x f => g_item_copied f x = some x) items fun i x hx => item_copied (hs i x hx)
    obtain ⟨hi6, hp⟩ := items_le hs hl
    refine ⟨max (max N N') (items.length + 50) + 1, fun f hf b hb => ?_⟩
    obtain ⟨f, rfl⟩ : ∃ g, f = g + 1 := ⟨f - 1, by omega⟩
    rw [g_item_laid]
    simp only [p_lt, p_jn, p_br, if_true, g_item_Each, p_bd, It_item_Each.ap, g_item_Each_1, Bool.not_true, Bool.false_eq_true, if_false]
    have key := idx_loop (fun n s i => g_item_Each_1_l1 ⟨true, ByteArray.empty, items⟩ f (rq (fun (x70 : TItem) (l61 : List Int) => Gw.bd (g_item_laid f l61 x70) fun t95 => some ((t95, 0), true))) (fun (l13 : List Int × Nat) => some l13) n s i)
      items.length (fun i => (pre es i, 0)) (some (pre es items.length, 0))
      (fun n => by
        rw [g_item_Each_1_l1]
        simp only [p_lt]
        rw [dec_f (by omega), p_brf])
      (fun n i hi => by
        rw [g_item_Each_1_l1]
        simp only [p_lt]
        have hx : items[i]? = some items[i] := List.getElem?_eq_getElem hi
        have hle := pre_le' es (show i ≤ items.length by omega)
        rw [dec_t (by omega), p_brt, p_ix hx, hN' f (by omega) i _ hx, p_bd]
        have e1 : rq (fun (x70 : TItem) (l61 : List Int) => Gw.bd (g_item_laid f l61 x70) fun t95 => some ((t95, 0), true)) items[i] (pre es i, 0) = some ((pre es (i + 1), 0), true) := by
          show Gw.bd (g_item_laid f (pre es i) items[i]) _ = _
          rw [hN f (by omega) i _ hx _ (by omega), p_bd, pre_succ]
        rw [e1, p_bd2, wr_s i (by omega)]
        rfl) f (by omega)
    have key' : g_item_Each_1_l1 ⟨true, ByteArray.empty, items⟩ f (rq (fun (x70 : TItem) (l61 : List Int) => Gw.bd (g_item_laid f l61 x70) fun t95 => some ((t95, 0), true))) (fun (l13 : List Int × Nat) => some l13) f ([], 0) 0 = some (pre es items.length, 0) := key
    rw [key', p_bd2, p_sw0, item_front b (by omega) _ f (by omega) (by omega), p_bd]
    have hh := headL_len 192 (pre es items.length).length
    rw [p_gd (by rw [List.length_append]; omega), List.append_assoc]
    rfl
theorem item_Bytes {x : TItem} {e : List Int} (h : Enc 0 x e) : Ev (fun f => g_item_Bytes f x) (bsl e, 0) := by
  obtain ⟨N, hN⟩ := item_laid h
  refine Ev.bd (item_Check h) ?_
  refine ⟨N, fun f hf => ?_⟩
  simp only [p_lt, p_br]
  rw [if_neg (by simp), hN f hf [] (by simp), p_bd, List.nil_append]
/-! the page's -/
theorem ref4_deep {d : Nat} {x : TItem} {e : List Int} (h : Enc d x e) : ∃ k : Nat, k ≤ 16 - d ∧ Ev (fun f => g_tarnref4_deep f x) (k : Int) := by
  induction h with
  | text d s hl =>
    refine ⟨0, by omega, 2, fun f hf => ?_⟩
    obtain ⟨f, rfl⟩ : ∃ g, f = g + 1 := ⟨f - 1, by omega⟩
    rfl
  | list d items es hd hs hl ih =>
    obtain ⟨hi6, hp⟩ := items_le hs hl
    have ih' : ∀ i x, items[i]? = some x → ∃ k : Nat, k ≤ 16 - (d + 1) ∧ Ev (fun f => g_tarnref4_deep f x) (k : Int) := ih
    let ks : Nat → Nat := fun i => if hi : i < items.length then (ih' i items[i] (List.getElem?_eq_getElem hi)).choose else 0
    have hk1 : ∀ i, ks i ≤ 16 - (d + 1) := by
      intro i
      show (if hi : i < items.length then _ else 0) ≤ _
      split
      · rename_i hi
        exact (ih' i items[i] (List.getElem?_eq_getElem hi)).choose_spec.1
      · omega
    have hk2 : ∀ i x, items[i]? = some x → ∃ N, ∀ f, N ≤ f → g_tarnref4_deep f x = some ((ks i : Nat) : Int) := by
      intro i x hx
      have hi := (List.getElem?_eq_some_iff.1 hx).1
      have e : items[i] = x := (List.getElem?_eq_some_iff.1 hx).2
      subst e
      have := (ih' i items[i] (List.getElem?_eq_getElem hi)).choose_spec.2
      have e2 : ks i = (ih' i items[i] (List.getElem?_eq_getElem hi)).choose := dif_pos hi
      rw [e2]
      exact this
    obtain ⟨N, hN⟩ := ev_items (P := fun i x f => g_tarnref4_deep f x = some ((ks i : Nat) : Int)) items hk2
    let mx : Nat → Nat := fun i => ((List.range i).map ks).foldl (fun a b => max a b) 0
    have mxs : ∀ i, mx (i + 1) = max (mx i) (ks i) := fun i => by
      show ((List.range (i + 1)).map ks).foldl _ 0 = _
      rw [List.range_succ, List.map_append, List.foldl_append]; rfl
    have mxb : ∀ i, mx i ≤ 16 - (d + 1) := by
      intro i
      induction i with
      | zero => exact Nat.zero_le _
      | succ i ih => rw [mxs]; have := hk1 i; omega
    refine ⟨mx items.length + 1, by have := mxb items.length; omega, max N (items.length + 50) + 1, fun f hf => ?_⟩
    obtain ⟨f, rfl⟩ : ∃ g, f = g + 1 := ⟨f - 1, by omega⟩
    show g_tarnref4_deep (f + 1) _ = _
    rw [g_tarnref4_deep]
    simp only [p_lt, p_jn, p_br, Bool.not_true, Bool.false_eq_true, if_false, seq_empty]
    exact idx_loop (fun n s i => g_tarnref4_deep_l1 ⟨true, ByteArray.empty, items⟩ (g_tarnref4_deep f) (fun x10 => some (wr .i64 (x10 + 1))) f n s i)
      items.length (fun i => ((mx i : Nat) : Int)) _
      (fun n => by
        rw [g_tarnref4_deep_l1]
        simp only [p_lt]
        have := mxb items.length
        rw [dec_f (by omega), p_brf, wr_s _ (by omega)])
      (fun n i hi => by
        rw [g_tarnref4_deep_l1]
        simp only [p_lt]
        have hx : items[i]? = some items[i] := List.getElem?_eq_getElem hi
        rw [dec_t (by omega), p_brt, p_ix hx, hN f (by omega) i _ hx, p_bd, wr_s i (by omega), mxs]
        congr 1
        split <;> omega) f (by omega)
theorem ref4_raw {d : Nat} {x : TItem} {e : List Int} (h : Enc d x e) : Ev (fun f => g_tarnref4_raw f x) (bsl e) := by
  induction h with
  | text d s hl =>
    refine ⟨50, fun f hf => ?_⟩
    obtain ⟨f, rfl⟩ : ∃ g, f = g + 1 := ⟨f - 1, by omega⟩
    show g_tarnref4_raw (f + 1) _ = _
    rw [g_tarnref4_raw]
    simp only [p_lt, p_jn, p_br, Bool.not_false, if_true, slen_lsb]
    have hs : (lsb s).length ≤ 65536 := by
      unfold encT at hl
      split at hl
      · exact hl
      · rw [List.length_append] at hl; omega
    have tail : g_tarnref4_head f (((lsb s).length : Nat) : Int) 128 = some (bsl (headL 128 (lsb s).length)) := ref_head (by omega) _ f (by omega)
    have hh := headL_len 128 (lsb s).length
    have hr := headL_rg (base := 128) (by omega) (lsb s).length
    by_cases h1 : (lsb s).length = 1
    · rw [if_pos (by simp [h1]), p_gd (by omega)]
      have e0 : (lsb s)[0]? = some ((lsb s)[0]?.getD 0) := by rw [List.getElem?_eq_getElem (by omega)]; rfl
      rw [show (0 : Int) = ((0 : Nat) : Int) from rfl, sget_lsb s 0 _ e0]
      by_cases ha : (lsb s)[0]?.getD 0 < 128
      · rw [if_pos (dec_t ha), encT, if_pos ⟨h1, ha⟩, bsl_lsb]
      · rw [if_neg (by simpa using ha), encT_ne (fun g => ha g.2), tail, p_bd, lsb_bsl hr, p_gd (by omega)]
        rw [bsl_append _ _ hr (lsb_rg s), bsl_lsb]
    · rw [if_neg (by simp; omega), if_neg (by simp), encT_ne (fun g => h1 g.1), tail, p_bd, lsb_bsl hr, p_gd (by omega)]
      rw [bsl_append _ _ hr (lsb_rg s), bsl_lsb]
  | list d items es hd hs hl ih =>
    obtain ⟨N, hN⟩ := ev_items (P := fun i x f => g_tarnref4_raw f x = some (bsl (es i))) items ih
    obtain ⟨hi6, hp⟩ := items_le hs hl
    have rgs : ∀ i, i ≤ items.length → ∀ z ∈ pre es i, 0 ≤ z ∧ z < 256 := by
      intro i hi z hz
      simp only [pre, List.mem_flatten, List.mem_map, List.mem_range] at hz
      obtain ⟨_, ⟨j, hj, rfl⟩, hz⟩ := hz
      exact (hs j _ (List.getElem?_eq_getElem (by omega))).rg z hz
    refine ⟨max N (items.length + 50) + 1, fun f hf => ?_⟩
    obtain ⟨f, rfl⟩ : ∃ g, f = g + 1 := ⟨f - 1, by omega⟩
    show g_tarnref4_raw (f + 1) _ = _
    rw [g_tarnref4_raw]
    simp only [p_lt, p_jn, p_br, Bool.not_true, Bool.false_eq_true, if_false]
    have e0 : (ByteArray.mk #[]) = bsl (pre es 0) := rfl
    rw [e0]
    exact idx_loop (fun n s i => g_tarnref4_raw_l1 ⟨true, ByteArray.empty, items⟩ (g_tarnref4_raw f) (fun t9 => Gw.bd (g_tarnref4_head f (slen t9) 192) fun t40 => gd (slen t40 + slen t9 ≤ 9223372036854775807) (some (t40 ++ t9))) f n s i)
      items.length (fun i => bsl (pre es i)) _
      (fun n => by
        rw [g_tarnref4_raw_l1]
        simp only [p_lt, p_jn]
        have hh := headL_len 192 (pre es items.length).length
        have hr := headL_rg (base := 192) (by omega) (pre es items.length).length
        have hr2 := rgs items.length (Nat.le_refl _)
        rw [dec_f (by omega), p_brf, p_brf, slen_bsl hr2, ref_head (by omega) _ f (by omega), p_bd, slen_bsl hr, p_gd (by omega), ← bsl_append _ _ hr hr2]
        rfl)
      (fun n i hi => by
        rw [g_tarnref4_raw_l1]
        simp only [p_lt, p_jn]
        have hx : items[i]? = some items[i] := List.getElem?_eq_getElem hi
        have hle := pre_le' es (show i ≤ items.length by omega)
        have hr2 := rgs i (by omega)
        have hr3 := (hs i _ hx).rg
        have hl3 := (hs i _ hx).len
        rw [dec_t (by omega), p_brt, slen_bsl hr2, dec_t (by omega), p_brt, p_ix hx, hN f (by omega) i _ hx, p_bd, slen_bsl hr3, p_gd (by omega), wr_s i (by omega), ← bsl_append _ _ hr2 hr3, pre_succ]) f (by omega)
theorem ref4_Item {x : TItem} {e : List Int} (h : Enc 0 x e) : Ev (fun f => g_tarnref4_Item f x) (bsl e, true) := by
  obtain ⟨k, hk, hd⟩ := ref4_deep h
  refine Ev.bd hd ?_
  simp only [p_lt, p_br]
  have e1 : decide (((k : Nat) : Int) > 16) = false := dec_f (by omega)
  simp only [e1, Bool.false_eq_true, if_false]
  refine Ev.bd (ref4_raw h) ⟨0, fun f _ => ?_⟩
  have := h.len
  rw [slen_bsl h.rg, if_neg (by simp; omega)]
end Go.Proofs
