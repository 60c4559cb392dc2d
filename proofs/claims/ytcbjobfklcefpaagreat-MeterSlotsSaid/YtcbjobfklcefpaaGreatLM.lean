/- A transaction's bytes: the program's and the page's are the same. -/
import Derived.Test.YtcbjobfklcefpaaGreatLL
import Derived.Test.YtcbjobfklcefpaaGreatY4
set_option linter.unusedVariables false
set_option linter.unusedSimpArgs false
set_option maxRecDepth 100000
set_option maxHeartbeats 1000000
namespace Go.Proofs
open Gw
/-! a mark's eight bytes -/
def mtb (m : Int) (i : Nat) : Int := m / 2 ^ (56 - 8 * i) % 256
def mtL (m : Int) : List Int := (List.range 8).map (mtb m)
theorem mtL_rg (m : Int) : ∀ x ∈ mtL m, 0 ≤ x ∧ x < 256 := by
  intro x hx
  simp only [mtL, List.mem_map] at hx
  obtain ⟨i, _, rfl⟩ := hx
  unfold mtb; omega
theorem mtL_len (m : Int) : (mtL m).length = 8 := by simp [mtL]
theorem mt_at {m : Int} (h : 0 ≤ m) (i : Nat) (X : Int) (hX : X = ((56 - 8 * i : Nat) : Int)) : wr .u8 (ishr .u64 m X) = mtb m i := by
  rw [ishr_k h (56 - 8 * i) (by omega) X hX, wr_b]; rfl
theorem mark_Text {m : Int} (h : U1 m) (f : Nat) (hf : 10 ≤ f) : g_mark_Text f m = some (bsl (mtL m)) := by
  simp only [g_mark_Text, p_jn, p_lt]
  have key := idx_loop (fun n (s : List Int) i => ls8 s (fun y0 y1 y2 y3 y4 y5 y6 y7 => g_mark_Text_l1 m (fun x6 x7 x8 x9 x10 x11 x12 x13 => some (bsl (([x6, x7, x8, x9, x10, x11, x12, x13] : List Int)))) f n y0 y1 y2 y3 y4 y5 y6 y7 i))
    8 (fun i => (mtL m).take i ++ List.replicate (8 - i) 0) (some (bsl (mtL m)))
    (fun n => by
      have e : (mtL m).take 8 ++ List.replicate (8 - 8) 0 = mtL m := by rw [List.take_of_length_le (by rw [mtL_len]; omega)]; simp
      rw [e]
      obtain ⟨a0, a1, a2, a3, a4, a5, a6, a7, hq⟩ := len8 (mtL_len m)
      have e1 : ∀ F : Int → Int → Int → Int → Int → Int → Int → Int → Option ByteArray, ls8 (mtL m) F = F a0 a1 a2 a3 a4 a5 a6 a7 := fun F => by rw [hq]; rfl
      rw [e1, g_mark_Text_l1]
      simp only [p_lt]
      rw [dec_f (by omega), p_brf, ← hq])
    (fun n i hi => by
      have hn : ((mtL m).take i ++ List.replicate (8 - i) 0).length = 8 := by simp [mtL_len]; omega
      obtain ⟨a0, a1, a2, a3, a4, a5, a6, a7, hq⟩ := len8 hn
      have e1 : ∀ F : Int → Int → Int → Int → Int → Int → Int → Int → Option ByteArray, ls8 ((mtL m).take i ++ List.replicate (8 - i) 0) F = F a0 a1 a2 a3 a4 a5 a6 a7 := fun F => by rw [hq]; rfl
      rw [e1, g_mark_Text_l1]
      simp only [p_lt]
      have e2 : wr .i64 (56 - wr .i64 (8 * (i : Int))) = ((56 - 8 * i : Nat) : Int) := by rw [wr_i (8 * (i : Int)) (by omega) (by omega), wr_i _ (by omega) (by omega)]; omega
      rw [dec_t (by omega), p_brt, p_gd (by rw [e2]; omega), mt_at h.1 i _ e2, p_gd (by omega), ← hq, Int.toNat_natCast, wr_s i (by omega)]
      congr 1
      have hi' : i < (mtL m).length := by rw [mtL_len]; exact hi
      rw [List.set_append_right _ _ (by simp [mtL_len]; omega), show 8 - i = (8 - (i + 1)) + 1 by omega, List.replicate_succ, ← List.take_append_getElem hi', List.append_assoc]
      have e3 : i - ((mtL m).take i).length = 0 := by simp [mtL_len]; omega
      rw [e3]
      simp [mtL]) f (by omega)
  exact key
theorem ref4_MarkText {m : Int} (h : U1 m) (f : Nat) (hf : 10 ≤ f) : g_tarnref4_MarkText f m = some (bsl (mtL m)) := by
  simp only [g_tarnref4_MarkText, p_jn, p_lt]
  have key := idx_loop (fun n (s : List Int) i => g_tarnref4_MarkText_l1 m (fun l3 => some (bsl l3)) f n s (7 - i)) 8 (fun i => (mtL m).take i) (some (bsl (mtL m)))
    (fun n => by
      rw [g_tarnref4_MarkText_l1]
      simp only [p_lt]
      rw [dec_f (by omega), p_brf, List.take_of_length_le (by rw [mtL_len]; omega)])
    (fun n i hi => by
      rw [g_tarnref4_MarkText_l1]
      simp only [p_lt]
      have e2 : wr .i64 (8 * (7 - (i : Int))) = ((56 - 8 * i : Nat) : Int) := by rw [wr_i _ (by omega) (by omega)]; omega
      have hi' : i < (mtL m).length := by rw [mtL_len]; exact hi
      have e3 : wr .i64 (7 - (i : Int) - 1) = 7 - ((i + 1 : Nat) : Int) := by rw [wr_i _ (by omega) (by omega)]; omega
      rw [dec_t (by omega), p_brt, p_gd (by rw [e2]; omega), mt_at h.1 i _ e2, p_gd (by simp [mtL_len]; omega), e3]
      congr 1
      rw [← List.take_append_getElem hi']
      simp [mtL]) f (by omega)
  exact key
/-! the bytes -/
def itT (s : ByteArray) : TItem := ⟨false, s, []⟩
def itN (x : Int) : TItem := itT (bsl (textL (gasU x)))
def itU (a : TU256) : TItem := itT (bsl (textL a))
def itH (hs : List Int) : TItem := ⟨true, ByteArray.empty, hs.map fun h => itT (bsl (mtL h))⟩
def itB (bs : List ByteArray) : TItem := ⟨true, ByteArray.empty, bs.map itT⟩
def itX (t : TTx) : TItem := ⟨true, ByteArray.empty, [itN t.From, itN t.Nonce, itU t.Tip, itU t.Cap, itU t.BlobCap, itU t.Value_, itN t.Gas, itH t.Hashes, itB t.Blobs]⟩
def enU (a : TU256) : List Int := encT (textL a)
def enH (hs : List Int) : List Int := encL (hs.map fun h => encT (mtL h)).flatten
def enB (bs : List ByteArray) : List Int := encL (bs.map fun b => encT (lsb b)).flatten
def bytesL (t : TTx) : List Int := encL [enU (gasU t.From), enU (gasU t.Nonce), enU t.Tip, enU t.Cap, enU t.BlobCap, enU t.Value_, enU (gasU t.Gas), enH t.Hashes, enB t.Blobs].flatten
def txB (t : TTx) : ByteArray := bsl (bytesL t)
def idS (t : TTx) : Int := markS (txB t)
theorem encT_len (s : List Int) : (encT s).length ≤ 9 + s.length := by
  unfold encT
  have := headL_len 128 s.length
  split
  · omega
  · rw [List.length_append]; omega
theorem enU_len {a : TU256} (h : U a) : (enU a).length ≤ 41 := by
  have := encT_len (textL a)
  have := textL_len h
  unfold enU; omega
theorem flat_le {α : Type} (g : α → List Int) (k : Nat) : ∀ l : List α, (∀ x ∈ l, (g x).length ≤ k) → (l.map g).flatten.length ≤ l.length * k
  | [], _ => by simp
  | a :: t, h => by
    have h1 := flat_le g k t fun x hx => h x (List.mem_cons_of_mem _ hx)
    have h2 := h a (List.mem_cons_self ..)
    simp only [List.map_cons, List.flatten_cons, List.length_append, List.length_cons, Nat.add_mul]
    omega
theorem encL_le (p : List Int) : (encL p).length ≤ 9 + p.length := by
  rw [encL_len]; have := headL_len 192 p.length; omega
theorem enH_len {hs : List Int} (h : hs.length ≤ 4) : (enH hs).length ≤ 77 := by
  have := flat_le (fun h => encT (mtL h)) 17 hs fun x _ => by have := encT_len (mtL x); rw [mtL_len] at this; omega
  have := encL_le (hs.map fun h => encT (mtL h)).flatten
  unfold enH; omega
theorem enB_len {bs : List ByteArray} (h : bs.length ≤ 4) (hb : ∀ b ∈ bs, slen b ≤ 64) : (enB bs).length ≤ 301 := by
  have := flat_le (fun b => encT (lsb b)) 73 bs fun x hx => by have := encT_len (lsb x); have := hb x hx; rw [slen_lsb] at this; omega
  have := encL_le (bs.map fun b => encT (lsb b)).flatten
  unfold enB; omega
theorem fitsS_0 {hs : List Int} {bs : List ByteArray} (h : fitsS hs bs = 0) : (1 ≤ bs.length ∧ bs.length ≤ 4 ∧ hs.length = bs.length) ∧ (∀ b ∈ bs, slen b ≤ 64) ∧ hs = bs.map hashS := by
  unfold fitsS at h
  split at h
  · omega
  · rename_i h1
    split at h
    · rename_i h2
      split at h
      · rename_i h3
        exact ⟨by omega, fun b hb => of_decide_eq_true (List.all_eq_true.1 h2 b hb), h3⟩
      · omega
    · omega
/-- what is asked of a transaction is there -/
structure Fine (t : TTx) : Prop where
  ut : UT t
  ok : txOK t = true
theorem bytes_len {t : TTx} (h : Fine t) : (bytesL t).length ≤ 700 := by
  obtain ⟨⟨h1, h2, h3, h4, h5, h6, h7, h8⟩, hok⟩ := h
  obtain ⟨⟨f1, f2, f3⟩, f4, f5⟩ := fitsS_0 (of_decide_eq_true hok).2.2.2.2.1
  have a1 := enU_len (gasU_U t.From); have a2 := enU_len (gasU_U t.Nonce); have a3 := enU_len h1; have a4 := enU_len h2
  have a5 := enU_len h3; have a6 := enU_len h4; have a7 := enU_len (gasU_U t.Gas); have a8 := enH_len (hs := t.Hashes) (by omega); have a9 := enB_len f2 f4
  unfold bytesL
  refine Nat.le_trans (encL_le _) ?_
  simp only [List.flatten_cons, List.flatten_nil, List.length_append, List.length_nil]
  omega
theorem map_range {α β : Type} (g : α → β) (d : α) (l : List α) : (List.range l.length).map (fun i => g (l[i]?.getD d)) = l.map g := by
  apply List.ext_getElem
  · simp
  · intro i h1 h2
    simp at h1
    simp [h1]
theorem Enc.t {d : Nat} {s : ByteArray} {e : List Int} (he : e = encT (lsb s)) (h : e.length ≤ 65536) : Enc d (itT s) e := by subst he; exact .text d s h
theorem Enc.l {d : Nat} {items : List TItem} {es : List (List Int)} (hd : d < 16) (hn : items.length = es.length) (h : ∀ (i : Nat) (x : TItem) (e : List Int), items[i]? = some x → es[i]? = some e → Enc (d + 1) x e) (hl : (encL es.flatten).length ≤ 65536) : Enc d ⟨true, ByteArray.empty, items⟩ (encL es.flatten) := by
  have e1 : (List.range items.length).map (fun i => es[i]?.getD []) = es := by
    rw [hn]
    have := map_range (fun x : List Int => x) [] es
    simpa using this
  have := Enc.list d items (fun i => es[i]?.getD []) hd (fun i x hx => by
    have hi : i < es.length := by have := (List.getElem?_eq_some_iff.1 hx).1; omega
    have e2 : es[i]? = some es[i] := List.getElem?_eq_getElem hi
    rw [e2]
    exact h i x _ hx e2) (by rw [e1]; exact hl)
  rw [e1] at this
  exact this
theorem enc_U {a : TU256} (h : U a) (d : Nat) : Enc d (itU a) (enU a) := by
  refine Enc.t (by rw [lsb_bsl (textL_rg h)]; rfl) ?_
  have := enU_len h; omega
theorem enc_H {hs : List Int} (h : hs.length ≤ 4) (d : Nat) (hd : d < 15) : Enc d (itH hs) (enH hs) := by
  refine Enc.l (by omega) (by simp) (fun i x e hx he => ?_) (by have := enH_len h; unfold enH at this; omega)
  rw [List.getElem?_map] at hx he
  cases hq : hs[i]? with
  | none => rw [hq] at hx; cases hx
  | some y =>
    rw [hq] at hx he
    cases hx; cases he
    refine Enc.t (by rw [lsb_bsl (mtL_rg y)]) ?_
    show (encT (mtL y)).length ≤ 65536
    have := encT_len (mtL y); rw [mtL_len] at this; omega
theorem enc_B {bs : List ByteArray} (h : bs.length ≤ 4) (hb : ∀ b ∈ bs, slen b ≤ 64) (d : Nat) (hd : d < 15) : Enc d (itB bs) (enB bs) := by
  refine Enc.l (by omega) (by simp) (fun i x e hx he => ?_) (by have := enB_len h hb; unfold enB at this; omega)
  rw [List.getElem?_map] at hx he
  cases hq : bs[i]? with
  | none => rw [hq] at hx; cases hx
  | some y =>
    rw [hq] at hx he
    cases hx; cases he
    refine Enc.t rfl ?_
    show (encT (lsb y)).length ≤ 65536
    have h1 := encT_len (lsb y)
    have h2 := hb y (List.mem_of_getElem? hq)
    rw [slen_lsb] at h2
    omega
theorem enc_X {t : TTx} (h : Fine t) : Enc 0 (itX t) (bytesL t) := by
  have hl := bytes_len h
  obtain ⟨⟨h1, h2, h3, h4, h5, h6, h7, h8⟩, hok⟩ := h
  obtain ⟨⟨f1, f2, f3⟩, f4, f5⟩ := fitsS_0 (of_decide_eq_true hok).2.2.2.2.1
  refine Enc.l (by omega) rfl (fun i x e hx he => ?_) (by unfold bytesL at hl; omega)
  rcases i with _ | _ | _ | _ | _ | _ | _ | _ | _ | i
  · cases hx; cases he; exact enc_U (gasU_U _) _
  · cases hx; cases he; exact enc_U (gasU_U _) _
  · cases hx; cases he; exact enc_U h1 _
  · cases hx; cases he; exact enc_U h2 _
  · cases hx; cases he; exact enc_U h3 _
  · cases hx; cases he; exact enc_U h4 _
  · cases hx; cases he; exact enc_U (gasU_U _) _
  · cases hx; cases he; exact enc_H (by omega) _ (by omega)
  · cases hx; cases he; exact enc_B f2 f4 _ (by omega)
  · simp at hx
theorem tx_amount {a : TU256} (h : U a) (f : Nat) (hf : 40 ≤ f) : g_tx_amount f a = some (itU a) := by
  simp only [g_tx_amount, u256_Text h f hf, p_bd]; rfl
theorem tx_number (x : Int) (f : Nat) (hf : 40 ≤ f) : g_tx_number f x = some (itN x) := by
  simp only [g_tx_number, p_lt]
  have := tx_amount (gasU_U x) f hf
  unfold gasU at this
  rw [this, p_bd]; rfl
theorem ref7_text (s : ByteArray) (f : Nat) : g_tarnref7_text f s = some (itT s) := rfl
theorem ref7_number (x : Int) (f : Nat) (hf : 40 ≤ f) : g_tarnref7_number f x = some (itN x) := by
  simp only [g_tarnref7_number, ref1_Of, p_bd, ref1_Text (gasU_U x) f hf, ref7_text]; rfl
theorem tx_Bytes {t : TTx} (h : UT t) : Ev (fun f => g_tx_Bytes f t) (if txOK t then (txB t, 0) else (ByteArray.mk #[], 1)) := by
  by_cases hok : txOK t = true
  rotate_left
  · refine ⟨100, fun f hf => ?_⟩
    simp only [g_tx_Bytes, tx_Check h f hf, p_bd, p_lt, p_br]
    rw [if_neg hok, if_neg hok, if_pos (by simp)]
  rw [if_pos hok]
  have hF : Fine t := ⟨h, hok⟩
  obtain ⟨N, hN⟩ := item_Bytes (enc_X hF)
  refine ⟨max N 100, fun f hf => ?_⟩
  obtain ⟨h1, h2, h3, h4, h5, h6, h7, h8⟩ := h
  obtain ⟨⟨f1, f2, f3⟩, f4, f5⟩ := fitsS_0 (of_decide_eq_true hok).2.2.2.2.1
  simp only [g_tx_Bytes, tx_Check ⟨h1, h2, h3, h4, h5, h6, h7, h8⟩ f (by omega), p_bd, p_lt, p_br, p_jn]
  rw [if_pos hok, if_neg (by simp), tx_number _ f (by omega), tx_number _ f (by omega), tx_number _ f (by omega), tx_amount h1 f (by omega), tx_amount h2 f (by omega), tx_amount h3 f (by omega), tx_amount h4 f (by omega)]
  simp only [p_bd]
  refine idx_loop (fun n (s : List TItem × List TItem) i => g_tx_Bytes_l1 t f _ n s.1 s.2 i) t.Blobs.length (fun i => ((t.Blobs.take i).map itT, (t.Hashes.take i).map fun h => itT (bsl (mtL h)))) _ ?_ ?_ f (by omega)
  · intro n
    try simp only
    rw [g_tx_Bytes_l1]
    simp only [p_lt]
    rw [dec_f (by omega), p_brf, List.take_of_length_le (Nat.le_refl _), List.take_of_length_le (by omega)]
    have hb : g_item_Bytes f (itX t) = some (bsl (bytesL t), 0) := hN f (by omega)
    have e : TItem.mk true ByteArray.empty (([TItem.mk (itN t.From).List_ (itN t.From).Text ([]), TItem.mk (itN t.Nonce).List_ (itN t.Nonce).Text ([]), TItem.mk (itU t.Tip).List_ (itU t.Tip).Text ([]), TItem.mk (itU t.Cap).List_ (itU t.Cap).Text ([]), TItem.mk (itU t.BlobCap).List_ (itU t.BlobCap).Text ([]), TItem.mk (itU t.Value_).List_ (itU t.Value_).Text ([]), TItem.mk (itN t.Gas).List_ (itN t.Gas).Text ([]), TItem.mk true ByteArray.empty (t.Hashes.map fun h => itT (bsl (mtL h))), TItem.mk true ByteArray.empty (t.Blobs.map itT)] : List TItem)) = itX t := rfl
    rw [e, hb, p_bd]
    rfl
  · intro n i hi
    try simp only
    rw [g_tx_Bytes_l1]
    simp only [p_lt, p_jn]
    have hx : t.Blobs[i]? = some t.Blobs[i] := List.getElem?_eq_getElem hi
    have hi' : i < t.Hashes.length := by omega
    have hy : t.Hashes[i]? = some t.Hashes[i] := List.getElem?_eq_getElem hi'
    rw [dec_t (by omega), p_brt, p_ix hx, p_ix hy, mark_Text (h8 _ (List.getElem_mem _)) f (by omega), p_bd, p_gd (by simp; omega), p_gd (by simp; omega), wr_s i (by omega)]
    congr 1
    · rw [← List.take_append_getElem hi, List.map_append]; rfl
    · rw [← List.take_append_getElem hi', List.map_append]; rfl
theorem ref7_Bytes {t : TTx} (hF : Fine t) : Ev (fun f => g_tarnref7_Bytes f t) (txB t) := by
  obtain ⟨N, hN⟩ := ref4_Item (enc_X hF)
  refine ⟨max N 100, fun f hf => ?_⟩
  obtain ⟨⟨h1, h2, h3, h4, h5, h6, h7, h8⟩, hok⟩ := hF
  obtain ⟨⟨f1, f2, f3⟩, f4, f5⟩ := fitsS_0 (of_decide_eq_true hok).2.2.2.2.1
  simp only [g_tarnref7_Bytes, p_jn]
  refine idx_loop (fun n (s : List TItem) i => g_tarnref7_Bytes_l1 t f _ n s i) t.Hashes.length (fun i => (t.Hashes.take i).map fun h => itT (bsl (mtL h))) _ ?_ ?_ f (by omega)
  · intro n
    try simp only
    rw [g_tarnref7_Bytes_l1]
    simp only [p_lt]
    rw [dec_f (by omega), p_brf, List.take_of_length_le (Nat.le_refl _)]
    refine idx_loop (fun n (s : List TItem) i => g_tarnref7_Bytes_l2 t f _ n s i) t.Blobs.length (fun i => (t.Blobs.take i).map itT) _ ?_ ?_ f (by omega)
    · intro n
      try simp only
      rw [g_tarnref7_Bytes_l2]
      simp only [p_lt]
      rw [dec_f (by omega), p_brf, List.take_of_length_le (Nat.le_refl _), ref7_number _ f (by omega), ref7_number _ f (by omega), ref7_number _ f (by omega), ref1_Text h1 f (by omega), ref1_Text h2 f (by omega), ref1_Text h3 f (by omega), ref1_Text h4 f (by omega)]
      simp only [p_bd, ref7_text]
      have hb : g_tarnref4_Item f (itX t) = some (bsl (bytesL t), true) := hN f (by omega)
      have e : TItem.mk true ByteArray.empty (([TItem.mk (itN t.From).List_ (itN t.From).Text ([]), TItem.mk (itN t.Nonce).List_ (itN t.Nonce).Text ([]), TItem.mk (itT (bsl (textL t.Tip))).List_ (itT (bsl (textL t.Tip))).Text ([]), TItem.mk (itT (bsl (textL t.Cap))).List_ (itT (bsl (textL t.Cap))).Text ([]), TItem.mk (itT (bsl (textL t.BlobCap))).List_ (itT (bsl (textL t.BlobCap))).Text ([]), TItem.mk (itT (bsl (textL t.Value_))).List_ (itT (bsl (textL t.Value_))).Text ([]), TItem.mk (itN t.Gas).List_ (itN t.Gas).Text ([]), TItem.mk true ByteArray.empty (t.Hashes.map fun h => itT (bsl (mtL h))), TItem.mk true ByteArray.empty (t.Blobs.map itT)] : List TItem)) = itX t := rfl
      rw [e, hb, p_bd]
      rfl
    · intro n i hi
      try simp only
      rw [g_tarnref7_Bytes_l2]
      simp only [p_lt, p_jn, ref7_text]
      have hx : t.Blobs[i]? = some t.Blobs[i] := List.getElem?_eq_getElem hi
      rw [dec_t (by omega), p_brt, p_ix hx, p_bd, p_gd (by simp; omega), wr_s i (by omega)]
      congr 1
      rw [← List.take_append_getElem hi, List.map_append]; rfl
  · intro n i hi
    try simp only
    rw [g_tarnref7_Bytes_l1]
    simp only [p_lt, p_jn, ref7_text]
    have hx : t.Hashes[i]? = some t.Hashes[i] := List.getElem?_eq_getElem hi
    rw [dec_t (by omega), p_brt, p_ix hx, ref4_MarkText (h8 _ (List.getElem_mem _)) f (by omega), p_bd, p_bd, p_gd (by simp; omega), wr_s i (by omega)]
    congr 1
    rw [← List.take_append_getElem hi, List.map_append]; rfl
theorem txB_len {t : TTx} (h : Fine t) : slen (txB t) ≤ 700 ∧ (lsb (txB t)).length ≤ 700 := by
  have h1 := bytes_len h
  have h2 := slen_bsl (enc_X h).rg
  have h3 := slen_lsb (txB t)
  unfold txB at *
  omega
theorem tx_ID {t : TTx} (h : UT t) : Ev (fun f => g_tx_ID f t) (if txOK t then (idS t, 0) else (0, 1)) := by
  refine Ev.bd (tx_Bytes h) ?_
  by_cases hok : txOK t = true
  · have hl := txB_len ⟨h, hok⟩
    rw [if_pos hok, if_pos hok]
    refine ⟨1000, fun f hf => ?_⟩
    simp only [p_lt, p_br]
    rw [if_neg (by simp), mark_Mark _ (by omega) f (by omega), p_bd]; rfl
  · rw [if_neg hok, if_neg hok]
    exact ⟨0, fun f _ => by simp only [p_lt, p_br]; rfl⟩
theorem ref7_ID {t : TTx} (h : Fine t) : Ev (fun f => g_tarnref7_ID f t) (idS t) := by
  refine Ev.bd (ref7_Bytes h) ?_
  have hl := txB_len h
  refine ⟨1000, fun f hf => ?_⟩
  try simp only
  rw [ref4_Mark _ (by omega) f (by omega), p_bd]; rfl
end Go.Proofs
