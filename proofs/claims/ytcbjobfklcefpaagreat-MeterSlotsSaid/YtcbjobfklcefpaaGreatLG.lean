/- Marks, hashes; what a transaction costs, whether it may be. -/
import Derived.Test.YtcbjobfklcefpaaGreatLF
set_option linter.unusedVariables false
set_option linter.unusedSimpArgs false
set_option maxRecDepth 100000
set_option maxHeartbeats 1000000
namespace Go.Proofs
open Gw
/-! bytes -/
theorem size_lsb (s : ByteArray) : (lsb s).length = s.size := by simp [lsb]
theorem slen_lsb (s : ByteArray) : slen s = ((lsb s).length : Int) := by rw [size_lsb]; rfl
theorem lsb_rg (s : ByteArray) : ∀ x ∈ lsb s, 0 ≤ x ∧ x < 256 := by
  intro x hx
  simp only [lsb, List.mem_map] at hx
  obtain ⟨b, _, rfl⟩ := hx
  have := b.toNat_lt
  omega
theorem sget_lsb (s : ByteArray) (i : Nat) (x : Int) (h : (lsb s)[i]? = some x) : sget s (i : Int) = x := by
  unfold sget
  rw [Int.toNat_natCast]
  have hi : i < s.size := by
    have := (List.getElem?_eq_some_iff.1 h).1
    rwa [size_lsb] at this
  rw [show s[i]? = some s[i] from by simp [hi]]
  simp only [lsb, List.getElem?_map] at h
  rw [Array.getElem?_toList, Array.getElem?_eq_getElem (show i < s.data.size from hi)] at h
  exact oi h
theorem lsb_append (s t : ByteArray) : lsb (s ++ t) = lsb s ++ lsb t := by
  simp [lsb, ByteArray.data_append]
theorem bsl_go (l : List Int) : ∀ s : ByteArray, lsb (l.foldl (fun s n => s.push (UInt8.ofNat n.toNat)) s) = lsb s ++ l.map (fun n => ((UInt8.ofNat n.toNat).toNat : Int)) := by
  induction l with
  | nil => intro s; simp
  | cons a t ih => intro s; rw [List.foldl_cons, ih]; simp [lsb, ByteArray.push]
theorem lsb_bsl {l : List Int} (h : ∀ x ∈ l, 0 ≤ x ∧ x < 256) : lsb (bsl l) = l := by
  unfold bsl
  rw [bsl_go]
  have e : lsb ByteArray.empty = [] := rfl
  rw [e, List.nil_append]
  conv => rhs; rw [← List.map_id l]
  apply List.map_congr_left
  intro x hx
  obtain ⟨h0, h1⟩ := h x hx
  simp only [id]
  rw [UInt8.toNat_ofNat']
  omega
theorem lsb_inj {s t : ByteArray} (h : lsb s = lsb t) : s = t := by
  obtain ⟨⟨s⟩⟩ := s
  obtain ⟨⟨t⟩⟩ := t
  simp only [lsb] at h
  congr 2
  induction s generalizing t with
  | nil => cases t <;> simp_all
  | cons a s ih =>
    cases t with
    | nil => simp at h
    | cons b t =>
      simp only [List.map_cons, List.cons.injEq] at h
      obtain ⟨h1, h2⟩ := h
      have e : a = b := UInt8.toNat_inj.1 (by omega)
      rw [e, ih _ h2]
theorem bsl_lsb (s : ByteArray) : bsl (lsb s) = s := lsb_inj (lsb_bsl (lsb_rg s))
theorem bsl_append (l m : List Int) (hl : ∀ x ∈ l, 0 ≤ x ∧ x < 256) (hm : ∀ x ∈ m, 0 ≤ x ∧ x < 256) : bsl (l ++ m) = bsl l ++ bsl m := by
  apply lsb_inj
  rw [lsb_append, lsb_bsl hl, lsb_bsl hm, lsb_bsl]
  intro x hx
  rcases List.mem_append.1 hx with hx | hx
  · exact hl x hx
  · exact hm x hx
/-! marks -/
def mst (m b : Int) : Int := wr .u64 (ibXor .u64 m (wr .u64 b) * 1099511628211)
def markL (l : List Int) : Int := l.foldl mst 14695981039346656037
def markS (s : ByteArray) : Int := markL (lsb s)
theorem fold_zipIdx {α σ : Type} (f : σ → α → σ) : ∀ (l : List α) (i : Nat) (s : σ), (l.zipIdx i).foldl (fun s x => f s x.1) s = l.foldl f s := by
  intro l
  induction l with
  | nil => intro i s; rfl
  | cons a t ih => intro i s; rw [List.zipIdx_cons, List.foldl_cons, ih, List.foldl_cons]
theorem mark_Mark (s : ByteArray) (hs : slen s < 4611686018427387904) (f : Nat) (hf : (lsb s).length < f) : g_mark_Mark f s = some (markS s) := by
  rw [slen_lsb] at hs
  simp only [g_mark_Mark, p_jn]
  have := for_all (fun n m i => g_mark_Mark_l1 s (fun x2 => some x2) f n m i) (lsb s) (fun _ b m => .inr (mst m b)) (fun m => some m)
    (fun n m => by
      simp only [g_mark_Mark_l1, p_lt]
      rw [slen_lsb, dec_f (by omega), p_brf])
    (fun n m i x hx hi => by
      simp only [g_mark_Mark_l1, p_lt]
      rw [slen_lsb, dec_t (by omega), p_brt, p_gd (by omega), sget_lsb s i x hx, wr_s i (by omega)]
      rfl) f 14695981039346656037 hf
  rw [this, runl_fold]
  simp only [markS, markL]
  rw [← fold_zipIdx mst _ 0]
theorem ref4_Mark (s : ByteArray) (hs : slen s < 4611686018427387904) (f : Nat) (hf : (lsb s).length < f) : g_tarnref4_Mark f s = some (markS s) := by
  rw [slen_lsb] at hs
  simp only [g_tarnref4_Mark, p_jn]
  have := for_all (fun n m i => g_tarnref4_Mark_l1 s (fun x2 => some x2) f n m i) (lsb s) (fun _ b m => .inr (mst m b)) (fun m => some m)
    (fun n m => by
      simp only [g_tarnref4_Mark_l1, p_lt]
      rw [slen_lsb, dec_f (by omega), p_brf])
    (fun n m i x hx hi => by
      simp only [g_tarnref4_Mark_l1, p_lt]
      rw [slen_lsb, dec_t (by omega), p_brt, p_gd (by omega), sget_lsb s i x hx, wr_s i (by omega)]
      rfl) f 14695981039346656037 hf
  rw [this, runl_fold]
  simp only [markS, markL]
  rw [← fold_zipIdx mst _ 0]
def blobW : ByteArray := ByteArray.mk #[98, 108, 111, 98]
def hashS (b : ByteArray) : Int := markS (blobW ++ b)
theorem slen_append (s t : ByteArray) : slen (s ++ t) = slen s + slen t := by
  rw [slen_lsb, slen_lsb, slen_lsb, lsb_append, List.length_append]; omega
theorem slen_blob : slen blobW = 4 := rfl
theorem hash_len (b : ByteArray) (h : slen b ≤ 64) : (lsb (blobW ++ b)).length < 70 := by
  have := slen_append blobW b
  rw [slen_lsb] at this
  rw [slen_blob] at this
  omega
theorem ref4_Hash (b : ByteArray) (h : slen b ≤ 64) (f : Nat) (hf : 70 ≤ f) : g_tarnref4_Hash f b = some (hashS b) := by
  have e := slen_append blobW b
  rw [slen_blob] at e
  have hl := hash_len b h
  simp only [g_tarnref4_Hash, p_lt]
  rw [p_gd (by show slen blobW + _ ≤ _; rw [slen_blob]; omega)]
  show bd (g_tarnref4_Mark f (blobW ++ b)) _ = _
  rw [ref4_Mark _ (by omega) f (by omega), p_bd]; rfl
theorem blob_Hash (b : ByteArray) (f : Nat) (hf : 70 ≤ f) : g_blob_Hash f b = some (if slen b > 64 then (0, 2) else (hashS b, 0)) := by
  simp only [g_blob_Hash, p_lt, p_br, decide_eq_true_eq]
  by_cases h : slen b > 64
  · rw [if_pos h, if_pos h]
  · rw [if_neg h, if_neg h]
    have e := slen_append blobW b
    rw [slen_blob] at e
    have hl := hash_len b (by omega)
    rw [p_gd (by show slen blobW + _ ≤ _; rw [slen_blob]; omega)]
    show bd (g_mark_Mark f (blobW ++ b)) _ = _
    rw [mark_Mark _ (by omega) f (by omega), p_bd]; rfl
/-! sidecars -/
def fitsS (hs : List Int) (bs : List ByteArray) : Int :=
  if bs.length < 1 ∨ 4 < bs.length ∨ hs.length ≠ bs.length then 1 else
  if bs.all (fun b => decide (slen b ≤ 64)) then (if hs = bs.map hashS then 0 else 1) else 2
theorem zip_all {α : Type} (p : α → Bool) : ∀ (l : List α) (i : Nat), (l.zipIdx i).all (fun x => p x.1) = l.all p := by
  intro l
  induction l with
  | nil => intro i; rfl
  | cons a t ih => intro i; simp only [List.zipIdx_cons, List.all_cons, ih]
theorem zip_eq {α : Type} (g : α → Int) : ∀ (bs : List α) (hs ms : List Int) (i : Nat), i = ms.length → hs.length = bs.length → ((bs.zipIdx i).all (fun x => (ms ++ hs)[x.2]? == some (g x.1))) = decide (hs = bs.map g)
  | [], [], ms, i, _, _ => by simp
  | b :: bs, h :: hs, ms, i, hi, hl => by
    have ih := zip_eq g bs hs (ms ++ [h]) (i + 1) (by simp; omega) (by simpa using hl)
    simp only [List.zipIdx_cons, List.all_cons, List.map_cons, List.cons.injEq]
    rw [List.append_assoc] at ih
    simp only [List.singleton_append] at ih
    rw [ih, List.getElem?_append_right (by omega)]
    subst hi
    by_cases e : h = g b <;> simp [e]
theorem ref4_Fits (hs : List Int) (bs : List ByteArray) (f : Nat) (hf : 100 ≤ f) : g_tarnref4_Fits f hs bs = some (fitsS hs bs) := by
  simp only [g_tarnref4_Fits, p_jn, p_lt, p_br, decide_eq_true_eq, bne_iff_ne]
  unfold fitsS
  by_cases h1 : bs.length < 1
  · rw [if_pos (by omega), if_pos (Or.inl h1)]; simp
  · rw [if_neg (by omega)]
    by_cases h2 : 4 < bs.length
    · rw [if_pos (by omega), if_pos (Or.inr (Or.inl h2))]; simp
    · rw [if_neg (by omega)]
      by_cases h3 : hs.length ≠ bs.length
      · rw [if_pos (by omega), if_pos (Or.inr (Or.inr h3))]
      · rw [if_neg (by omega), if_neg (by omega)]
        have h3' : hs.length = bs.length := by omega
        by_cases h4 : bs.all (fun b => decide (slen b ≤ 64)) = true
        · rw [if_pos h4]
          have e1 := for_all (fun n (_ : Unit) i => g_tarnref4_Fits_l1 bs (g_tarnref4_Fits_l2 bs hs f (some 0) f 0) f n i) bs (fun i b _ => if decide (slen b ≤ 64) then .inr () else .inl 2) (fun _ => g_tarnref4_Fits_l2 bs hs f (some 0) f 0)
            (fun n _ => by
              simp only [g_tarnref4_Fits_l1, p_lt]
              rw [dec_f (by omega), p_brf])
            (fun n _ i x hx hi => by
              simp only [g_tarnref4_Fits_l1, p_lt]
              rw [dec_t (by omega), p_brt, p_ix hx, p_br, wr_s i (by omega)]
              by_cases h : slen x ≤ 64
              · simp [h] <;> omega
              · simp [h] <;> omega) f () (by omega)
          rw [e1, runl_chk, zip_all (fun b => decide (slen b ≤ 64)), if_pos h4]
          have e2 := for_all (fun n (_ : Unit) i => g_tarnref4_Fits_l2 bs hs f (some 0) n i) bs (fun i b _ => if hs[i]? == some (hashS b) then .inr () else .inl 1) (fun _ => some 0)
            (fun n _ => by
              simp only [g_tarnref4_Fits_l2, p_lt]
              rw [dec_f (by omega), p_brf])
            (fun n _ i x hx hi => by
              simp only [g_tarnref4_Fits_l2, p_lt]
              have hh : hs[i]? = some hs[i] := List.getElem?_eq_getElem (by omega)
              rw [dec_t (by omega), p_brt, p_ix hh, p_ix hx, ref4_Hash x (of_decide_eq_true (List.all_eq_true.1 h4 x (List.mem_of_getElem? hx))) f (by omega), p_bd, p_br, wr_s i (by omega), hh]
              by_cases h : hs[i] = hashS x <;> simp [h]) f () (by omega)
          have e3 := zip_eq hashS bs hs [] 0 rfl h3'
          simp only [List.nil_append] at e3
          rw [e2, runl_chk, e3]
          by_cases h : hs = bs.map hashS
          · rw [if_pos (dec_t h), if_pos h]
          · rw [if_neg (by simp [h]), if_neg h]
        · rw [if_neg h4]
          have e1 := for_all (fun n (_ : Unit) i => g_tarnref4_Fits_l1 bs (g_tarnref4_Fits_l2 bs hs f (some 0) f 0) f n i) bs (fun i b _ => if decide (slen b ≤ 64) then .inr () else .inl 2) (fun _ => g_tarnref4_Fits_l2 bs hs f (some 0) f 0)
            (fun n _ => by
              simp only [g_tarnref4_Fits_l1, p_lt]
              rw [dec_f (by omega), p_brf])
            (fun n _ i x hx hi => by
              simp only [g_tarnref4_Fits_l1, p_lt]
              rw [dec_t (by omega), p_brt, p_ix hx, p_br, wr_s i (by omega)]
              by_cases h : slen x ≤ 64
              · simp [h] <;> omega
              · simp [h] <;> omega) f () (by omega)
          rw [e1, runl_chk, zip_all (fun b => decide (slen b ≤ 64)), if_neg h4]
/-- the step of the program's loop -/
def fst' (hs : List Int) (i : Nat) (b : ByteArray) (c : Bool) : Int ⊕ Bool := if slen b > 64 then .inl 2 else .inr (c || !(hs[i]? == some (hashS b)))
theorem fits_aux (A c x Y : Bool) : (if A = true then (if (c || !x) = true ∨ Y = false then (1 : Int) else 0) else 2) = if A = true then (if c = true ∨ (x && Y) = false then 1 else 0) else 2 := by
  cases A <;> cases c <;> cases x <;> cases Y <;> rfl
theorem fits_run (hs : List Int) : ∀ (bs : List ByteArray) (i : Nat) (c : Bool),
    runl (fst' hs) (fun c => some (if c = true then (1 : Int) else 0)) i bs c = some (if bs.all (fun b => decide (slen b ≤ 64)) then (if c = true ∨ ((bs.zipIdx i).all (fun x => hs[x.2]? == some (hashS x.1))) = false then 1 else 0) else 2)
  | [], i, c => by simp [runl]
  | b :: bs, i, c => by
    unfold runl
    by_cases h : slen b > 64
    · have e : fst' hs i b c = .inl 2 := by simp [fst', h]
      rw [e]
      have e2 : decide (slen b ≤ 64) = false := dec_f (by omega)
      simp only [List.all_cons, e2, Bool.false_and, Bool.false_eq_true, if_false]
    · have e : fst' hs i b c = .inr (c || !(hs[i]? == some (hashS b))) := by simp [fst', h]
      rw [e]
      simp only
      rw [fits_run hs bs (i + 1) _]
      have e2 : decide (slen b ≤ 64) = true := dec_t (by omega)
      simp only [List.all_cons, e2, Bool.true_and, List.zipIdx_cons]
      exact congrArg some (fits_aux _ _ _ _)
theorem blob_Fits (hs : List Int) (bs : List ByteArray) (f : Nat) (hf : 100 ≤ f) : g_blob_Fits f hs bs = some (fitsS hs bs) := by
  simp only [g_blob_Fits, p_jn, p_lt, p_br, decide_eq_true_eq, bne_iff_ne]
  unfold fitsS
  by_cases h1 : bs.length < 1
  · rw [if_pos (by omega), if_pos (Or.inl h1)]; simp
  · rw [if_neg (by omega)]
    by_cases h2 : 4 < bs.length
    · rw [if_pos (by omega), if_pos (Or.inr (Or.inl h2))]; simp
    · rw [if_neg (by omega)]
      by_cases h3 : hs.length ≠ bs.length
      · rw [if_pos (by omega), if_pos (Or.inr (Or.inr h3))]
      · rw [if_neg (by omega), if_neg (by omega)]
        have h3' : hs.length = bs.length := by omega
        have e1 := for_all (fun n (c : Bool) i => g_blob_Fits_l1 bs f hs (fun c13 => if c13 = true then some 1 else some 0) n c i) bs (fst' hs) (fun c => some (if c = true then (1 : Int) else 0))
          (fun n c => by
            simp only [g_blob_Fits_l1, p_lt]
            rw [dec_f (by omega), p_brf]
            cases c <;> rfl)
          (fun n c i x hx hi => by
            simp only [g_blob_Fits_l1, p_lt]
            have hh : hs[i]? = some hs[i] := List.getElem?_eq_getElem (by omega)
            rw [dec_t (by omega), p_brt, p_ix hx, blob_Hash x f (by omega), p_bd, wr_s i (by omega), p_jn]
            by_cases h : slen x > 64
            · have e : fst' hs i x c = .inl 2 := by simp [fst', h]
              rw [if_pos h, e]; rfl
            · have e : fst' hs i x c = .inr (c || !(hs[i]? == some (hashS x))) := by simp [fst', h]
              rw [if_neg h, e]
              simp only
              rw [show ((0 : Int) != 0) = false from rfl, p_brf, hh, p_br]
              cases c
              · rw [if_neg (by simp)]
                have hg : ((0 : Int) ≤ (i : Int) ∧ (i : Int) < ((hs.length : Nat) : Int)) := by omega
                rw [p_gd hg, Int.toNat_natCast, hh, p_bd]
                by_cases hq : hs[i] = hashS x
                · simp [hq]
                · have hq' : (hashS x != hs[i]) = true := by simp; exact fun g => hq g.symm
                  have hq2 : (hs[i] == hashS x) = false := by simpa using hq
                  simp [hq, hq', hq2]
              · rw [if_pos rfl]; simp) f false (by omega)
        have e3 := zip_eq hashS bs hs [] 0 rfl h3'
        simp only [List.nil_append] at e3
        refine Eq.trans e1 ?_
        rw [fits_run, e3]
        by_cases h : hs = bs.map hashS <;> simp [h]
end Go.Proofs
