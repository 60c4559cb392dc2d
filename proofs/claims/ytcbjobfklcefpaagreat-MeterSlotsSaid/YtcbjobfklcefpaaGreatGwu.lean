import Derived.Test.YtcbjobfklcefpaaGreatGwt
import Derived.Laws.BytesString
import Derived.Laws.Externs
set_option linter.unusedVariables false
set_option linter.unusedSimpArgs false
/-! Strings, shifts, carries, new slices. -/
namespace Gw
open Go Go.RowKit
section
variable {P : Program} {a : Act} {w : World} {o : Oper}
theorem IsSl.inj {v : Value} {a b : Nat} (h : IsSl v a) (h' : IsSl v b) : a = b := by
  obtain ⟨_, _, rfl, _⟩ := h
  obtain ⟨_, _, e, _⟩ := h'
  cases e
  rfl
theorem IsSl.vg {v : Value} {a b : Nat} {lo hi : Int} (h : IsSl v a) (h' : IsSl v b) (g : 0 ≤ lo ∧ lo ≤ hi ∧ hi ≤ (a : Int)) : 0 ≤ lo ∧ lo ≤ hi ∧ hi ≤ (b : Int) := by
  rw [← h.inj h']; exact g
theorem IsSl.subN {v : Value} {a sz : Nat} {lo hi : Nat} {l h : Int} (hv : IsSl v a) (g : 0 ≤ l ∧ l ≤ h ∧ h ≤ (a : Int)) (hl : l.toNat = lo := by rfl) (hh : h.toNat = hi := by rfl) : IsSl (slSub v sz lo hi) (hi - lo) := by
  subst hl
  subst hh
  exact IsSl.sub hv (by omega) (by omega)
def ishl (k : IntKind) (x y : Int) : Int := k.wrap (x * 2 ^ (min y.toNat k.bits))
def ishr (k : IntKind) (x y : Int) : Int := x.fdiv (2 ^ (min y.toNat k.bits))
theorem ev_shl (k k' : IntKind) (x y : Int) (t t' : TypeId) (X Y : Operand) (ho : o.op = .binOp .shl t X Y t') (hx : a.eval X = .int k x) (hy : a.eval Y = .int k' y) (h0 : 0 ≤ y) :
    (execOp a.eval o).run P w = .ok (.value (.int k (ishl k x y))) w := by
  have hn : ¬ y < 0 := by omega
  simp only [execOp, ho, hx, hy, binOp, Op.shift, hn, if_false]
  rfl
theorem ev_shr (k k' : IntKind) (x y : Int) (t t' : TypeId) (X Y : Operand) (ho : o.op = .binOp .shr t X Y t') (hx : a.eval X = .int k x) (hy : a.eval Y = .int k' y) (h0 : 0 ≤ y) :
    (execOp a.eval o).run P w = .ok (.value (.int k (ishr k x y))) w := by
  have hn : ¬ y < 0 := by omega
  simp only [execOp, ho, hx, hy, binOp, Op.shift, hn, if_false]
  rfl
def ibAnd (k : IntKind) (x y : Int) : Int := k.wrap (((BitVec.ofInt k.bits x &&& BitVec.ofInt k.bits y).toNat : Nat) : Int)
def ibOr (k : IntKind) (x y : Int) : Int := k.wrap (((BitVec.ofInt k.bits x ||| BitVec.ofInt k.bits y).toNat : Nat) : Int)
def ibXor (k : IntKind) (x y : Int) : Int := k.wrap (((BitVec.ofInt k.bits x ^^^ BitVec.ofInt k.bits y).toNat : Nat) : Int)
theorem FnOk.keep {α β : Type} {P : Program} {F : Flat α} {G : Flat β} {C : World → Prop} {fv : Value} {q : α → Option β} {w0 w : World} {Rs : List Res} (h : FnOk P F G C fv q) (hc : C w0) (H : St no w0 w Rs) : C w := h.stable w0 w hc H.below
def ls16 {α β : Type} (l : List α) (f : α → α → α → α → α → α → α → α → α → α → α → α → α → α → α → α → Option β) : Option β := match l with | [a, b, c, d, e, g, h, i, j, k, m, n, o, p, q, r] => f a b c d e g h i j k m n o p q r | _ => none
theorem ls16_some {α β : Type} {l : List α} {f : α → α → α → α → α → α → α → α → α → α → α → α → α → α → α → α → Option β} {r : β} (h : ls16 l f = some r) :
    ∃ a0 a1 a2 a3 a4 a5 a6 a7 a8 a9 b0 b1 b2 b3 b4 b5, l = [a0, a1, a2, a3, a4, a5, a6, a7, a8, a9, b0, b1, b2, b3, b4, b5] ∧ f a0 a1 a2 a3 a4 a5 a6 a7 a8 a9 b0 b1 b2 b3 b4 b5 = some r := by
  unfold ls16 at h
  split at h
  · exact ⟨_, _, _, _, _, _, _, _, _, _, _, _, _, _, _, _, rfl, h⟩
  · cases h
def seq (s t : ByteArray) : Bool := s.toList == t.toList
def slen (s : ByteArray) : Int := ((s.size : Nat) : Int)
def sget (s : ByteArray) (i : Int) : Int := match s[i.toNat]? with | some b => ((b.toNat : Nat) : Int) | none => 0
theorem ev_cat (x y : ByteArray) (t t' : TypeId) (X Y : Operand) (ho : o.op = .binOp .add t X Y t') (hx : a.eval X = .string x) (hy : a.eval Y = .string y) (h0 : slen x + slen y ≤ 9223372036854775807) :
    (execOp a.eval o).run P w = .ok (.value (.string (x ++ y))) w := by
  have hn : ¬ (((x.size + y.size : Nat) : Int) > IntKind.i64.max) := by
    have : IntKind.i64.max = 9223372036854775807 := by decide
    rw [this]
    unfold slen at h0
    omega
  simp only [execOp, ho, hx, hy, binOp, Op.stringOp, hn, if_false]
  rfl
theorem ev_sidx (s : ByteArray) (k : IntKind) (i : Int) (T : TypeId) (X Y : Operand) (ho : o.op = .index T X Y) (hT : P.underlying T = some .string) (hx : a.eval X = .string s) (hy : a.eval Y = .int k i) (h0 : 0 ≤ i ∧ i < slen s) :
    (execOp a.eval o).run P w = .ok (.value (.int .u8 (sget s i))) w := by
  obtain ⟨h1, h2⟩ := h0
  unfold slen at h2
  have hlt : i.toNat < s.size := by omega
  have e : s[i.toNat]? = some s[i.toNat] := by simp [hlt]
  simp only [execOp, ho, hx, hy, Instr.index, asIntOf, Sem.run_bind, Sem.run_pure, Result.andThen, run_underlying hT, h1, if_true, e, sget]
theorem ev_slen (s : ByteArray) (T : TypeId) (X : Operand) (ho : o.op = .call ⟨.builtin .len, #[X], #[T]⟩) (hT : P.underlying T = some .string) (hx : a.eval X = .string s) :
    (execOp a.eval o).run P w = .ok (.value (vi (slen s))) w := by
  simp [execOp, ho, resolve, invoke, builtin, Builtin.len_, hx, run_underlying hT, goInt, slen]
/-- the bytes of numbers -/
def bsl (l : List Int) : ByteArray := l.foldl (fun s n => s.push (UInt8.ofNat n.toNat)) ByteArray.empty
/-- the numbers of bytes -/
def lsb (s : ByteArray) : List Int := s.data.toList.map fun b => ((b.toNat : Nat) : Int)
theorem run_loadCells_rd {h : Hp} {ad : Addr} {n : Nat} {cap : Nat} {l : List Int} (hr : Rd fU8 h (.slice (some ad) n cap) l) (hle : h.le w) : (loadCells ad n).run P w = .ok (l.map fun x => Value.int .u8 x).toArray w := by
  obtain ⟨a', cap', e, h1, h2, h3, h4⟩ := hr.sl
  cases e
  have := run_loadCells_list (P := P) w ad (l.map fun x => Value.int .u8 x) (fun j u hj => by
    rw [List.getElem?_map] at hj
    cases hx : l[j]? with
    | none => rw [hx] at hj; cases hj
    | some x =>
      rw [hx] at hj
      cases hj
      have hsp : ad.spot = none := h4 ad rfl (Nat.lt_of_lt_of_le (Nat.lt_of_le_of_lt (Nat.zero_le _) (List.getElem?_eq_some_iff.1 hx).1) h1)
      have hc := (hr.at_ j x hx).cell (w := w) hle 0 0 (.int .u8 x) (by simp [fU8])
      have e1 : slAt (.slice (some ad) l.length cap) fU8.sz j = ad.add j := by show ad.add (j * 1) = _; rw [Nat.mul_one]
      rw [e1, add_add _ hsp, add_add _ hsp] at hc
      simpa using hc)
  simpa using this
theorem ev_b2s {h : Hp} {s : Value} {l : List Int} (hr : Rd fU8 h s l) (hle : h.le w) (T T' E : TypeId) (X : Operand) (ho : o.op = .convert T T' X) (hx : a.eval X = s)
    (hs : P.underlying T = some (.slice E)) (he : P.underlying E = some (.int .u8)) (hd : P.underlying T' = some .string) :
    (execOp a.eval o).run P w = .ok (.value (.string (bsl l))) w := by
  obtain ⟨ad, cap, rfl, h1, h2, h3, h4⟩ := hr.sl
  have hc := run_convert_bytes_string (P := P) w T T' E ad l.length cap hs he hd
  simp only [execOp, ho, hx, Sem.run_bind, hc]
  cases ad with
  | none =>
    have h0 := h3 rfl
    have hl : l = [] := List.eq_nil_of_length_eq_zero (by omega)
    subst hl
    simp [Conv.bytesToString, bsl]
  | some ad =>
    rw [run_bytesToString w ad l.length cap l (run_loadCells_rd hr hle)]
    simp [Result.andThen, Sem.run_pure, bsl]
end
/-! append of whatever -/
abbrev room : Nat := 140737488355328
section
variable {P : Program} {w : World}
/-- what is appended: how many, which cells -/
structure Src (P : Program) (E : TypeId) (z : Value) (w : World) (sz : Nat) (U : TypeId) (x : Value) (n : Nat) (news : List Value) : Prop where
  ok : (∃ d, P.underlying U = some d ∧ (∀ k, d ≠ .int k) ∧ (∀ w', (Builtin.lenOf x).run P w' = .ok n w') ∧ ∀ w', w'.heap = w.heap → (Builtin.firstCells sz n x).run P w' = .ok news.toArray w') ∨
    (∃ k k', P.underlying U = some (.int k) ∧ x = .int k' (n : Int) ∧ n ≤ room ∧ news.toArray = Builtin.zeroCells z.cells n ∧ z.cells.size = sz)
theorem matches_int {d : TypeDesc} (h : ∀ k, d ≠ .int k) : (match d with | .int _ => true | _ => false) = false := by
  cases d <;> first | rfl | exact absurd rfl (h _)
variable {T U E : TypeId} {inf : TypeInfo} {z : Value} {sz by' : Nat}
theorem app_in (hu : P.underlying T = some (.slice E)) (hi : P.info? E = some inf) (hz : inf.zero = some z) (hsz : inf.size = sz) (hby : inf.bytes = by') {x : Value} {m : Nat} {news : List Value} (hs : Src P E z w sz U x m news)
    (hfit : m * by' ≤ room) {base : Option Addr} {len cap : Nat} (hneed : len + m ≤ cap) (ty : TypeId) {w' : World} (hst : ∀ a, base = some a → (storeCells (a.add (len * sz)) news).run P w = .ok () w') (hn : base = none → w' = w) :
    (Builtin.append_ #[T, U] ty #[.slice base len cap, x]).run P w = .ok (.slice base (len + m) cap) w' := by
  subst hsz hby
  rcases hs.ok with ⟨d, hd, hni, hl, hf⟩ | ⟨k, k', hd, rfl, hr, hnews, hzs⟩
  · have hm := matches_int hni
    have hf := hf w rfl
    cases base with
    | none =>
      have := hn rfl
      subst this
      simp [Builtin.append_, run_underlying hu, run_underlying hd, hm, Go.sizeOf, typeInfo, hi, hl, hneed, hf]
    | some a =>
      have hst := hst a rfl
      simp [Builtin.append_, run_underlying hu, run_underlying hd, hm, Go.sizeOf, typeInfo, hi, hl, hneed, hf, hst]
  · have hwrap : IntKind.i64.wrap (m : Int) = (m : Int) := by rw [IntKind.wrap_i64]; simp only [room] at hr; omega
    have h1 : ¬ (m : Int) < 0 := by omega
    have h2 : ¬ (281474976710656 < (m : Int) * (inf.bytes : Int)) := by
      have : ((m * inf.bytes : Nat) : Int) ≤ 281474976710656 := by simp only [room] at hfit; omega
      rw [Int.natCast_mul] at this; omega
    by_cases h0 : m * inf.size = 0
    · have hne : news = [] := by
        have : news.toArray.size = 0 := by rw [hnews]; simp [Builtin.zeroCells, hzs, h0]
        exact List.eq_nil_of_length_eq_zero (by simpa using this)
      subst hne
      cases base with
      | none =>
        have := hn rfl
        subst this
        simp [Builtin.append_, run_underlying hu, run_underlying hd, Go.sizeOf, typeInfo, hi, asInt, asIntOf, hwrap, h1, h2, hneed, h0]
      | some a =>
        have hst := hst a rfl
        simp [Builtin.append_, run_underlying hu, run_underlying hd, Go.sizeOf, typeInfo, hi, asInt, asIntOf, hwrap, h1, h2, hneed, h0, hst]
    · cases base with
      | none =>
        have := hn rfl
        subst this
        simp [Builtin.append_, run_underlying hu, run_underlying hd, Go.sizeOf, typeInfo, zeroValue, hi, hz, asInt, asIntOf, hwrap, h1, h2, hneed, h0]
      | some a =>
        have hst := hst a rfl
        have hnl : (Builtin.zeroCells z.cells m).toList = news := by rw [← hnews]
        simp [Builtin.append_, run_underlying hu, run_underlying hd, Go.sizeOf, typeInfo, zeroValue, hi, hz, asInt, asIntOf, hwrap, h1, h2, hneed, h0, hnl, hst]
theorem app_grow (hu : P.underlying T = some (.slice E)) (hi : P.info? E = some inf) (hz : inf.zero = some z) (hsz : inf.size = sz) (hby : inf.bytes = by') {x : Value} {m : Nat} {news : List Value} (hs : Src P E z w sz U x m news)
    {base : Option Addr} {len cap : Nat} (hneed : cap < len + m) (hr1 : (len + m) * by' ≤ room) (hr2 : len + m ≤ room) (hm : m * by' ≤ room) (ty : TypeId) {olds : List Value} (hold : (Builtin.firstCells sz len (.slice base len cap)).run P w.drew = .ok olds.toArray w.drew) :
    (Builtin.append_ #[T, U] ty #[.slice base len cap, x]).run P w = .ok (.slice (some ⟨w.heap.size, 0, none⟩) (len + m) (grownCap w (len + m) cap E))
        (w.drew.alloc (.cells (olds.toArray ++ news.toArray ++ Builtin.zeroCells z.cells (grownCap w (len + m) cap E - (len + m))) E)) := by
  subst hsz hby
  have hn : ¬ (len + m ≤ cap) := by omega
  have h63' : ¬ (9223372036854775807 < ((len : Int) + (m : Int))) := by simp only [room] at hr2; omega
  have hgf := growslice_fits (bytes := inf.bytes) hneed (by simp only [room] at hr1; omega)
  have h48' : ¬ (281474976710656 < Builtin.nextslicecap (len + m) cap * inf.bytes) := by omega
  rcases hs.ok with ⟨d, hd, hni, hl, hf⟩ | ⟨k, k', hd, rfl, hr, hnews, hzs⟩
  · have hmi := matches_int hni
    have hf := hf w.drew rfl
    simp [Builtin.append_, run_underlying hu, run_underlying hd, hmi, Go.sizeOf, typeInfo, zeroValue, hi, hz, hl, hn, h63', h48', Question.forced, hf, hold, newRow, grownCap]
    congr 2
    apply Array.ext'
    simp
  · have hwrap : IntKind.i64.wrap (m : Int) = (m : Int) := by rw [IntKind.wrap_i64]; simp only [room] at hr; omega
    have h1 : ¬ (m : Int) < 0 := by omega
    have h2 : ¬ (281474976710656 < (m : Int) * (inf.bytes : Int)) := by
      have : ((m * inf.bytes : Nat) : Int) ≤ 281474976710656 := by simp only [room] at hm; omega
      rw [Int.natCast_mul] at this; omega
    by_cases h0 : m * inf.size = 0
    · have hne : news = [] := by
        have : news.toArray.size = 0 := by rw [hnews]; simp [Builtin.zeroCells, hzs, h0]
        exact List.eq_nil_of_length_eq_zero (by simpa using this)
      subst hne
      simp [Builtin.append_, run_underlying hu, run_underlying hd, Go.sizeOf, typeInfo, zeroValue, hi, hz, asInt, asIntOf, hwrap, h1, h2, hn, h63', h48', h0, Question.forced, hold, newRow, grownCap]
    · simp [Builtin.append_, run_underlying hu, run_underlying hd, Go.sizeOf, typeInfo, zeroValue, hi, hz, asInt, asIntOf, hwrap, h1, h2, hn, h63', h48', h0, Question.forced, hold, newRow, grownCap, ← hnews]
      congr 2
      apply Array.ext'
      simp
end
section
variable {P : Program} {a : Act} {w : World} {ops : Array Oper} {o : Oper} {K : Act → World → Prop}
variable {M : Nat → Prop} {w0 : World} {Rs : List Res}
theorem Op1.appendG {α : Type} {F : Flat α} {E : TypeId} {s : Value} {l : List α} (H : St M w0 w Rs) (i : Nat) (hi : Rs[i]? = some (Own F E s l)) (hw : Region.wanted o (yielded ops a.tmps) = true)
    (T U : TypeId) (x y : Operand) (by' : Nat) (ho : o.op = .call ⟨.builtin .append, #[x, y], #[T, U]⟩) (hT : sE P T = some (E, F.sz, by', true))
    (hx : a.eval x = s) (s2 : Value) (l2 : List α) (hsrc : ∀ z, Src P E z w F.sz U s2 l2.length (l2.flatMap F.enc)) (hy : a.eval y = s2)
    (hlen : (l.length + l2.length) * by' ≤ 140737488355328 ∧ l.length + l2.length ≤ maxLen) (hb1 : Nat.ble 1 by' = true)
    (n : ∀ s' w', St M w0 w' (Own F E s' (l ++ l2) :: Rs.eraseIdx i) → K (a.put o.dst s') w') : Op1 P ops o K a w := by
  have hb1 := Nat.le_of_ble_eq_true hb1
  obtain ⟨z, hT, hz⟩ := sE_spec hT
  obtain ⟨hu, inf, hinf, hsz, hby, hzz⟩ := sinfo_spec hT
  have hown := H.get i hi
  have hnl := len_flat F l2
  have h1c := flat_one F l2
  have hxl : ((l ++ l2).flatMap F.enc) = l.flatMap F.enc ++ l2.flatMap F.enc := List.flatMap_append
  have hm : l2.length * by' ≤ room := Nat.le_trans (Nat.mul_le_mul_right _ (Nat.le_add_left _ _)) hlen.1
  have hr2 : l.length + l2.length ≤ room := by
    have := Nat.mul_le_mul_left (l.length + l2.length) hb1
    simp only [room]
    omega
  have hpos := F.pos
  have hgrow : ∀ (base : Option Addr) (cap : Nat), cap < l.length + l2.length → (Builtin.firstCells F.sz l.length (.slice base l.length cap)).run P w.drew = .ok (l.flatMap F.enc).toArray w.drew →
      ∃ s' w', (Builtin.append_ #[T, U] o.type #[.slice base l.length cap, s2]).run P w = .ok s' w' ∧ (Own F E s' (l ++ l2)).holds w' ∧ w.grownBy w' none ∧ (∀ k, s'.ownBlock = some k → w.heap.size ≤ k) := by
    intro base cap hc hold
    have hr' := app_grow (P := P) hu hinf hzz hsz hby (hsrc z) hc hlen.1 hr2 hm o.type hold
    have hge := grownCap_ge w (l.length + l2.length) cap E
    have hcm' : grownCap w (l.length + l2.length) cap E ≤ maxLen := grownCap_le_maxLen w (l.length + l2.length) cap E hlen.2
    refine ⟨_, _, hr', ?_, ⟨rfl, rfl, rfl, by simp, fun k hk _ => heap_alloc_old w.drew _ k hk⟩, fun k hk => (by simp [Value.ownBlock] at hk; omega)⟩
    refine ⟨by rw [len_flat], .inr ⟨w.heap.size, _, _, by rw [List.length_append], Nat.zero_le _, heap_alloc_new w.drew _, by rw [List.length_append]; exact hge, hcm', ?_, ?_⟩⟩
    · simp only [Array.size_append, List.size_toArray, size_zeroCells, hz, len_flat, ← Nat.add_mul]
      congr 1
      omega
    · simp only [Array.toList_append, List.append_assoc]
      rw [hxl, ← List.append_assoc]
      have e : (l ++ l2).length * F.sz = (l.flatMap F.enc ++ l2.flatMap F.enc).length := by rw [← hxl, len_flat]
      rw [e]
      exact List.take_left
  have hrun : ∃ s' w', (Builtin.append_ #[T, U] o.type #[s, s2]).run P w = .ok s' w' ∧ (Own F E s' (l ++ l2)).holds w' ∧ w.grownBy w' s.ownBlock ∧
      (∀ k, s'.ownBlock = some k → s.ownBlock = some k ∨ w.heap.size ≤ k) := by
    rcases hown.2 with ⟨rfl, h0⟩ | ⟨g, cap', cur, rfl, hg0, hg, hn, hcm, hcs, htk⟩
    · have hl0 : l = [] := List.eq_nil_of_length_eq_zero h0
      subst hl0
      by_cases he : l2.length = 0
      · have hl2 : l2 = [] := List.eq_nil_of_length_eq_zero he
        subst hl2
        have := app_in (P := P) hu hinf hzz hsz hby (hsrc z) hm (base := none) (len := 0) (cap := 0) (by simp) o.type (w' := w) (by simp) (by simp)
        exact ⟨_, w, this, by simpa using hown, ⟨rfl, rfl, rfl, Nat.le_refl _, fun _ _ _ => rfl⟩, fun k hk => .inl hk⟩
      · obtain ⟨s', w', h1, h2, h3, h4⟩ := hgrow none 0 (by simp only [List.length_nil]; omega) (by simp [Builtin.firstCells])
        exact ⟨s', w', h1, h2, h3, fun k hk => .inr (h4 k hk)⟩
    · by_cases hroom : l.length + l2.length ≤ cap'
      · have hst := run_storeCells_at P g (l.length * F.sz) E (l2.flatMap F.enc) 0 cur w hg (by
            rw [hnl, hcs]
            have := Nat.mul_le_mul_right F.sz hroom
            rw [Nat.add_mul] at this
            simpa using this) h1c
        simp only [Nat.add_zero] at hst
        have hadd : (⟨g, 0, none⟩ : Addr).add (l.length * F.sz) = ⟨g, l.length * F.sz, none⟩ := by rw [add_off _ rfl]; simp
        have hap := app_in (P := P) hu hinf hzz hsz hby (hsrc z) hm (base := some ⟨g, 0, none⟩) hroom o.type (w' := w.setRow g (stl cur.toList (l.length * F.sz) (l2.flatMap F.enc)).toArray) (by
            intro a ha
            cases ha
            rw [hadd, hst]
            rfl) (by simp)
        have hle : l.length * F.sz + l2.length * F.sz ≤ cur.size := by
          rw [hcs, ← Nat.add_mul]
          exact Nat.mul_le_mul_right _ hroom
        refine ⟨_, _, hap, ?_, ⟨rfl, rfl, rfl, by simp [World.setRow], fun k hk hk' => setRow_other w g k _ (fun e => hk' (by subst e; rfl))⟩, fun k hk => .inl hk⟩
        refine ⟨by rw [len_flat], .inr ⟨g, cap', _, by rw [List.length_append], hg0, setRow_heap w g cur _ E (0, 0) hg, by rw [List.length_append]; exact hroom, hcm, ?_, ?_⟩⟩
        · rw [List.size_toArray, stl_len (by rw [hnl, Array.length_toList]; exact hle), Array.length_toList]
          exact hcs
        · rw [List.length_append, hxl]
          unfold stl
          have e1 : List.take (l.length * F.sz) cur.toList = l.flatMap F.enc := htk
          rw [e1]
          have e : (l.length + l2.length) * F.sz = (l.flatMap F.enc ++ l2.flatMap F.enc).length := by rw [List.length_append, len_flat, len_flat, Nat.add_mul]
          rw [e]
          exact List.take_left
      · have holds : ∀ j u, (l.flatMap F.enc)[j]? = some u → w.drew.cell? ((⟨g, 0, none⟩ : Addr).add j) = some u := hown.cells (g := g) rfl
        obtain ⟨s', w', h1, h2, h3, h4⟩ := hgrow (some ⟨g, 0, none⟩) cap' (by omega) (by
          have := run_loadCells_list (P := P) w.drew ⟨g, 0, none⟩ (l.flatMap F.enc) holds
          rw [len_flat] at this
          simpa [Builtin.firstCells] using this)
        exact ⟨s', w', h1, h2, ⟨h3.os, h3.tape, h3.output, h3.size, fun k hk _ => h3.block k hk (by simp)⟩, fun k hk => .inr (h4 k hk)⟩
  obtain ⟨s', w', h1, h2', h3, h4⟩ := hrun
  refine .inr ⟨hw, .inl ⟨s', w', ?_, n _ _ (H.grown i hi h2' h3 h4)⟩⟩
  simp only [execOp, ho, resolve, invoke, builtin, Sem.run_bind, Sem.run_pure, Result.andThen, List.map_toArray, List.map_cons, List.map_nil, hx, hy, h1]
/-- a string's bytes, appended -/
theorem src_str {E U : TypeId} (s : ByteArray) (hU : P.underlying U = some .string) (z : Value) : Src P E z w fU8.sz U (.string s) (lsb s).length ((lsb s).flatMap fU8.enc) := by
  refine ⟨.inl ⟨_, hU, fun k => by simp, fun w' => ?_, fun w' _ => ?_⟩⟩
  · simp [Builtin.lenOf, lsb]
  · have e0 : (lsb s).length = s.size := by simp [lsb]
    have e1 : (lsb s).length * fU8.sz = s.size := by rw [e0]; show s.size * 1 = _; rw [Nat.mul_one]
    have e2 : (lsb s).flatMap fU8.enc = s.data.toList.map fun b => Value.int .u8 b.toNat := by
      unfold lsb
      generalize s.data.toList = l
      induction l with
      | nil => rfl
      | cons x l ih => simp only [List.map_cons, List.flatMap_cons, ih]; rfl
    rw [e0, e2]
    have e3 : s.extract 0 s.size = s := by simp
    simp only [Builtin.firstCells, e3, Sem.run_pure]
    congr 1
    apply Array.ext'
    simp
end
section
variable {P : Program} {a : Act} {w : World} {ops : Array Oper} {o : Oper} {K : Act → World → Prop}
variable {M : Nat → Prop} {w0 : World} {Rs : List Res}
theorem flat_repl {α : Type} {F : Flat α} {x : α} {z : Value} (hF : F.enc x = [z]) (m : Nat) : (List.replicate m x).flatMap F.enc = List.replicate m z := by
  induction m with
  | zero => rfl
  | succ m ih => rw [List.replicate_succ, List.flatMap_cons, ih, hF, List.replicate_succ]; rfl
theorem zeroCells_one (v : Value) (n : Nat) : (Builtin.zeroCells #[v] n).toList = List.replicate n v := by
  apply List.ext_getElem?
  intro i
  by_cases h : i < n
  · simp [Builtin.zeroCells, h]
    rw [Nat.mod_one]
    rfl
  · simp [Builtin.zeroCells, h]
theorem flat_take {α : Type} {F : Flat α} (hF1 : F.sz = 1) : ∀ (l : List α) (lo : Nat), lo ≤ l.length → (l.take lo).flatMap F.enc = (l.flatMap F.enc).take lo := by
  intro l
  induction l with
  | nil => intro lo _; simp
  | cons y l ih =>
    intro lo hlo
    cases lo with
    | zero => simp
    | succ lo =>
      have hy : (F.enc y).length = 1 := by rw [F.len, hF1]
      rw [List.take_succ_cons, List.flatMap_cons, List.flatMap_cons, ih lo (by simpa using hlo), List.take_append, hy]
      rw [List.take_of_length_le (l := F.enc y) (by omega)]
      simp
/-- clear of the end of a slice of one's own -/
theorem Op1.clear {α : Type} {F : Flat α} {E : TypeId} {s : Value} {l : List α} (z0 : α) (H : St M w0 w Rs) (i : Nat) (hi : Rs[i]? = some (Own F E s l)) (hw : Region.wanted o (yielded ops a.tmps) = true) (T : TypeId) (x : Operand) (by' : Nat) (z : Value)
    (ho : o.op = .call ⟨.builtin .clear, #[x], #[T]⟩) (hT : sinfo P T = some (E, 1, by', z)) (hz : z.cells = #[z]) (hF : F.enc z0 = [z]) (lo : Nat) (hlo : lo ≤ l.length) (hx : a.eval x = slSub s F.sz lo l.length)
    (n : ∀ w', St M w0 w' (Own F E s (l.take lo ++ List.replicate (l.length - lo) z0) :: Rs.eraseIdx i) → K (a.put o.dst (.tuple #[])) w') : Op1 P ops o K a w := by
  obtain ⟨hu, inf, hinf, hsz, hby, hzz⟩ := sinfo_spec hT
  have hF1 : F.sz = 1 := by rw [← F.len z0, hF]; rfl
  have hown := H.get i hi
  have hpure : l.length - lo = 0 → l.take lo ++ List.replicate (l.length - lo) z0 = l := fun h0 => by
    rw [h0, List.take_of_length_le (by omega)]; simp
  have fin : ∀ w', (Builtin.clear_ #[T] o.type #[slSub s F.sz lo l.length]).run P w = .ok (.tuple #[]) w' → K (a.put o.dst (.tuple #[])) w' → Op1 P ops o K a w := fun w' h1 h2 => by
    refine .inr ⟨hw, .inl ⟨.tuple #[], w', ?_, h2⟩⟩
    simp only [execOp, ho, resolve, invoke, builtin, Sem.run_bind, Sem.run_pure, Result.andThen, List.map_toArray, List.map_cons, List.map_nil, hx, h1]
  rcases hown.2 with ⟨rfl, h0⟩ | ⟨g, cap, cur, rfl, hg0, hg, h1, h2, h3, h4⟩
  · refine fin w ?_ (n w ?_)
    · simp [Builtin.clear_, run_underlying hu, slSub]
    · rw [hpure (by omega)]
      exact H.upd i hi (fun _ h => h) hown rfl rfl rfl rfl (fun _ _ => rfl)
  · by_cases he : l.length - lo = 0
    · refine fin w ?_ (n w ?_)
      · by_cases hcl : cap = lo <;> simp [Builtin.clear_, run_underlying hu, slSub, he, hcl]
      · rw [hpure he]
        exact H.upd i hi (fun _ h => h) hown rfl rfl rfl rfl (fun _ _ => rfl)
    · have hcl : ¬ cap = lo := fun e => he (by omega)
      have hadd : (⟨g, 0, none⟩ : Addr).add (lo * 1) = ⟨g, lo, none⟩ := by rw [add_off _ rfl]; simp
      have hst := run_storeCells_at P g lo E (List.replicate (l.length - lo) z) 0 cur w hg (by
          rw [List.length_replicate, h3, hF1]; omega) (by
          intro u hu'
          have := List.eq_of_mem_replicate hu'
          subst this
          have := F.one z0 u (by rw [hF]; simp)
          exact this)
      simp only [Nat.add_zero] at hst
      have hsub : slSub (.slice (some ⟨g, 0, none⟩) l.length cap) F.sz lo l.length = .slice (some ⟨g, lo, none⟩) (l.length - lo) (cap - lo) := by
        simp only [slSub, if_neg hcl, Option.map_some, hF1, hadd]
      refine fin (w.setRow g (stl cur.toList lo (List.replicate (l.length - lo) z)).toArray) ?_ (n _ (H.upd i hi (fun _ h => h) ?_ rfl rfl rfl (by simp [World.setRow]) (fun k hk => setRow_other w g k _ (fun e => hk (by subst e; rfl)))))
      · rw [hsub]
        obtain ⟨m, hm⟩ : ∃ m, l.length - lo = m + 1 := ⟨l.length - lo - 1, by omega⟩
        rw [hm] at hst ⊢
        have e1 : (Builtin.zeroCells z.cells (m + 1)).toList = List.replicate (m + 1) z := by rw [hz, zeroCells_one]
        simp [Builtin.clear_, run_underlying hu, run_zeroValue' hinf hzz, e1, hst, stl]
      · have hl : (l.take lo ++ List.replicate (l.length - lo) z0).length = l.length := by simp; omega
        have hcs : cur.toList.length = cap := by rw [Array.length_toList, h3, hF1, Nat.mul_one]
        refine ⟨by rw [len_flat], .inr ⟨g, cap, _, by rw [hl], hg0, setRow_heap w g cur _ E (0, 0) hg, by rw [hl]; exact h1, h2, ?_, ?_⟩⟩
        · rw [List.size_toArray, stl_len (by rw [List.length_replicate, hcs]; omega), Array.length_toList]
          exact h3
        · rw [hl, List.flatMap_append, flat_repl hF]
          have e2 : (l.take lo).flatMap F.enc = (l.flatMap F.enc).take lo := flat_take hF1 l lo hlo
          rw [e2, ← h4, hF1, Nat.mul_one]
          unfold stl
          rw [List.length_replicate, List.take_take, Nat.min_eq_left hlo]
          have e3 : l.length = (List.take lo cur.toList ++ List.replicate (l.length - lo) z).length := by
            rw [List.length_append, List.length_replicate, List.length_take, hcs]
            omega
          exact List.take_left' e3.symm
/-- make of numbers -/
theorem Op1.make {F : Flat Int} {E : TypeId} (H : St M w0 w Rs) (hw : Region.wanted o (yielded ops a.tmps) = true) (T : TypeId) (x y : Operand) (by' : Nat) (k : IntKind) (m : Int)
    (ho : o.op = .makeSlice T x y) (z : Value) (hT : sinfo P T = some (E, 1, by', z)) (hz : z.cells = #[z]) (hF : F.enc 0 = [z]) (hx : a.eval x = .int k m) (hy : a.eval y = .int k m)
    (hg : 0 ≤ m ∧ m * by' ≤ 140737488355328) (hb1 : Nat.ble 1 by' = true)
    (n : ∀ s w', St M w0 w' (Own F E s (List.replicate m.toNat 0) :: Rs) → K (a.put o.dst s) w') : Op1 P ops o K a w := by
  have hb1 := Nat.le_of_ble_eq_true hb1
  obtain ⟨hu, inf, hinf, hsz, hby, hzz⟩ := sinfo_spec hT
  obtain ⟨m, rfl⟩ : ∃ m' : Nat, m = (m' : Int) := ⟨m.toNat, by omega⟩
  have hF1 : F.sz = 1 := by rw [← F.len 0, hF]; rfl
  have hmb : m * by' ≤ 140737488355328 := by have := hg.2; rw [← Int.natCast_mul] at this; omega
  have hml : m ≤ maxLen := by
    have := Nat.mul_le_mul_left m hb1
    unfold maxLen
    omega
  obtain ⟨w', h1, h2, h3⟩ := run_make_full (P := P) w 0 T E inf z 1 hu hinf hzz hsz k k m (by rw [hby, Nat.mul_comm]; omega) hml (Nat.zero_le _)
  refine .inr ⟨hw, .inl ⟨.slice (some ⟨w.heap.size, 0, none⟩) m m, w', ?_, n _ _ (H.newOwn ?_ h3 (fun k hk => by simp [Value.ownBlock] at hk; omega))⟩⟩
  · simp only [execOp, ho, hx, hy, Sem.run_bind, h1, Result.andThen, Sem.run_pure]
  · have e : (List.replicate m (0 : Int)).flatMap F.enc = (madeCells z.cells (m * 1)).toList := by
      rw [hz, toList_madeCells_one, Nat.mul_one]
      exact flat_repl hF m
    show w'.ownsRow 0 E F.sz _ (List.replicate ((m : Int).toNat) (0 : Int)).length ((List.replicate ((m : Int).toNat) (0 : Int)).flatMap F.enc)
    rw [Int.toNat_natCast, List.length_replicate, hF1, e]
    exact h2
end
section
variable {P : Program} {a : Act} {w : World} {o : Oper}
/-- an element of an array that is a value, of one cell each -/
theorem ev_aidx (T E : TypeId) (m : Nat) (k : IntKind) (i : Int) (cs : List Value) (v : Value) (X Y : Operand) (ho : o.op = .index T X Y) (hT : ainfo P T = some (m, E, 1)) (hE : tsz P E = some (false, 1))
    (hx : a.eval X = .agg cs.toArray) (hy : a.eval Y = .int k i) (hg : 0 ≤ i ∧ i < m) (hv : cs[i.toNat]? = some v) :
    (execOp a.eval o).run P w = .ok (.value v) w := by
  obtain ⟨h0, hi⟩ := hg
  obtain ⟨hu, inf, hinf, hsz⟩ := ainfo_spec hT
  have hszr : (Go.sizeOf E).run P w = .ok 1 w := by rw [← hsz]; exact run_sizeOf' hinf
  have hag : (isAgg E).run P w = .ok false w := by
    unfold tsz at hE
    cases hu' : P.underlying E with
    | none => simp [hu'] at hE
    | some d =>
      simp only [hu', hinf, Option.some.injEq, Prod.mk.injEq] at hE
      simp only [isAgg, Sem.run_bind, run_underlying hu', Result.andThen]
      have := hE.1
      cases d <;> first | rfl | simp [isAggD] at this
  simp [execOp, ho, hx, hy, Instr.index, asIntOf, run_underlying hu, h0, hi, hszr, part, hag, hv]
/-- an array in a variable, as a slice -/
theorem ev_sliceArr (T : TypeId) (X : Operand) (E n sz b off : Nat) (ho : o.op = .slice T X none none none) (hT : ainfo P T = some (n, E, sz)) (hx : a.eval X = va ((⟨b, 0, none⟩ : Addr).add off)) :
    (execOp a.eval o).run P w = .ok (.value (.slice (some ⟨b, off, none⟩) n n)) w := by
  obtain ⟨hu, inf, hinf, hsz⟩ := ainfo_spec hT
  have e : (⟨b, 0, none⟩ : Addr).add off = ⟨b, off, none⟩ := by rw [add_off _ rfl]; simp
  rw [e] at hx
  have hszr : (Go.sizeOf E).run P w = .ok sz w := by rw [← hsz]; exact run_sizeOf' hinf
  have e0 : (⟨b, off, none⟩ : Addr).add 0 = ⟨b, off, none⟩ := by rw [add_off _ rfl]; simp
  simp [execOp, ho, hx, Instr.sliceAt, Instr.sureAddr, Instr.sliceBounds, run_underlying hu, hszr, e0]
theorem Rd.arr {α : Type} {F : Flat α} {h : Hp} {b : Nat} {cs : List Value} (hc : CellsAt h ⟨b, 0, none⟩ cs) (off : Nat) (es : List α) (post : List Value) (hcs : cs.drop off = es.flatMap F.enc ++ post) (hm : es.length ≤ maxLen := by simp [maxLen]) :
    Rd F h (.slice (some ⟨b, off, none⟩) es.length es.length) es := by
  refine ⟨⟨_, _, rfl, Nat.le_refl _, hm, by simp, fun ad e _ => by cases e; rfl⟩, fun i x hx => ?_⟩
  have := CellsAt.elem F hc off es post hcs i x hx
  have e : (⟨b, 0, none⟩ : Addr).add off = ⟨b, off, none⟩ := by rw [add_off _ rfl]; simp
  rw [e] at this
  exact this
theorem map_get {α : Type} {l : List α} {i : Nat} {x : α} (f : α → Value) (h : l[i]? = some x) : (l.map f)[i]? = some (f x) := by simp [h]
/-- math/bits.Add64 -/
def add64 (x y c : Int) : Int × Int := ((x + y + c) % 18446744073709551616, (x + y + c) / 18446744073709551616)
theorem ev_add64 (f : FuncId) (fn : Func) (hf : P.funcs[f]? = some fn) (hname : (fn.name == "runtime.NumGoroutine") = false) (hb : fn.body.isNone = true) (hn : Extern.findNext fn = none) (he : Extern.find fn = some add64Entry)
    (x y c : Int) (X Y C : Operand) (ats : Array TypeId) (ho : o.op = .call ⟨.value (.func f), #[X, Y, C], ats⟩) (hx : a.eval X = vu x) (hy : a.eval Y = vu y) (hc : a.eval C = vu c)
    (hg : 0 ≤ x ∧ 0 ≤ y ∧ 0 ≤ c ∧ c ≤ 1) :
    (execOp a.eval o).run P w = .ok (.value (.tuple #[vu (add64 x y c).1, vu (add64 x y c).2])) w := by
  have h1 := run_callFunc_extern (P := P) hf hname hb hn he #[vu x, vu y, vu c] w
  rw [run_add64 x y c hg.1 hg.2.1 hg.2.2.1 hg.2.2.2] at h1
  have e : a.eval (.func f) = .func (.func f) #[] #[] := rfl
  simp only [execOp, ho, resolve, e, Sem.run_bind, Deferred.ofValue, Sem.run_pure, Result.andThen_ok, invoke, List.map_toArray, List.map_cons, List.map_nil, hx, hy, hc]
  simpa [add64, Result.andThen] using h1
end
end Gw
