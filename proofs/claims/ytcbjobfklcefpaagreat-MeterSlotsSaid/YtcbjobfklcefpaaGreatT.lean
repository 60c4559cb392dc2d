import Derived.Test.YtcbjobfklcefpaaGreatGwit
import Derived.Test.YtcbjobfklcefpaaGreatProg
set_option linter.unusedVariables false
set_option linter.unusedSimpArgs false
set_option maxRecDepth 100000
set_option maxHeartbeats 0
namespace Go.Proofs
open Gw Go.RowKit
structure TU256 where
  e0 : Int
  e1 : Int
  e2 : Int
  e3 : Int
deriving DecidableEq
def TU256.cs (x : TU256) : List Value := [vu x.e0, vu x.e1, vu x.e2, vu x.e3]
def TU256.val (x : TU256) : Value := .agg #[vu x.e0, vu x.e1, vu x.e2, vu x.e3]
def fTU256 : Flat TU256 := { sz := 4, enc := TU256.cs, val := TU256.val, len := fun _ => rfl, one := fun x u hu => (by simp only [TU256.cs, List.mem_cons, List.not_mem_nil, or_false] at hu; rcases hu with rfl | rfl | rfl | rfl <;> rfl), cells := fun _ => rfl, pos := by decide }
structure THead where
  Number : Int
  Base : TU256
  Excess : Int
deriving DecidableEq
def THead.cs (x : THead) : List Value := [vi x.Number, vu x.Base.e0, vu x.Base.e1, vu x.Base.e2, vu x.Base.e3, vi x.Excess]
def THead.val (x : THead) : Value := .agg #[vi x.Number, vu x.Base.e0, vu x.Base.e1, vu x.Base.e2, vu x.Base.e3, vi x.Excess]
structure TAcct where
  Nonce : Int
  Balance : TU256
deriving DecidableEq
def TAcct.cs (x : TAcct) : List Value := [vi x.Nonce, vu x.Balance.e0, vu x.Balance.e1, vu x.Balance.e2, vu x.Balance.e3]
def TAcct.val (x : TAcct) : Value := .agg #[vi x.Nonce, vu x.Balance.e0, vu x.Balance.e1, vu x.Balance.e2, vu x.Balance.e3]
def fTAcct : Flat TAcct := { sz := 5, enc := TAcct.cs, val := TAcct.val, len := fun _ => rfl, one := fun x u hu => (by simp only [TAcct.cs, List.mem_cons, List.not_mem_nil, or_false] at hu; rcases hu with rfl | rfl | rfl | rfl | rfl <;> rfl), cells := fun _ => rfl, pos := by decide }
structure TTx where
  From : Int
  Nonce : Int
  Tip : TU256
  Cap : TU256
  BlobCap : TU256
  Value_ : TU256
  Gas : Int
  Hashes : List Int
  Blobs : List ByteArray
deriving DecidableEq
def rTTx (h : Hp) (x : TTx) (c : List Value) : Prop := ∃ s1 s2 : Value, c = [vi x.From, vi x.Nonce, vu x.Tip.e0, vu x.Tip.e1, vu x.Tip.e2, vu x.Tip.e3, vu x.Cap.e0, vu x.Cap.e1, vu x.Cap.e2, vu x.Cap.e3, vu x.BlobCap.e0, vu x.BlobCap.e1, vu x.BlobCap.e2, vu x.BlobCap.e3, vu x.Value_.e0, vu x.Value_.e1, vu x.Value_.e2, vu x.Value_.e3, vi x.Gas, s1, s2] ∧ Rd fU64 h s1 x.Hashes ∧ Rd fStr h s2 x.Blobs
def dTTx : Deep TTx where
  sz := 21
  rel := rTTx
  len := fun h x c r => by obtain ⟨s1, s2, rfl, f1, f2⟩ := r; rfl
  one := fun h x c r => by obtain ⟨s1, s2, rfl, f1, f2⟩ := r; exact (oc1 rfl (oc1 rfl (oc1 rfl (oc1 rfl (oc1 rfl (oc1 rfl (oc1 rfl (oc1 rfl (oc1 rfl (oc1 rfl (oc1 rfl (oc1 rfl (oc1 rfl (oc1 rfl (oc1 rfl (oc1 rfl (oc1 rfl (oc1 rfl (oc1 rfl (oc1 f1.sl.one (oc1 f2.sl.one oc0)))))))))))))))))))))
  mono := fun h h' x c hs r => by obtain ⟨s1, s2, rfl, f1, f2⟩ := r; exact ⟨s1, s2, rfl, f1.mono hs, f2.mono hs⟩
  pos := by decide
  ag := true
  one' := by simp
structure THeld where
  Tx : TTx
  Block : Int
deriving DecidableEq
def rTHeld (h : Hp) (x : THeld) (c : List Value) : Prop := ∃ s1 s2 : Value, c = [vi x.Tx.From, vi x.Tx.Nonce, vu x.Tx.Tip.e0, vu x.Tx.Tip.e1, vu x.Tx.Tip.e2, vu x.Tx.Tip.e3, vu x.Tx.Cap.e0, vu x.Tx.Cap.e1, vu x.Tx.Cap.e2, vu x.Tx.Cap.e3, vu x.Tx.BlobCap.e0, vu x.Tx.BlobCap.e1, vu x.Tx.BlobCap.e2, vu x.Tx.BlobCap.e3, vu x.Tx.Value_.e0, vu x.Tx.Value_.e1, vu x.Tx.Value_.e2, vu x.Tx.Value_.e3, vi x.Tx.Gas, s1, s2, vi x.Block] ∧ Rd fU64 h s1 x.Tx.Hashes ∧ Rd fStr h s2 x.Tx.Blobs
def dTHeld : Deep THeld where
  sz := 22
  rel := rTHeld
  len := fun h x c r => by obtain ⟨s1, s2, rfl, f1, f2⟩ := r; rfl
  one := fun h x c r => by obtain ⟨s1, s2, rfl, f1, f2⟩ := r; exact (oc1 rfl (oc1 rfl (oc1 rfl (oc1 rfl (oc1 rfl (oc1 rfl (oc1 rfl (oc1 rfl (oc1 rfl (oc1 rfl (oc1 rfl (oc1 rfl (oc1 rfl (oc1 rfl (oc1 rfl (oc1 rfl (oc1 rfl (oc1 rfl (oc1 rfl (oc1 f1.sl.one (oc1 f2.sl.one (oc1 rfl oc0))))))))))))))))))))))
  mono := fun h h' x c hs r => by obtain ⟨s1, s2, rfl, f1, f2⟩ := r; exact ⟨s1, s2, rfl, f1.mono hs, f2.mono hs⟩
  pos := by decide
  ag := true
  one' := by simp
structure TBook where
  Room : Int
  Head : THead
  Accts : List TAcct
  Txs : List TTx
  Limbo : List THeld
deriving DecidableEq
def rTBook (h : Hp) (x : TBook) (c : List Value) : Prop := ∃ s1 s2 s3 : Value, c = [vi x.Room, vi x.Head.Number, vu x.Head.Base.e0, vu x.Head.Base.e1, vu x.Head.Base.e2, vu x.Head.Base.e3, vi x.Head.Excess, s1, s2, s3] ∧ Rd fTAcct h s1 x.Accts ∧ RdD dTTx h s2 x.Txs ∧ RdD dTHeld h s3 x.Limbo
def dTBook : Deep TBook where
  sz := 10
  rel := rTBook
  len := fun h x c r => by obtain ⟨s1, s2, s3, rfl, f1, f2, f3⟩ := r; rfl
  one := fun h x c r => by obtain ⟨s1, s2, s3, rfl, f1, f2, f3⟩ := r; exact (oc1 rfl (oc1 rfl (oc1 rfl (oc1 rfl (oc1 rfl (oc1 rfl (oc1 rfl (oc1 f1.sl.one (oc1 f2.sl.one (oc1 f3.sl.one oc0))))))))))
  mono := fun h h' x c hs r => by obtain ⟨s1, s2, s3, rfl, f1, f2, f3⟩ := r; exact ⟨s1, s2, s3, rfl, f1.mono hs, f2.mono hs, f3.mono hs⟩
  pos := by decide
  ag := true
  one' := by simp
structure Ttarnlaw16_Ask where
  B : TBook
  L : List TTx
  N : List Int
deriving DecidableEq
def rTtarnlaw16_Ask (h : Hp) (x : Ttarnlaw16_Ask) (c : List Value) : Prop := ∃ s1 s2 s3 s4 s5 : Value, c = [vi x.B.Room, vi x.B.Head.Number, vu x.B.Head.Base.e0, vu x.B.Head.Base.e1, vu x.B.Head.Base.e2, vu x.B.Head.Base.e3, vi x.B.Head.Excess, s1, s2, s3, s4, s5] ∧ Rd fTAcct h s1 x.B.Accts ∧ RdD dTTx h s2 x.B.Txs ∧ RdD dTHeld h s3 x.B.Limbo ∧ RdD dTTx h s4 x.L ∧ Rd fI64 h s5 x.N
def dTtarnlaw16_Ask : Deep Ttarnlaw16_Ask where
  sz := 12
  rel := rTtarnlaw16_Ask
  len := fun h x c r => by obtain ⟨s1, s2, s3, s4, s5, rfl, f1, f2, f3, f4, f5⟩ := r; rfl
  one := fun h x c r => by obtain ⟨s1, s2, s3, s4, s5, rfl, f1, f2, f3, f4, f5⟩ := r; exact (oc1 rfl (oc1 rfl (oc1 rfl (oc1 rfl (oc1 rfl (oc1 rfl (oc1 rfl (oc1 f1.sl.one (oc1 f2.sl.one (oc1 f3.sl.one (oc1 f4.sl.one (oc1 f5.sl.one oc0))))))))))))
  mono := fun h h' x c hs r => by obtain ⟨s1, s2, s3, s4, s5, rfl, f1, f2, f3, f4, f5⟩ := r; exact ⟨s1, s2, s3, s4, s5, rfl, f1.mono hs, f2.mono hs, f3.mono hs, f4.mono hs, f5.mono hs⟩
  pos := by decide
  ag := true
  one' := by simp
structure TItem where
  List_ : Bool
  Text : ByteArray
  Items : List (TItem)
inductive rTItem (h : Hp) : TItem → List Value → Prop
  | mk (v_List_ : Bool) (v_Text : ByteArray) (v_Items : List (TItem)) (s1 : Value) (cs : Nat → List Value) : IsSl s1 v_Items.length → (∀ i x, v_Items[i]? = some x → rTItem h x (cs i)) → (∀ i x, v_Items[i]? = some x → CellsAt h (slAt s1 3 i) (cs i)) → rTItem h ⟨v_List_, v_Text, v_Items⟩ [vb v_List_, .string v_Text, s1]
theorem rTItem.mono {h h' : Hp} (hs : h.sub h') (x : TItem) (c : List Value) (r : rTItem h x c) : rTItem h' x c := by
  induction r with
  | mk v_List_ v_Text v_Items s1 cs h1 h2 h3 ih => exact .mk v_List_ v_Text v_Items s1 cs h1 ih fun i x hx => (h3 i x hx).mono' hs
def dTItem : Deep TItem where
  sz := 3
  rel := rTItem
  len := fun h x c r => by cases r; rfl
  one := fun h x c r => by cases r with | mk v_List_ v_Text v_Items s1 cs f1 _ _ => exact (oc1 rfl (oc1 rfl (oc1 f1.one oc0)))
  mono := fun h h' x c hs r => rTItem.mono hs x c r
  pos := by decide
  ag := true
  one' := by simp
theorem rTItem.opn {h : Hp} {x : TItem} {c : List Value} (r : dTItem.rel h x c) : ∃ s1 : Value, c = [vb x.List_, .string x.Text, s1] ∧ RdD dTItem h s1 x.Items := by
  cases r with | mk v_List_ v_Text v_Items s1 cs h1 h2 h3 => exact ⟨s1, rfl, h1, fun i x hx => ⟨cs i, h2 i x hx, h3 i x hx⟩⟩
theorem rTItem.of {h : Hp} {x : TItem} {s1 : Value} (r : RdD dTItem h s1 x.Items) : dTItem.rel h x [vb x.List_, .string x.Text, s1] := by
  classical
  obtain ⟨v_List_, v_Text, v_Items⟩ := x
  obtain ⟨a, b⟩ := r
  refine .mk v_List_ v_Text v_Items s1 (fun i => if hi : i < v_Items.length then (b i _ (List.getElem?_eq_getElem hi)).choose else []) a ?_ ?_
  · intro i y hy
    have hi := (List.getElem?_eq_some_iff.1 hy).1
    have e : v_Items[i] = y := (List.getElem?_eq_some_iff.1 hy).2
    subst e
    simp only [dif_pos hi]
    exact (b i _ (List.getElem?_eq_getElem hi)).choose_spec.1
  · intro i y hy
    have hi := (List.getElem?_eq_some_iff.1 hy).1
    simp only [dif_pos hi]
    exact (b i _ (List.getElem?_eq_getElem hi)).choose_spec.2
def kstr0 : ByteArray := (ByteArray.mk #[0, 1, 2, 2, 3, 3, 3, 3, 4, 4, 4, 4, 4, 4, 4, 4, 5, 5, 5, 5, 5, 5, 5, 5, 5, 5, 5, 5, 5, 5, 5, 5, 6, 6, 6, 6, 6, 6, 6, 6, 6, 6, 6, 6, 6, 6, 6, 6, 6, 6, 6, 6, 6, 6, 6, 6, 6, 6, 6, 6, 6, 6, 6, 6, 7, 7, 7, 7, 7, 7, 7, 7, 7, 7, 7, 7, 7, 7, 7, 7, 7, 7, 7, 7, 7, 7, 7, 7, 7, 7, 7, 7, 7, 7, 7, 7, 7, 7, 7, 7, 7, 7, 7, 7, 7, 7, 7, 7, 7, 7, 7, 7, 7, 7, 7, 7, 7, 7, 7, 7, 7, 7, 7, 7, 7, 7, 7, 7, 8, 8, 8, 8, 8, 8, 8, 8, 8, 8, 8, 8, 8, 8, 8, 8, 8, 8, 8, 8, 8, 8, 8, 8, 8, 8, 8, 8, 8, 8, 8, 8, 8, 8, 8, 8, 8, 8, 8, 8, 8, 8, 8, 8, 8, 8, 8, 8, 8, 8, 8, 8, 8, 8, 8, 8, 8, 8, 8, 8, 8, 8, 8, 8, 8, 8, 8, 8, 8, 8, 8, 8, 8, 8, 8, 8, 8, 8, 8, 8, 8, 8, 8, 8, 8, 8, 8, 8, 8, 8, 8, 8, 8, 8, 8, 8, 8, 8, 8, 8, 8, 8, 8, 8, 8, 8, 8, 8, 8, 8, 8, 8, 8, 8, 8, 8, 8, 8, 8, 8, 8, 8, 8, 8, 8, 8, 8, 8])
def AR_79 : (Nat → Prop) → World → Array Value → TItem → Prop := fun M w vs x => ∃ s1 : Value, vs = #[.agg #[vb x.List_, .string x.Text, s1]] ∧ RdD dTItem (hp M w) s1 x.Items
def AR_3_28 : (Nat → Prop) → World → Array Value → (Int × (List TTx)) → Prop := fun M w vs x => ∃ s1 : Value, vs = #[vi x.1, s1] ∧ RdD dTTx (hp M w) s1 x.2
def gTx (x : TTx) (s t : Value) : Value := .agg #[vi x.From, vi x.Nonce, vu x.Tip.e0, vu x.Tip.e1, vu x.Tip.e2, vu x.Tip.e3, vu x.Cap.e0, vu x.Cap.e1, vu x.Cap.e2, vu x.Cap.e3, vu x.BlobCap.e0, vu x.BlobCap.e1, vu x.BlobCap.e2, vu x.BlobCap.e3, vu x.Value_.e0, vu x.Value_.e1, vu x.Value_.e2, vu x.Value_.e3, vi x.Gas, s, t]
def gHd (x : THeld) (s t : Value) : Value := .agg #[vi x.Tx.From, vi x.Tx.Nonce, vu x.Tx.Tip.e0, vu x.Tx.Tip.e1, vu x.Tx.Tip.e2, vu x.Tx.Tip.e3, vu x.Tx.Cap.e0, vu x.Tx.Cap.e1, vu x.Tx.Cap.e2, vu x.Tx.Cap.e3, vu x.Tx.BlobCap.e0, vu x.Tx.BlobCap.e1, vu x.Tx.BlobCap.e2, vu x.Tx.BlobCap.e3, vu x.Tx.Value_.e0, vu x.Tx.Value_.e1, vu x.Tx.Value_.e2, vu x.Tx.Value_.e3, vi x.Tx.Gas, s, t, vi x.Block]
end Go.Proofs
