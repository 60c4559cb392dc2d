import Derived.Test.YtjcagpcpbfmldaaGw
import Derived.Test.YtjcagpcpbfmldaaProg
set_option linter.unusedVariables false
set_option linter.unusedSimpArgs false
set_option maxRecDepth 100000
set_option maxHeartbeats 4000000
namespace Go.Proofs
open Gw Go.RowKit
structure TU256 where
  e0 : Int
  e1 : Int
  e2 : Int
  e3 : Int
deriving DecidableEq
def TU256.cs (x : TU256) : List Value := [vu x.e0, vu x.e1, vu x.e2, vu x.e3]
def TU256.val (x : TU256) : Value := .agg #[vu x.e0, vu x.e1, vu x.e2, vu x.e3]
def fTU256 : Flat TU256 := { sz := 4, enc := TU256.cs, val := TU256.val, len := fun _ => rfl, one := fun x u hu => (by simp only [TU256.cs, List.mem_cons, List.not_mem_nil, or_false] at hu; rcases hu with rfl | rfl | rfl | rfl <;> rfl), cells := fun _ => rfl, pos := by decide }
structure TRank where
  Dist : Int
  Tip : TU256
deriving DecidableEq
def TRank.cs (x : TRank) : List Value := [vi x.Dist, vu x.Tip.e0, vu x.Tip.e1, vu x.Tip.e2, vu x.Tip.e3]
def TRank.val (x : TRank) : Value := .agg #[vi x.Dist, vu x.Tip.e0, vu x.Tip.e1, vu x.Tip.e2, vu x.Tip.e3]
def fTRank : Flat TRank := { sz := 5, enc := TRank.cs, val := TRank.val, len := fun _ => rfl, one := fun x u hu => (by simp only [TRank.cs, List.mem_cons, List.not_mem_nil, or_false] at hu; rcases hu with rfl | rfl | rfl | rfl | rfl <;> rfl), cells := fun _ => rfl, pos := by decide }
structure TNode where
  Acct : Int
  Rank : TRank
deriving DecidableEq
def TNode.cs (x : TNode) : List Value := [vi x.Acct, vi x.Rank.Dist, vu x.Rank.Tip.e0, vu x.Rank.Tip.e1, vu x.Rank.Tip.e2, vu x.Rank.Tip.e3]
def TNode.val (x : TNode) : Value := .agg #[vi x.Acct, vi x.Rank.Dist, vu x.Rank.Tip.e0, vu x.Rank.Tip.e1, vu x.Rank.Tip.e2, vu x.Rank.Tip.e3]
def fTNode : Flat TNode := { sz := 6, enc := TNode.cs, val := TNode.val, len := fun _ => rfl, one := fun x u hu => (by simp only [TNode.cs, List.mem_cons, List.not_mem_nil, or_false] at hu; rcases hu with rfl | rfl | rfl | rfl | rfl | rfl <;> rfl), cells := fun _ => rfl, pos := by decide }
structure Ttarnlaw13_Act where
  Do : Int
  N : TNode
deriving DecidableEq
def Ttarnlaw13_Act.cs (x : Ttarnlaw13_Act) : List Value := [vi x.Do, vi x.N.Acct, vi x.N.Rank.Dist, vu x.N.Rank.Tip.e0, vu x.N.Rank.Tip.e1, vu x.N.Rank.Tip.e2, vu x.N.Rank.Tip.e3]
def Ttarnlaw13_Act.val (x : Ttarnlaw13_Act) : Value := .agg #[vi x.Do, vi x.N.Acct, vi x.N.Rank.Dist, vu x.N.Rank.Tip.e0, vu x.N.Rank.Tip.e1, vu x.N.Rank.Tip.e2, vu x.N.Rank.Tip.e3]
def fTtarnlaw13_Act : Flat Ttarnlaw13_Act := { sz := 7, enc := Ttarnlaw13_Act.cs, val := Ttarnlaw13_Act.val, len := fun _ => rfl, one := fun x u hu => (by simp only [Ttarnlaw13_Act.cs, List.mem_cons, List.not_mem_nil, or_false] at hu; rcases hu with rfl | rfl | rfl | rfl | rfl | rfl | rfl <;> rfl), cells := fun _ => rfl, pos := by decide }
theorem eqin_3 (d : Nat) (x y : Int) (w : World) : (Op.equalIn (d + 1) 3 (vi x) (vi y)).run Try.prog w = .ok (decide (x = y)) w := by
  rw [run_equalIn_int (P := Try.prog) w d 3 .i64 .i64 x y (by kernel_rfl)]
  all_goals congr 1
theorem eqin_27 (d : Nat) (x y : Int) (w : World) : (Op.equalIn (d + 1) 27 (vu x) (vu y)).run Try.prog w = .ok (decide (x = y)) w := by
  rw [run_equalIn_int (P := Try.prog) w d 27 .u64 .u64 x y (by kernel_rfl)]
  all_goals congr 1
theorem eqin_29 (d : Nat) (x y : TU256) (w : World) : (Op.equalIn (d + 2) 29 (TU256.val x) (TU256.val y)).run Try.prog w = .ok (decide (x = y)) w := by
  rw [show TU256.val x = .agg (TU256.cs x).toArray from rfl, show TU256.val y = .agg (TU256.cs y).toArray from rfl, run_equalIn_array (P := Try.prog) (d + 1) 29 27 4 1 _ _ (by kernel_rfl)]
  refine (eqArr_cons (by kernel_rfl) (by kernel_rfl) (eqin_27 (d + 0) x.e0 y.e0 w) (eqArr_cons (by kernel_rfl) (by kernel_rfl) (eqin_27 (d + 0) x.e1 y.e1 w) (eqArr_cons (by kernel_rfl) (by kernel_rfl) (eqin_27 (d + 0) x.e2 y.e2 w) (eqArr_cons (by kernel_rfl) (by kernel_rfl) (eqin_27 (d + 0) x.e3 y.e3 w) (rfl))))).trans ?_
  congr 1; cases x; cases y; simp [Bool.decide_and]
theorem eqok_29 : EqOk Try.prog 29 fTU256 := fun d x y w => eqin_29 (d + 5) x y w
theorem eqin_31 (d : Nat) (x y : TRank) (w : World) : (Op.equalIn (d + 3) 31 (TRank.val x) (TRank.val y)).run Try.prog w = .ok (decide (x = y)) w := by
  rw [show TRank.val x = .agg (TRank.cs x).toArray from rfl, show TRank.val y = .agg (TRank.cs y).toArray from rfl, run_equalIn_struct (P := Try.prog) w (d + 2) 31 _ _ (by kernel_rfl) (by kernel_rfl)]
  rw [show (Try.prog.fieldsOf 31).toList = (Try.prog.fieldsOf 31).toList from by kernel_rfl]
  refine (eqFields_cons (by kernel_rfl) (by kernel_rfl) (by kernel_rfl) (eqin_3 (d + 1) x.Dist y.Dist w) (eqFields_cons (by kernel_rfl) (by kernel_rfl) (by kernel_rfl) (eqin_29 (d + 0) x.Tip y.Tip w) (eqFields_nil _ _ _))).trans ?_
  congr 1; cases x; cases y; simp [Bool.decide_and]
theorem eqok_31 : EqOk Try.prog 31 fTRank := fun d x y w => eqin_31 (d + 4) x y w
theorem eqin_33 (d : Nat) (x y : TNode) (w : World) : (Op.equalIn (d + 4) 33 (TNode.val x) (TNode.val y)).run Try.prog w = .ok (decide (x = y)) w := by
  rw [show TNode.val x = .agg (TNode.cs x).toArray from rfl, show TNode.val y = .agg (TNode.cs y).toArray from rfl, run_equalIn_struct (P := Try.prog) w (d + 3) 33 _ _ (by kernel_rfl) (by kernel_rfl)]
  rw [show (Try.prog.fieldsOf 33).toList = (Try.prog.fieldsOf 33).toList from by kernel_rfl]
  refine (eqFields_cons (by kernel_rfl) (by kernel_rfl) (by kernel_rfl) (eqin_3 (d + 2) x.Acct y.Acct w) (eqFields_cons (by kernel_rfl) (by kernel_rfl) (by kernel_rfl) (eqin_31 (d + 0) x.Rank y.Rank w) (eqFields_nil _ _ _))).trans ?_
  congr 1; cases x; cases y; simp [Bool.decide_and]
theorem eqok_33 : EqOk Try.prog 33 fTNode := fun d x y w => eqin_33 (d + 3) x y w
end Go.Proofs
