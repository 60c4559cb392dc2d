import Derived.Test.YtjcagpcpbfmldaaGw
import Derived.Test.YtjcagpcpbfmldaaProg
import Derived.Test.YtjcagpcpbfmldaaT
import Derived.Test.YtjcagpcpbfmldaaW1
import Derived.Test.YtjcagpcpbfmldaaW2
import Derived.Test.YtjcagpcpbfmldaaW3
import Derived.Test.YtjcagpcpbfmldaaW4
import Derived.Test.YtjcagpcpbfmldaaW5
import Derived.Test.YtjcagpcpbfmldaaW6
import Derived.Test.YtjcagpcpbfmldaaW7
import Derived.Test.YtjcagpcpbfmldaaW8
set_option linter.unusedVariables false
set_option linter.unusedSimpArgs false
set_option maxRecDepth 100000
set_option maxHeartbeats 4000000
namespace Go.Proofs
open Gw Go.RowKit
/- tarn/heap.Least -/
def g_heap_Least (fuel : Nat) (l2 : List TNode) : Option (TNode × Int) :=
  bd (g_heap_Check fuel l2) fun t7 => lt (t7 != 0) fun c11 => br c11 (some (TNode.mk 0 (TRank.mk 0 (TU256.mk 0 0 0 0)), 1)) (lt ((((List.length l2 : Nat) : Int)) == 0) fun c12 => br c12 (some (TNode.mk 0 (TRank.mk 0 (TU256.mk 0 0 0 0)), 3)) (gd ((0 : Int) ≤ 0 ∧ 0 < ((List.length l2 : Nat) : Int)) <| bd (l2[Int.toNat 0]?) fun x14 => some (x14, 0)))
theorem g_heap_Least_w (fuel : Nat) (s1 : Value) (l2 : List TNode) (r : TNode × Int) (h : g_heap_Least fuel l2 = some r) (w0 : World) (hs1 : Rd fTNode (hp no w0) s1 l2) :
    Ret Try.prog 12 #[s1] w0 (fun v w' => v = .tuple #[TNode.val r.1, vi r.2] ∧ St no w0 w' []) := by
  unfold g_heap_Least at h
  refine ret_of_wp Try.func12 rfl #[s1, Z, Z, Z, Z, Z, Z, Z, Z, Z, Z, Z, Z, Z, Z, Z, Z] (by kernel_rfl) ?_
  have H0 := St.start w0
  refine WP.seq ?_
  refine WP.region ?_
  refine WPI.op rfl (Op1.alloc H0 #[vi 0, vi 0, vu 0, vu 0, vu 0, vu 0] (by kernel_rfl) 33 rfl (by kernel_rfl) (fun b3 w5 H6 => ?_))
  refine WPI.run 1 ⟨#[s1, Z, vp b3 0, vi 0, Z, Z, Z, Z, Z, Z, Z, Z, Z, Z, Z, Z, Z], []⟩ w5 (fun K => by kernel_rfl) ?_
  refine WPI.done rfl ?_
  refine then_n ?_
  refine WP.seq ?_
  refine WP.block ?_
  refine WP.seq ?_
  refine WP.region ?_
  obtain ⟨t7, ht7, h⟩ := bd_some h
  refine WPI.run 1 ⟨#[s1, Z, vp b3 0, vi 0, Z, s1, Z, Z, Z, Z, Z, Z, Z, Z, Z, Z, Z], []⟩ w5 (fun K => by kernel_rfl) ?_
  refine WPI.op rfl (Op1.call (by kernel_rfl) (by kernel_rfl) (g_heap_Check_w fuel s1 l2 t7 ht7 _ (Rd.arg0 hs1 H6)) ?_)
  rintro _ w8 ⟨rfl, Hc9⟩
  have H10 := St.call0' H6 Hc9
  clear H6 Hc9
  obtain ⟨c11, hc11, h⟩ := lt_some h
  refine WPI.run 2 ⟨#[s1, Z, vp b3 0, vi 0, vb c11, s1, vi t7, vb c11, Z, Z, Z, Z, Z, Z, Z, Z, Z], []⟩ w8 (fun K => by subst hc11; kernel_rfl) ?_
  refine WPI.done rfl ?_
  refine then_n ?_
  cases c11 with
  | false =>
    replace h := br_f h
    refine WP.condF (by kernel_rfl) ?_
    refine WP.seq ?_
    refine WP.region ?_
    refine WPI.run 1 ⟨#[s1, Z, vp b3 0, vi 0, vb false, s1, vi t7, vb false, Z, Z, s1, Z, Z, Z, Z, Z, Z], []⟩ w8 (fun K => by kernel_rfl) ?_
    refine WPI.value (v := vi (((List.length l2 : Nat) : Int))) rfl (by kernel_rfl) (ev_len (Rd.sl hs1) 22 (.tmp 10) 33 6 48 rfl (by kernel_rfl) (by kernel_rfl)) ?_
    obtain ⟨c12, hc12, h⟩ := lt_some h
    refine WPI.run 2 ⟨#[s1, Z, vp b3 0, vi 0, vb false, s1, vi t7, vb false, Z, vb c12, s1, vi (((List.length l2 : Nat) : Int)), vb c12, Z, Z, Z, Z], []⟩ w8 (fun K => by subst hc12; kernel_rfl) ?_
    refine WPI.done rfl ?_
    refine then_n ?_
    cases c12 with
    | false =>
      replace h := br_f h
      refine WP.condF (by kernel_rfl) ?_
      refine WP.skip ?_
      refine inb_n (then_n ?_)
      refine WP.seq ?_
      refine WP.region ?_
      obtain ⟨hg13, h⟩ := gd_some h
      refine WPI.run 1 ⟨#[s1, Z, vp b3 0, vi 0, vb false, s1, vi t7, vb false, Z, vb false, s1, vi (((List.length l2 : Nat) : Int)), vb false, Z, s1, Z, Z], []⟩ w8 (fun K => by kernel_rfl) ?_
      refine WPI.value (v := va (slAt s1 6 (Int.toNat 0))) rfl (by kernel_rfl) (ev_index (Rd.sl hs1) 22 (.tmp 14) (.const (vi 0)) 33 6 48 .i64 0 rfl (by kernel_rfl) (by kernel_rfl) (by kernel_rfl) hg13) ?_
      obtain ⟨x14, hx14, h⟩ := bd_some h
      refine WPI.run 0 ⟨#[s1, Z, vp b3 0, vi 0, vb false, s1, vi t7, vb false, Z, vb false, s1, vi (((List.length l2 : Nat) : Int)), vb false, Z, s1, va (slAt s1 6 (Int.toNat 0)), Z], []⟩ w8 (fun K => by kernel_rfl) ?_
      refine WPI.value (v := TNode.val x14) rfl (by kernel_rfl) (ev_loadEl (F := fTNode) hs1 (St.hp_le H10) hx14 33 (.tmp 15) 0 (TNode.val x14) rfl (by kernel_rfl) (by kernel_rfl)) ?_
      refine WPI.run 0 ⟨#[s1, Z, vp b3 0, vi 0, vb false, s1, vi t7, vb false, Z, vb false, s1, vi (((List.length l2 : Nat) : Int)), vb false, Z, s1, va (slAt s1 6 (Int.toNat 0)), TNode.val x14], []⟩ w8 (fun K => by kernel_rfl) ?_
      refine WPI.op rfl (Op1.storeBox H10 0 rfl (by kernel_rfl) 33 (.tmp 2) (.tmp 16) 0 (TNode.val x14) (TNode.cs x14).toArray true rfl (by kernel_rfl) (by kernel_rfl) (by kernel_rfl) (by kernel_rfl) (by kernel_rfl) (flat_one1 fTNode x14) (fun w15 H16 => ?_))
      clear H10
      refine WPI.run 1 ⟨#[s1, Z, vp b3 0, vi 0, vb false, s1, vi t7, vb false, Z, vb false, s1, vi (((List.length l2 : Nat) : Int)), vb false, Z, s1, va (slAt s1 6 (Int.toNat 0)), TNode.val x14], []⟩ w15 (fun K => by kernel_rfl) ?_
      refine WPI.done rfl ?_
      refine then_n ?_
      refine WP.ret ?_
      obtain rfl := Option.some.inj h
      exact post_r (.tuple #[TNode.val x14, vi 0]) rfl (results_cell_tmp rfl (by kernel_rfl) (by kernel_rfl) (run_loadAt (ad := (⟨b3, 0, none⟩ : Addr)) (off := 0) (St.boxAt H16 0 rfl) (le_self _) (by kernel_rfl))) ⟨rfl, St.sel H16 [] (by decide) rfl⟩
    | true =>
      replace h := br_t h
      refine WP.condT (by kernel_rfl) ?_
      refine WP.seq ?_
      refine WP.region ?_
      refine WPI.run 1 ⟨#[s1, Z, vp b3 0, vi 0, vb false, s1, vi t7, vb false, Z, vb true, s1, vi (((List.length l2 : Nat) : Int)), vb true, .agg #[vi 0, vi 0, vu 0, vu 0, vu 0, vu 0], Z, Z, Z], []⟩ w8 (fun K => by kernel_rfl) ?_
      refine WPI.op rfl (Op1.storeBox H10 0 rfl (by kernel_rfl) 33 (.tmp 2) (.tmp 13) 0 (.agg #[vi 0, vi 0, vu 0, vu 0, vu 0, vu 0]) #[vi 0, vi 0, vu 0, vu 0, vu 0, vu 0] true rfl (by kernel_rfl) (by kernel_rfl) (by kernel_rfl) (by kernel_rfl) (by kernel_rfl) (flat_one1 fTNode (TNode.mk 0 (TRank.mk 0 (TU256.mk 0 0 0 0)))) (fun w17 H18 => ?_))
      clear H10
      refine WPI.run 1 ⟨#[s1, Z, vp b3 0, vi 3, vb false, s1, vi t7, vb false, Z, vb true, s1, vi (((List.length l2 : Nat) : Int)), vb true, .agg #[vi 0, vi 0, vu 0, vu 0, vu 0, vu 0], Z, Z, Z], []⟩ w17 (fun K => by kernel_rfl) ?_
      refine WPI.done rfl ?_
      refine then_n ?_
      refine WP.ret ?_
      obtain rfl := Option.some.inj h
      exact inb_r (then_r (post_r (.tuple #[.agg #[vi 0, vi 0, vu 0, vu 0, vu 0, vu 0], vi 3]) rfl (results_cell_tmp rfl (by kernel_rfl) (by kernel_rfl) (run_loadAt (ad := (⟨b3, 0, none⟩ : Addr)) (off := 0) (St.boxAt H18 0 rfl) (le_self _) (by kernel_rfl))) ⟨rfl, St.sel H18 [] (by decide) rfl⟩))
  | true =>
    replace h := br_t h
    refine WP.condT (by kernel_rfl) ?_
    refine WP.seq ?_
    refine WP.region ?_
    refine WPI.run 1 ⟨#[s1, Z, vp b3 0, vi 0, vb true, s1, vi t7, vb true, .agg #[vi 0, vi 0, vu 0, vu 0, vu 0, vu 0], Z, Z, Z, Z, Z, Z, Z, Z], []⟩ w8 (fun K => by kernel_rfl) ?_
    refine WPI.op rfl (Op1.storeBox H10 0 rfl (by kernel_rfl) 33 (.tmp 2) (.tmp 8) 0 (.agg #[vi 0, vi 0, vu 0, vu 0, vu 0, vu 0]) #[vi 0, vi 0, vu 0, vu 0, vu 0, vu 0] true rfl (by kernel_rfl) (by kernel_rfl) (by kernel_rfl) (by kernel_rfl) (by kernel_rfl) (flat_one1 fTNode (TNode.mk 0 (TRank.mk 0 (TU256.mk 0 0 0 0)))) (fun w19 H20 => ?_))
    clear H10
    refine WPI.run 1 ⟨#[s1, Z, vp b3 0, vi 1, vb true, s1, vi t7, vb true, .agg #[vi 0, vi 0, vu 0, vu 0, vu 0, vu 0], Z, Z, Z, Z, Z, Z, Z, Z], []⟩ w19 (fun K => by kernel_rfl) ?_
    refine WPI.done rfl ?_
    refine then_n ?_
    refine WP.ret ?_
    obtain rfl := Option.some.inj h
    exact inb_r (then_r (post_r (.tuple #[.agg #[vi 0, vi 0, vu 0, vu 0, vu 0, vu 0], vi 1]) rfl (results_cell_tmp rfl (by kernel_rfl) (by kernel_rfl) (run_loadAt (ad := (⟨b3, 0, none⟩ : Addr)) (off := 0) (St.boxAt H20 0 rfl) (le_self _) (by kernel_rfl))) ⟨rfl, St.sel H20 [] (by decide) rfl⟩))
/- tarn/tarnlaw13.wakes -/
def g_tarnlaw13_wakes (fuel : Nat)  : Option Bool :=
  bd (g_heap_Push fuel [] (TNode.mk 0 (TRank.mk 0 (TU256.mk 0 0 0 0)))) fun t1 => bd (g_heap_Push fuel t1.1 (TNode.mk 1 (TRank.mk ((-1)) (TU256.mk 0 0 0 0)))) fun t8 => bd (g_heap_Least fuel t8.1) fun t15 => jn (fun (c25 : Bool) => some c25) fun K44 => bd (g_tarnlaw13_num fuel t1.2) fun t45 => lt (t45 == 0) fun c49 => br c49 (bd (g_tarnlaw13_num fuel t8.2) fun t50 => lt (t50 == 0) fun c54 => br c54 (bd (g_tarnlaw13_num fuel t15.2) fun t55 => lt (t55 == 0) fun c59 => br c59 (lt (t15.1.Acct == 1) fun c60 => K44 c60) (K44 false)) (K44 false)) (K44 false)
theorem g_tarnlaw13_wakes_w (fuel : Nat)  (r : Bool) (h : g_tarnlaw13_wakes fuel = some r) (w0 : World) :
    Ret Try.prog 16 #[] w0 (fun v w' => v = vb r ∧ St no w0 w' []) := by
  unfold g_tarnlaw13_wakes at h
  refine ret_of_wp Try.func16 rfl #[Z, Z, Z, Z, Z, Z, Z, Z, Z, Z, Z, Z, Z, Z, Z, Z, Z, Z, Z, Z, Z, Z, Z, Z, Z, Z, Z, Z, Z, Z, Z, Z, Z, Z, Z, Z, Z, Z, Z, Z, Z] (by kernel_rfl) ?_
  have H0 := St.start w0
  refine WP.seq ?_
  refine WP.region ?_
  refine WPI.run 1 ⟨#[vb false, Z, Z, Z, Z, Z, Z, Z, Z, Z, Z, Z, Z, Z, Z, Z, Z, Z, Z, Z, Z, Z, Z, Z, Z, Z, Z, Z, Z, Z, Z, Z, Z, Z, Z, Z, Z, Z, Z, Z, Z], []⟩ w0 (fun K => by kernel_rfl) ?_
  refine WPI.done rfl ?_
  refine then_n ?_
  refine WP.seq ?_
  refine WP.region ?_
  obtain ⟨t1, ht1, h⟩ := bd_some h
  refine WPI.run 1 ⟨#[vb false, Z, Z, Z, Z, Z, Z, .agg #[vi 0, vi 0, vu 0, vu 0, vu 0, vu 0], Z, Z, Z, Z, Z, Z, Z, Z, Z, Z, Z, Z, Z, Z, Z, Z, Z, Z, Z, Z, Z, Z, Z, Z, Z, Z, Z, Z, Z, Z, Z, Z, Z], []⟩ w0 (fun K => by kernel_rfl) ?_
  refine WPI.op rfl (Op1.call (by kernel_rfl) (by kernel_rfl) (g_heap_Push_w fuel vn [] (TNode.mk 0 (TRank.mk 0 (TU256.mk 0 0 0 0))) t1 ht1 _ (Rd.nil _ _)) ?_)
  rintro _ w5 ⟨s2, rfl, Hc6⟩
  have H7 := St.call0 H0 Hc6
  clear Hc6
  have sf4 := Own.isSl (St.get H7 0 rfl)
  refine WPI.run 5 ⟨#[vb false, s2, vi t1.2, Z, Z, Z, .tuple #[s2, vi t1.2], .agg #[vi 0, vi 0, vu 0, vu 0, vu 0, vu 0], .tuple #[s2, vi t1.2], s2, vi t1.2, Z, Z, Z, Z, Z, Z, Z, Z, Z, Z, Z, Z, Z, Z, Z, Z, Z, Z, Z, Z, Z, Z, Z, Z, Z, Z, Z, Z, Z, Z], []⟩ w5 (fun K => by kernel_rfl) ?_
  refine WPI.done rfl ?_
  refine then_n ?_
  refine WP.seq ?_
  refine WP.region ?_
  obtain ⟨t8, ht8, h⟩ := bd_some h
  refine WPI.run 3 ⟨#[vb false, s2, vi t1.2, Z, Z, Z, .tuple #[s2, vi t1.2], .agg #[vi 0, vi 0, vu 0, vu 0, vu 0, vu 0], .tuple #[s2, vi t1.2], s2, vi t1.2, Z, s2, .agg #[vi ((-1)), vu 0, vu 0, vu 0, vu 0], .agg #[vi 1, vi ((-1)), vu 0, vu 0, vu 0, vu 0], Z, Z, Z, Z, Z, Z, Z, Z, Z, Z, Z, Z, Z, Z, Z, Z, Z, Z, Z, Z, Z, Z, Z, Z, Z, Z], []⟩ w5 (fun K => by kernel_rfl) ?_
  refine WPI.op rfl (Op1.call (by kernel_rfl) (by kernel_rfl) (g_heap_Push_w fuel s2 t1.1 (TNode.mk 1 (TRank.mk ((-1)) (TU256.mk 0 0 0 0))) t8 ht8 _ (St.rd H7 0 rfl)) ?_)
  rintro _ w12 ⟨s9, rfl, Hc13⟩
  have H14 := St.call0 H7 Hc13
  clear H7 Hc13
  have sf11 := Own.isSl (St.get H14 0 rfl)
  refine WPI.run 5 ⟨#[vb false, s9, vi t1.2, vi t8.2, Z, Z, .tuple #[s2, vi t1.2], .agg #[vi 0, vi 0, vu 0, vu 0, vu 0, vu 0], .tuple #[s2, vi t1.2], s2, vi t1.2, .tuple #[s9, vi t8.2], s2, .agg #[vi ((-1)), vu 0, vu 0, vu 0, vu 0], .agg #[vi 1, vi ((-1)), vu 0, vu 0, vu 0, vu 0], .tuple #[s9, vi t8.2], s9, vi t8.2, Z, Z, Z, Z, Z, Z, Z, Z, Z, Z, Z, Z, Z, Z, Z, Z, Z, Z, Z, Z, Z, Z, Z], []⟩ w12 (fun K => by kernel_rfl) ?_
  refine WPI.done rfl ?_
  refine then_n ?_
  refine WP.seq ?_
  refine WP.region ?_
  obtain ⟨t15, ht15, h⟩ := bd_some h
  refine WPI.run 1 ⟨#[vb false, s9, vi t1.2, vi t8.2, Z, Z, .tuple #[s2, vi t1.2], .agg #[vi 0, vi 0, vu 0, vu 0, vu 0, vu 0], .tuple #[s2, vi t1.2], s2, vi t1.2, .tuple #[s9, vi t8.2], s2, .agg #[vi ((-1)), vu 0, vu 0, vu 0, vu 0], .agg #[vi 1, vi ((-1)), vu 0, vu 0, vu 0, vu 0], .tuple #[s9, vi t8.2], s9, vi t8.2, Z, s9, Z, Z, Z, Z, Z, Z, Z, Z, Z, Z, Z, Z, Z, Z, Z, Z, Z, Z, Z, Z, Z], []⟩ w12 (fun K => by kernel_rfl) ?_
  refine WPI.op rfl (Op1.call (by kernel_rfl) (by kernel_rfl) (g_heap_Least_w fuel s9 t8.1 t15 ht15 _ (St.rd H14 0 rfl)) ?_)
  rintro _ w16 ⟨rfl, Hc17⟩
  have H18 := St.call0' H14 Hc17
  clear H14 Hc17
  refine WPI.run 3 ⟨#[vb false, s9, vi t1.2, vi t8.2, Z, Z, .tuple #[s2, vi t1.2], .agg #[vi 0, vi 0, vu 0, vu 0, vu 0, vu 0], .tuple #[s2, vi t1.2], s2, vi t1.2, .tuple #[s9, vi t8.2], s2, .agg #[vi ((-1)), vu 0, vu 0, vu 0, vu 0], .agg #[vi 1, vi ((-1)), vu 0, vu 0, vu 0, vu 0], .tuple #[s9, vi t8.2], s9, vi t8.2, .tuple #[TNode.val t15.1, vi t15.2], s9, .tuple #[TNode.val t15.1, vi t15.2], TNode.val t15.1, vi t15.2, Z, Z, Z, Z, Z, Z, Z, Z, Z, Z, Z, Z, Z, Z, Z, Z, Z, Z], []⟩ w16 (fun K => by kernel_rfl) ?_
  refine WPI.op rfl (Op1.alloc H18 #[vi 0, vi 0, vu 0, vu 0, vu 0, vu 0] (by kernel_rfl) 33 rfl (by kernel_rfl) (fun b19 w21 H22 => ?_))
  clear H18
  refine WPI.run 0 ⟨#[vb false, s9, vi t1.2, vi t8.2, vp b19 0, Z, .tuple #[s2, vi t1.2], .agg #[vi 0, vi 0, vu 0, vu 0, vu 0, vu 0], .tuple #[s2, vi t1.2], s2, vi t1.2, .tuple #[s9, vi t8.2], s2, .agg #[vi ((-1)), vu 0, vu 0, vu 0, vu 0], .agg #[vi 1, vi ((-1)), vu 0, vu 0, vu 0, vu 0], .tuple #[s9, vi t8.2], s9, vi t8.2, .tuple #[TNode.val t15.1, vi t15.2], s9, .tuple #[TNode.val t15.1, vi t15.2], TNode.val t15.1, vi t15.2, Z, Z, Z, Z, Z, Z, Z, Z, Z, Z, Z, Z, Z, Z, Z, Z, Z, Z], []⟩ w21 (fun K => by kernel_rfl) ?_
  refine WPI.op rfl (Op1.storeBox H22 0 rfl (by kernel_rfl) 33 (.tmp 4) (.tmp 21) 0 (TNode.val t15.1) (TNode.cs t15.1).toArray true rfl (by kernel_rfl) (by kernel_rfl) (by kernel_rfl) (by kernel_rfl) (by kernel_rfl) (flat_one1 fTNode t15.1) (fun w23 H24 => ?_))
  clear H22
  refine WPI.run 1 ⟨#[vb false, s9, vi t1.2, vi t8.2, vp b19 0, vi t15.2, .tuple #[s2, vi t1.2], .agg #[vi 0, vi 0, vu 0, vu 0, vu 0, vu 0], .tuple #[s2, vi t1.2], s2, vi t1.2, .tuple #[s9, vi t8.2], s2, .agg #[vi ((-1)), vu 0, vu 0, vu 0, vu 0], .agg #[vi 1, vi ((-1)), vu 0, vu 0, vu 0, vu 0], .tuple #[s9, vi t8.2], s9, vi t8.2, .tuple #[TNode.val t15.1, vi t15.2], s9, .tuple #[TNode.val t15.1, vi t15.2], TNode.val t15.1, vi t15.2, Z, Z, Z, Z, Z, Z, Z, Z, Z, Z, Z, Z, Z, Z, Z, Z, Z, Z], []⟩ w23 (fun K => by kernel_rfl) ?_
  refine WPI.done rfl ?_
  refine then_n ?_
  refine WP.seq ?_
  obtain ⟨K44, hK44, h⟩ := jn_some h
  refine WP.onlyN (fun a w => ∃ (c25 : Bool) (g26 : Value) (g27 : Value) (g28 : Value) (g29 : Value) (g30 : Value) (g31 : Value) (g32 : Value) (g33 : Value) (g34 : Value) (g35 : Value) (g36 : Value) (g37 : Value) (g38 : Value) (g39 : Value) (g40 : Value) (g41 : Value) (g42 : Value) (g43 : Value), a = ⟨#[vb c25, s9, vi t1.2, vi t8.2, vp b19 0, vi t15.2, .tuple #[s2, vi t1.2], .agg #[vi 0, vi 0, vu 0, vu 0, vu 0, vu 0], .tuple #[s2, vi t1.2], s2, vi t1.2, .tuple #[s9, vi t8.2], s2, .agg #[vi ((-1)), vu 0, vu 0, vu 0, vu 0], .agg #[vi 1, vi ((-1)), vu 0, vu 0, vu 0, vu 0], .tuple #[s9, vi t8.2], s9, vi t8.2, .tuple #[TNode.val t15.1, vi t15.2], s9, .tuple #[TNode.val t15.1, vi t15.2], TNode.val t15.1, vi t15.2, g26, g27, g28, g29, g30, g31, g32, g33, g34, g35, g36, g37, g38, g39, g40, g41, g42, g43], []⟩ ∧ St no w0 w [Box b19 (TNode.cs t15.1).toArray 33, Own fTNode 33 s9 t8.1, Own fTNode 33 s2 t1.1] ∧ K44 c25 = some r) ?_ ?_
  · skip
    refine WP.region ?_
    obtain ⟨t45, ht45, h⟩ := bd_some h
    refine WPI.run 1 ⟨#[vb false, s9, vi t1.2, vi t8.2, vp b19 0, vi t15.2, .tuple #[s2, vi t1.2], .agg #[vi 0, vi 0, vu 0, vu 0, vu 0, vu 0], .tuple #[s2, vi t1.2], s2, vi t1.2, .tuple #[s9, vi t8.2], s2, .agg #[vi ((-1)), vu 0, vu 0, vu 0, vu 0], .agg #[vi 1, vi ((-1)), vu 0, vu 0, vu 0, vu 0], .tuple #[s9, vi t8.2], s9, vi t8.2, .tuple #[TNode.val t15.1, vi t15.2], s9, .tuple #[TNode.val t15.1, vi t15.2], TNode.val t15.1, vi t15.2, vi t1.2, Z, Z, Z, Z, Z, Z, Z, Z, Z, Z, Z, Z, Z, Z, Z, Z, Z], []⟩ w23 (fun K => by kernel_rfl) ?_
    refine WPI.op rfl (Op1.call (by kernel_rfl) (by kernel_rfl) (g_tarnlaw13_num_w fuel t1.2 t45 ht45 _) ?_)
    rintro _ w46 ⟨rfl, Hc47⟩
    have H48 := St.call0' H24 Hc47
    clear H24 Hc47
    obtain ⟨c49, hc49, h⟩ := lt_some h
    refine WPI.run 2 ⟨#[vb false, s9, vi t1.2, vi t8.2, vp b19 0, vi t15.2, .tuple #[s2, vi t1.2], .agg #[vi 0, vi 0, vu 0, vu 0, vu 0, vu 0], .tuple #[s2, vi t1.2], s2, vi t1.2, .tuple #[s9, vi t8.2], s2, .agg #[vi ((-1)), vu 0, vu 0, vu 0, vu 0], .agg #[vi 1, vi ((-1)), vu 0, vu 0, vu 0, vu 0], .tuple #[s9, vi t8.2], s9, vi t8.2, .tuple #[TNode.val t15.1, vi t15.2], s9, .tuple #[TNode.val t15.1, vi t15.2], TNode.val t15.1, vi t15.2, vi t1.2, vi t45, vb c49, vb c49, Z, Z, Z, Z, Z, Z, Z, Z, Z, Z, Z, Z, Z, Z], []⟩ w46 (fun K => by subst hc49; kernel_rfl) ?_
    cases c49 with
    | false =>
      replace h := br_f h
      refine WPI.run 15 ⟨#[vb false, s9, vi t1.2, vi t8.2, vp b19 0, vi t15.2, .tuple #[s2, vi t1.2], .agg #[vi 0, vi 0, vu 0, vu 0, vu 0, vu 0], .tuple #[s2, vi t1.2], s2, vi t1.2, .tuple #[s9, vi t8.2], s2, .agg #[vi ((-1)), vu 0, vu 0, vu 0, vu 0], .agg #[vi 1, vi ((-1)), vu 0, vu 0, vu 0, vu 0], .tuple #[s9, vi t8.2], s9, vi t8.2, .tuple #[TNode.val t15.1, vi t15.2], s9, .tuple #[TNode.val t15.1, vi t15.2], TNode.val t15.1, vi t15.2, vi t1.2, vi t45, vb false, vb false, Z, Z, Z, vb false, vb false, Z, Z, Z, vb false, vb false, Z, Z, Z, vb false], []⟩ w46 (fun K => by kernel_rfl) ?_
      refine WPI.done rfl ?_
      exact ⟨false, _, _, _, _, _, _, _, _, _, _, _, _, _, _, _, _, _, _, rfl, St.sel H48 [0, 1, 2] (by decide) rfl, h⟩
    | true =>
      replace h := br_t h
      obtain ⟨t50, ht50, h⟩ := bd_some h
      refine WPI.run 1 ⟨#[vb false, s9, vi t1.2, vi t8.2, vp b19 0, vi t15.2, .tuple #[s2, vi t1.2], .agg #[vi 0, vi 0, vu 0, vu 0, vu 0, vu 0], .tuple #[s2, vi t1.2], s2, vi t1.2, .tuple #[s9, vi t8.2], s2, .agg #[vi ((-1)), vu 0, vu 0, vu 0, vu 0], .agg #[vi 1, vi ((-1)), vu 0, vu 0, vu 0, vu 0], .tuple #[s9, vi t8.2], s9, vi t8.2, .tuple #[TNode.val t15.1, vi t15.2], s9, .tuple #[TNode.val t15.1, vi t15.2], TNode.val t15.1, vi t15.2, vi t1.2, vi t45, vb true, vb true, vi t8.2, Z, Z, Z, Z, Z, Z, Z, Z, Z, Z, Z, Z, Z], []⟩ w46 (fun K => by kernel_rfl) ?_
      refine WPI.op rfl (Op1.call (by kernel_rfl) (by kernel_rfl) (g_tarnlaw13_num_w fuel t8.2 t50 ht50 _) ?_)
      rintro _ w51 ⟨rfl, Hc52⟩
      have H53 := St.call0' H48 Hc52
      clear H48 Hc52
      obtain ⟨c54, hc54, h⟩ := lt_some h
      refine WPI.run 3 ⟨#[vb false, s9, vi t1.2, vi t8.2, vp b19 0, vi t15.2, .tuple #[s2, vi t1.2], .agg #[vi 0, vi 0, vu 0, vu 0, vu 0, vu 0], .tuple #[s2, vi t1.2], s2, vi t1.2, .tuple #[s9, vi t8.2], s2, .agg #[vi ((-1)), vu 0, vu 0, vu 0, vu 0], .agg #[vi 1, vi ((-1)), vu 0, vu 0, vu 0, vu 0], .tuple #[s9, vi t8.2], s9, vi t8.2, .tuple #[TNode.val t15.1, vi t15.2], s9, .tuple #[TNode.val t15.1, vi t15.2], TNode.val t15.1, vi t15.2, vi t1.2, vi t45, vb true, vb true, vi t8.2, vi t50, vb c54, vb c54, vb c54, Z, Z, Z, Z, Z, Z, Z, Z, Z], []⟩ w51 (fun K => by subst hc54; kernel_rfl) ?_
      cases c54 with
      | false =>
        replace h := br_f h
        refine WPI.run 10 ⟨#[vb false, s9, vi t1.2, vi t8.2, vp b19 0, vi t15.2, .tuple #[s2, vi t1.2], .agg #[vi 0, vi 0, vu 0, vu 0, vu 0, vu 0], .tuple #[s2, vi t1.2], s2, vi t1.2, .tuple #[s9, vi t8.2], s2, .agg #[vi ((-1)), vu 0, vu 0, vu 0, vu 0], .agg #[vi 1, vi ((-1)), vu 0, vu 0, vu 0, vu 0], .tuple #[s9, vi t8.2], s9, vi t8.2, .tuple #[TNode.val t15.1, vi t15.2], s9, .tuple #[TNode.val t15.1, vi t15.2], TNode.val t15.1, vi t15.2, vi t1.2, vi t45, vb true, vb true, vi t8.2, vi t50, vb false, vb false, vb false, Z, Z, Z, vb false, vb false, Z, Z, Z, vb false], []⟩ w51 (fun K => by kernel_rfl) ?_
        refine WPI.done rfl ?_
        exact ⟨false, _, _, _, _, _, _, _, _, _, _, _, _, _, _, _, _, _, _, rfl, St.sel H53 [0, 1, 2] (by decide) rfl, h⟩
      | true =>
        replace h := br_t h
        obtain ⟨t55, ht55, h⟩ := bd_some h
        refine WPI.run 1 ⟨#[vb false, s9, vi t1.2, vi t8.2, vp b19 0, vi t15.2, .tuple #[s2, vi t1.2], .agg #[vi 0, vi 0, vu 0, vu 0, vu 0, vu 0], .tuple #[s2, vi t1.2], s2, vi t1.2, .tuple #[s9, vi t8.2], s2, .agg #[vi ((-1)), vu 0, vu 0, vu 0, vu 0], .agg #[vi 1, vi ((-1)), vu 0, vu 0, vu 0, vu 0], .tuple #[s9, vi t8.2], s9, vi t8.2, .tuple #[TNode.val t15.1, vi t15.2], s9, .tuple #[TNode.val t15.1, vi t15.2], TNode.val t15.1, vi t15.2, vi t1.2, vi t45, vb true, vb true, vi t8.2, vi t50, vb true, vb true, vb true, vi t15.2, Z, Z, Z, Z, Z, Z, Z, Z], []⟩ w51 (fun K => by kernel_rfl) ?_
        refine WPI.op rfl (Op1.call (by kernel_rfl) (by kernel_rfl) (g_tarnlaw13_num_w fuel t15.2 t55 ht55 _) ?_)
        rintro _ w56 ⟨rfl, Hc57⟩
        have H58 := St.call0' H53 Hc57
        clear H53 Hc57
        obtain ⟨c59, hc59, h⟩ := lt_some h
        refine WPI.run 3 ⟨#[vb false, s9, vi t1.2, vi t8.2, vp b19 0, vi t15.2, .tuple #[s2, vi t1.2], .agg #[vi 0, vi 0, vu 0, vu 0, vu 0, vu 0], .tuple #[s2, vi t1.2], s2, vi t1.2, .tuple #[s9, vi t8.2], s2, .agg #[vi ((-1)), vu 0, vu 0, vu 0, vu 0], .agg #[vi 1, vi ((-1)), vu 0, vu 0, vu 0, vu 0], .tuple #[s9, vi t8.2], s9, vi t8.2, .tuple #[TNode.val t15.1, vi t15.2], s9, .tuple #[TNode.val t15.1, vi t15.2], TNode.val t15.1, vi t15.2, vi t1.2, vi t45, vb true, vb true, vi t8.2, vi t50, vb true, vb true, vb true, vi t15.2, vi t55, vb c59, vb c59, vb c59, Z, Z, Z, Z], []⟩ w56 (fun K => by subst hc59; kernel_rfl) ?_
        cases c59 with
        | false =>
          replace h := br_f h
          refine WPI.run 5 ⟨#[vb false, s9, vi t1.2, vi t8.2, vp b19 0, vi t15.2, .tuple #[s2, vi t1.2], .agg #[vi 0, vi 0, vu 0, vu 0, vu 0, vu 0], .tuple #[s2, vi t1.2], s2, vi t1.2, .tuple #[s9, vi t8.2], s2, .agg #[vi ((-1)), vu 0, vu 0, vu 0, vu 0], .agg #[vi 1, vi ((-1)), vu 0, vu 0, vu 0, vu 0], .tuple #[s9, vi t8.2], s9, vi t8.2, .tuple #[TNode.val t15.1, vi t15.2], s9, .tuple #[TNode.val t15.1, vi t15.2], TNode.val t15.1, vi t15.2, vi t1.2, vi t45, vb true, vb true, vi t8.2, vi t50, vb true, vb true, vb true, vi t15.2, vi t55, vb false, vb false, vb false, Z, Z, Z, vb false], []⟩ w56 (fun K => by kernel_rfl) ?_
          refine WPI.done rfl ?_
          exact ⟨false, _, _, _, _, _, _, _, _, _, _, _, _, _, _, _, _, _, _, rfl, St.sel H58 [0, 1, 2] (by decide) rfl, h⟩
        | true =>
          replace h := br_t h
          refine WPI.run 1 ⟨#[vb false, s9, vi t1.2, vi t8.2, vp b19 0, vi t15.2, .tuple #[s2, vi t1.2], .agg #[vi 0, vi 0, vu 0, vu 0, vu 0, vu 0], .tuple #[s2, vi t1.2], s2, vi t1.2, .tuple #[s9, vi t8.2], s2, .agg #[vi ((-1)), vu 0, vu 0, vu 0, vu 0], .agg #[vi 1, vi ((-1)), vu 0, vu 0, vu 0, vu 0], .tuple #[s9, vi t8.2], s9, vi t8.2, .tuple #[TNode.val t15.1, vi t15.2], s9, .tuple #[TNode.val t15.1, vi t15.2], TNode.val t15.1, vi t15.2, vi t1.2, vi t45, vb true, vb true, vi t8.2, vi t50, vb true, vb true, vb true, vi t15.2, vi t55, vb true, vb true, vb true, vp b19 0, Z, Z, Z], []⟩ w56 (fun K => by kernel_rfl) ?_
          refine WPI.value (v := vi t15.1.Acct) rfl (by kernel_rfl) (ev_loadBox H58 0 rfl 3 (.tmp 37) 0 (vi t15.1.Acct) rfl (by kernel_rfl) (by kernel_rfl)) ?_
          obtain ⟨c60, hc60, h⟩ := lt_some h
          refine WPI.run 3 ⟨#[vb c60, s9, vi t1.2, vi t8.2, vp b19 0, vi t15.2, .tuple #[s2, vi t1.2], .agg #[vi 0, vi 0, vu 0, vu 0, vu 0, vu 0], .tuple #[s2, vi t1.2], s2, vi t1.2, .tuple #[s9, vi t8.2], s2, .agg #[vi ((-1)), vu 0, vu 0, vu 0, vu 0], .agg #[vi 1, vi ((-1)), vu 0, vu 0, vu 0, vu 0], .tuple #[s9, vi t8.2], s9, vi t8.2, .tuple #[TNode.val t15.1, vi t15.2], s9, .tuple #[TNode.val t15.1, vi t15.2], TNode.val t15.1, vi t15.2, vi t1.2, vi t45, vb true, vb true, vi t8.2, vi t50, vb true, vb true, vb true, vi t15.2, vi t55, vb true, vb true, vb true, vp b19 0, vi t15.1.Acct, vb c60, vb c60], []⟩ w56 (fun K => by subst hc60; kernel_rfl) ?_
          refine WPI.done rfl ?_
          exact ⟨c60, _, _, _, _, _, _, _, _, _, _, _, _, _, _, _, _, _, _, rfl, St.sel H58 [0, 1, 2] (by decide) rfl, h⟩
  · rintro a w ⟨c25, g26, g27, g28, g29, g30, g31, g32, g33, g34, g35, g36, g37, g38, g39, g40, g41, g42, g43, rfl, H, h⟩
    subst hK44
    obtain ⟨w61, rfl⟩ : ∃ x, x = w := ⟨_, rfl⟩
    have H62 := H; clear H
    have sf63 := Own.isSl (St.get H62 1 rfl)
    have sf64 := Own.isSl (St.get H62 2 rfl)
    refine then_n ?_
    refine WP.ret ?_
    obtain rfl := Option.some.inj h
    exact post_r (vb c25) rfl (by kernel_rfl) ⟨rfl, St.sel H62 [] (by decide) rfl⟩
/- tarn/tarnlaw13.only -/
def g_tarnlaw13_only_l1 (l4 : List Ttarnlaw13_Act) (fuel : Nat) (l2 : List TNode) (p5 : Int) (K46 : Option Bool) : Nat → Int → Option Bool
  | 0, _ => none
  | n + 1, x48 => jn (fun (c89 : Bool) => br c89 (gd ((0 : Int) ≤ x48 ∧ x48 < ((List.length l4 : Nat) : Int)) <| bd (l4[Int.toNat x48]?) fun x96 => bd (g_tarnlaw13_step fuel l2 (Ttarnlaw13_Act.mk p5 x96.N)) fun t105 => lt (!t105.2) fun c111 => br c111 (some false) (lt (wr .i64 (x48 + 1)) fun x112 => g_tarnlaw13_only_l1 l4 fuel l2 p5 K46 n x112)) (K46)) fun K90 => lt (decide (x48 < (((List.length l4 : Nat) : Int)))) fun c91 => br c91 (lt (decide (x48 < 25)) fun c92 => K90 c92) (K90 false)
def g_tarnlaw13_only (fuel : Nat) (l2 : List TNode) (l4 : List Ttarnlaw13_Act) (p5 : Int) : Option Bool :=
  bd (g_tarnlaw13_heavy fuel l2 l4) fun t10 => br t10 (some true) (jn (bd (g_tarnlaw13_wakes fuel) fun t115 => some t115) fun K46 => g_tarnlaw13_only_l1 l4 fuel l2 p5 K46 fuel 0)
theorem g_tarnlaw13_only_w (fuel : Nat) (s1 : Value) (l2 : List TNode) (s3 : Value) (l4 : List Ttarnlaw13_Act) (p5 : Int) (r : Bool) (h : g_tarnlaw13_only fuel l2 l4 p5 = some r) (w0 : World) (hs1 : Rd fTNode (hp no w0) s1 l2) (hs3 : Rd fTtarnlaw13_Act (hp no w0) s3 l4) :
    Ret Try.prog 17 #[.agg #[s1, s3], vi p5] w0 (fun v w' => v = vb r ∧ St no w0 w' []) := by
  unfold g_tarnlaw13_only at h
  refine ret_of_wp Try.func17 rfl #[.agg #[s1, s3], vi p5, Z, Z, Z, Z, Z, Z, Z, Z, Z, Z, Z, Z, Z, Z, Z, Z, Z, Z, Z, Z, Z, Z, Z, Z, Z, Z, Z, Z, Z, Z, Z, Z, Z, Z, Z, Z, Z] (by kernel_rfl) ?_
  have H0 := St.start w0
  refine WP.seq ?_
  refine WP.region ?_
  refine WPI.op rfl (Op1.box H0 #[s1, s3] (by kernel_rfl) 25 (.tmp 0) rfl (by kernel_rfl) (fun b6 w8 H9 => ?_))
  refine WPI.run 1 ⟨#[.agg #[s1, s3], vi p5, vp b6 0, Z, vb false, Z, Z, Z, Z, Z, Z, Z, Z, Z, Z, Z, Z, Z, Z, Z, Z, Z, Z, Z, Z, Z, Z, Z, Z, Z, Z, Z, Z, Z, Z, Z, Z, Z, Z], []⟩ w8 (fun K => by kernel_rfl) ?_
  refine WPI.done rfl ?_
  refine then_n ?_
  refine WP.seq ?_
  refine WP.seq ?_
  refine WP.region ?_
  refine WPI.value (v := .agg #[s1, s3]) rfl (by kernel_rfl) (ev_loadBox H9 0 rfl 25 (.tmp 2) 0 (.agg #[s1, s3]) rfl (by kernel_rfl) (by kernel_rfl)) ?_
  obtain ⟨t10, ht10, h⟩ := bd_some h
  refine WPI.run 0 ⟨#[.agg #[s1, s3], vi p5, vp b6 0, Z, vb false, Z, Z, Z, Z, .agg #[s1, s3], Z, Z, Z, Z, Z, Z, Z, Z, Z, Z, Z, Z, Z, Z, Z, Z, Z, Z, Z, Z, Z, Z, Z, Z, Z, Z, Z, Z, Z], []⟩ w8 (fun K => by kernel_rfl) ?_
  refine WPI.op rfl (Op1.call (by kernel_rfl) (by kernel_rfl) (g_tarnlaw13_heavy_w fuel s1 l2 s3 l4 t10 ht10 _ (Rd.arg0 hs1 H9) (Rd.arg0 hs3 H9)) ?_)
  rintro _ w11 ⟨rfl, Hc12⟩
  have H13 := St.call0' H9 Hc12
  clear H9 Hc12
  refine WPI.run 0 ⟨#[.agg #[s1, s3], vi p5, vp b6 0, Z, vb false, Z, Z, Z, Z, .agg #[s1, s3], vb t10, Z, Z, Z, Z, Z, Z, Z, Z, Z, Z, Z, Z, Z, Z, Z, Z, Z, Z, Z, Z, Z, Z, Z, Z, Z, Z, Z, Z], []⟩ w11 (fun K => by kernel_rfl) ?_
  refine WPI.done rfl ?_
  refine then_n ?_
  cases t10 with
  | false =>
    replace h := br_f h
    refine WP.condF (by kernel_rfl) ?_
    refine WP.skip ?_
    refine then_n ?_
    refine WP.seq ?_
    refine WP.seq ?_
    refine WP.region ?_
    refine WPI.run 1 ⟨#[.agg #[s1, s3], vi p5, vp b6 0, Z, vb false, vi 0, Z, Z, Z, .agg #[s1, s3], vb false, Z, Z, Z, Z, Z, Z, Z, Z, Z, Z, Z, Z, Z, Z, Z, Z, Z, Z, Z, Z, Z, Z, Z, Z, Z, Z, Z, Z], []⟩ w11 (fun K => by kernel_rfl) ?_
    refine WPI.done rfl ?_
    refine then_n ?_
    obtain ⟨K46, hK46, h⟩ := jn_some h
    refine WP.blockJ (fun a w => ∃ (g14 : Value) (g15 : Value) (g16 : Value) (g17 : Value) (g18 : Value) (g19 : Value) (g20 : Value) (g21 : Value) (g22 : Value) (g23 : Value) (g24 : Value) (g25 : Value) (g26 : Value) (g27 : Value) (g28 : Value) (g29 : Value) (g30 : Value) (g31 : Value) (g32 : Value) (g33 : Value) (g34 : Value) (g35 : Value) (g36 : Value) (g37 : Value) (g38 : Value) (g39 : Value) (g40 : Value) (g41 : Value) (g42 : Value) (g43 : Value) (g44 : Value) (g45 : Value), a = ⟨#[.agg #[s1, s3], vi p5, vp b6 0, Z, g14, g15, g16, g17, g18, .agg #[s1, s3], vb false, g19, g20, g21, g22, g23, g24, g25, g26, g27, g28, g29, g30, g31, g32, g33, g34, g35, g36, g37, g38, g39, g40, g41, g42, g43, g44, g45, Z], []⟩ ∧ St no w0 w [Box b6 #[s1, s3] 25] ∧ K46 = some r) ?_ ?_
    · skip
      refine WP.loop (fun n a w => ∃ (x48 : Int) (g47 : Value) (g49 : Value) (g50 : Value) (g51 : Value) (g52 : Value) (g53 : Value) (g54 : Value) (g55 : Value) (g56 : Value) (g57 : Value) (g58 : Value) (g59 : Value) (g60 : Value) (g61 : Value) (g62 : Value) (g63 : Value) (g64 : Value) (g65 : Value) (g66 : Value) (g67 : Value) (g68 : Value) (g69 : Value) (g70 : Value) (g71 : Value) (g72 : Value) (g73 : Value) (g74 : Value) (g75 : Value) (g76 : Value) (g77 : Value) (g78 : Value), a = ⟨#[.agg #[s1, s3], vi p5, vp b6 0, Z, g47, vi x48, g49, g50, g51, .agg #[s1, s3], vb false, g52, g53, g54, g55, g56, g57, g58, g59, g60, g61, g62, g63, g64, g65, g66, g67, g68, g69, g70, g71, g72, g73, g74, g75, g76, g77, g78, Z], []⟩ ∧ St no w0 w [Box b6 #[s1, s3] 25] ∧ g_tarnlaw13_only_l1 l4 fuel l2 p5 K46 n x48 = some r) fuel ⟨0, _, _, _, _, _, _, _, _, _, _, _, _, _, _, _, _, _, _, _, _, _, _, _, _, _, _, _, _, _, _, _, rfl, St.sel H13 [0] (by decide) rfl, h⟩ ?_
      rintro n a w ⟨x48, g47, g49, g50, g51, g52, g53, g54, g55, g56, g57, g58, g59, g60, g61, g62, g63, g64, g65, g66, g67, g68, g69, g70, g71, g72, g73, g74, g75, g76, g77, g78, rfl, H, h⟩
      cases n with
      | zero => rw [g_tarnlaw13_only_l1] at h; cases h
      | succ n =>
        rw [g_tarnlaw13_only_l1] at h
        obtain ⟨w79, rfl⟩ : ∃ x, x = w := ⟨_, rfl⟩
        have H80 := H; clear H
        refine WP.seq ?_
        refine WP.seq ?_
        obtain ⟨K90, hK90, h⟩ := jn_some h
        refine WP.onlyN (fun a w => ∃ (c89 : Bool) (g81 : Value) (g82 : Value) (g83 : Value) (g84 : Value) (g85 : Value) (g86 : Value) (g87 : Value) (g88 : Value), a = ⟨#[.agg #[s1, s3], vi p5, vp b6 0, Z, g47, vi x48, g49, g50, g51, .agg #[s1, s3], vb false, g81, g82, g83, g84, g85, g86, g87, g88, vb c89, g61, g62, g63, g64, g65, g66, g67, g68, g69, g70, g71, g72, g73, g74, g75, g76, g77, g78, Z], []⟩ ∧ St no w0 w [Box b6 #[s1, s3] 25] ∧ K90 c89 = some r) ?_ ?_
        · skip
          refine WP.region ?_
          refine WPI.run 2 ⟨#[.agg #[s1, s3], vi p5, vp b6 0, Z, g47, vi x48, g49, g50, g51, .agg #[s1, s3], vb false, vi x48, vp b6 1, g54, g55, g56, g57, g58, g59, g60, g61, g62, g63, g64, g65, g66, g67, g68, g69, g70, g71, g72, g73, g74, g75, g76, g77, g78, Z], []⟩ w79 (fun K => by kernel_rfl) ?_
          refine WPI.value (v := s3) rfl (by kernel_rfl) (ev_loadBox H80 0 rfl 23 (.tmp 12) 1 (s3) rfl (by kernel_rfl) (by kernel_rfl)) ?_
          refine WPI.run 0 ⟨#[.agg #[s1, s3], vi p5, vp b6 0, Z, g47, vi x48, g49, g50, g51, .agg #[s1, s3], vb false, vi x48, vp b6 1, s3, g55, g56, g57, g58, g59, g60, g61, g62, g63, g64, g65, g66, g67, g68, g69, g70, g71, g72, g73, g74, g75, g76, g77, g78, Z], []⟩ w79 (fun K => by kernel_rfl) ?_
          refine WPI.value (v := vi (((List.length l4 : Nat) : Int))) rfl (by kernel_rfl) (ev_len (Rd.sl hs3) 23 (.tmp 13) 45 7 56 rfl (by kernel_rfl) (by kernel_rfl)) ?_
          obtain ⟨c91, hc91, h⟩ := lt_some h
          refine WPI.run 2 ⟨#[.agg #[s1, s3], vi p5, vp b6 0, Z, g47, vi x48, g49, g50, g51, .agg #[s1, s3], vb false, vi x48, vp b6 1, s3, vi (((List.length l4 : Nat) : Int)), vb c91, vb c91, g58, g59, g60, g61, g62, g63, g64, g65, g66, g67, g68, g69, g70, g71, g72, g73, g74, g75, g76, g77, g78, Z], []⟩ w79 (fun K => by subst hc91; kernel_rfl) ?_
          cases c91 with
          | false =>
            replace h := br_f h
            refine WPI.run 3 ⟨#[.agg #[s1, s3], vi p5, vp b6 0, Z, g47, vi x48, g49, g50, g51, .agg #[s1, s3], vb false, vi x48, vp b6 1, s3, vi (((List.length l4 : Nat) : Int)), vb false, vb false, Z, Z, vb false, g61, g62, g63, g64, g65, g66, g67, g68, g69, g70, g71, g72, g73, g74, g75, g76, g77, g78, Z], []⟩ w79 (fun K => by kernel_rfl) ?_
            refine WPI.done rfl ?_
            exact ⟨false, _, _, _, _, _, _, _, _, rfl, St.sel H80 [0] (by decide) rfl, h⟩
          | true =>
            replace h := br_t h
            obtain ⟨c92, hc92, h⟩ := lt_some h
            refine WPI.run 3 ⟨#[.agg #[s1, s3], vi p5, vp b6 0, Z, g47, vi x48, g49, g50, g51, .agg #[s1, s3], vb false, vi x48, vp b6 1, s3, vi (((List.length l4 : Nat) : Int)), vb true, vb true, vi x48, vb c92, vb c92, g61, g62, g63, g64, g65, g66, g67, g68, g69, g70, g71, g72, g73, g74, g75, g76, g77, g78, Z], []⟩ w79 (fun K => by subst hc92; kernel_rfl) ?_
            refine WPI.done rfl ?_
            exact ⟨c92, _, _, _, _, _, _, _, _, rfl, St.sel H80 [0] (by decide) rfl, h⟩
        · rintro a w ⟨c89, g81, g82, g83, g84, g85, g86, g87, g88, rfl, H, h⟩
          subst hK90
          obtain ⟨w93, rfl⟩ : ∃ x, x = w := ⟨_, rfl⟩
          have H94 := H; clear H
          refine then_n ?_
          cases c89 with
          | false =>
            replace h := br_f h
            refine WP.condF (by kernel_rfl) ?_
            refine WP.exit ?_
            exact then_e (then_e (inb_e (then_n ⟨_, _, _, _, _, _, _, _, _, _, _, _, _, _, _, _, _, _, _, _, _, _, _, _, _, _, _, _, _, _, _, _, rfl, St.sel H94 [0] (by decide) rfl, h⟩)))
          | true =>
            replace h := br_t h
            refine WP.condT (by kernel_rfl) ?_
            refine WP.skip ?_
            refine then_n ?_
            refine WP.seq ?_
            refine WP.block ?_
            refine WP.seq ?_
            refine WP.region ?_
            refine WPI.run 1 ⟨#[.agg #[s1, s3], vi p5, vp b6 0, Z, g47, vi x48, g49, g50, g51, .agg #[s1, s3], vb false, g81, g82, g83, g84, g85, g86, g87, g88, vb true, g61, g62, vp b6 1, g64, g65, g66, g67, g68, g69, g70, g71, g72, g73, g74, g75, g76, g77, g78, Z], []⟩ w93 (fun K => by kernel_rfl) ?_
            refine WPI.value (v := s3) rfl (by kernel_rfl) (ev_loadBox H94 0 rfl 23 (.tmp 22) 1 (s3) rfl (by kernel_rfl) (by kernel_rfl)) ?_
            obtain ⟨hg95, h⟩ := gd_some h
            refine WPI.run 1 ⟨#[.agg #[s1, s3], vi p5, vp b6 0, Z, g47, vi x48, g49, g50, g51, .agg #[s1, s3], vb false, g81, g82, g83, g84, g85, g86, g87, g88, vb true, g61, g62, vp b6 1, s3, vi x48, g66, g67, g68, g69, g70, g71, g72, g73, g74, g75, g76, g77, g78, Z], []⟩ w93 (fun K => by kernel_rfl) ?_
            refine WPI.value (v := va (slAt s3 7 (Int.toNat x48))) rfl (by kernel_rfl) (ev_index (Rd.sl hs3) 23 (.tmp 23) (.tmp 24) 45 7 56 .i64 x48 rfl (by kernel_rfl) (by kernel_rfl) (by kernel_rfl) hg95) ?_
            obtain ⟨x96, hx96, h⟩ := bd_some h
            refine WPI.run 0 ⟨#[.agg #[s1, s3], vi p5, vp b6 0, Z, g47, vi x48, g49, g50, g51, .agg #[s1, s3], vb false, g81, g82, g83, g84, g85, g86, g87, g88, vb true, g61, g62, vp b6 1, s3, vi x48, va (slAt s3 7 (Int.toNat x48)), g67, g68, g69, g70, g71, g72, g73, g74, g75, g76, g77, g78, Z], []⟩ w93 (fun K => by kernel_rfl) ?_
            refine WPI.value (v := Ttarnlaw13_Act.val x96) rfl (by kernel_rfl) (ev_loadEl (F := fTtarnlaw13_Act) hs3 (St.hp_le H94) hx96 45 (.tmp 25) 0 (Ttarnlaw13_Act.val x96) rfl (by kernel_rfl) (by kernel_rfl)) ?_
            refine WPI.run 0 ⟨#[.agg #[s1, s3], vi p5, vp b6 0, Z, g47, vi x48, g49, g50, g51, .agg #[s1, s3], vb false, g81, g82, g83, g84, g85, g86, g87, g88, vb true, g61, g62, vp b6 1, s3, vi x48, va (slAt s3 7 (Int.toNat x48)), Ttarnlaw13_Act.val x96, g68, g69, g70, g71, g72, g73, g74, g75, g76, g77, g78, Z], []⟩ w93 (fun K => by kernel_rfl) ?_
            refine WPI.op rfl (Op1.alloc H94 #[vi 0, vi 0, vi 0, vu 0, vu 0, vu 0, vu 0] (by kernel_rfl) 45 rfl (by kernel_rfl) (fun b97 w99 H100 => ?_))
            clear H94
            refine WPI.run 0 ⟨#[.agg #[s1, s3], vi p5, vp b6 0, Z, g47, vi x48, vp b97 0, g50, g51, .agg #[s1, s3], vb false, g81, g82, g83, g84, g85, g86, g87, g88, vb true, g61, g62, vp b6 1, s3, vi x48, va (slAt s3 7 (Int.toNat x48)), Ttarnlaw13_Act.val x96, g68, g69, g70, g71, g72, g73, g74, g75, g76, g77, g78, Z], []⟩ w99 (fun K => by kernel_rfl) ?_
            refine WPI.op rfl (Op1.storeBox H100 0 rfl (by kernel_rfl) 45 (.tmp 6) (.tmp 26) 0 (Ttarnlaw13_Act.val x96) (Ttarnlaw13_Act.cs x96).toArray true rfl (by kernel_rfl) (by kernel_rfl) (by kernel_rfl) (by kernel_rfl) (by kernel_rfl) (flat_one1 fTtarnlaw13_Act x96) (fun w101 H102 => ?_))
            clear H100
            refine WPI.run 0 ⟨#[.agg #[s1, s3], vi p5, vp b6 0, Z, g47, vi x48, vp b97 0, g50, g51, .agg #[s1, s3], vb false, g81, g82, g83, g84, g85, g86, g87, g88, vb true, g61, g62, vp b6 1, s3, vi x48, va (slAt s3 7 (Int.toNat x48)), Ttarnlaw13_Act.val x96, g68, g69, g70, g71, g72, g73, g74, g75, g76, g77, g78, Z], []⟩ w101 (fun K => by kernel_rfl) ?_
            refine WPI.done rfl ?_
            refine then_n ?_
            refine WP.seq ?_
            refine WP.region ?_
            refine WPI.run 2 ⟨#[.agg #[s1, s3], vi p5, vp b6 0, Z, g47, vi x48, vp b97 0, g50, g51, .agg #[s1, s3], vb false, g81, g82, g83, g84, g85, g86, g87, g88, vb true, g61, g62, vp b6 1, s3, vi x48, va (slAt s3 7 (Int.toNat x48)), Ttarnlaw13_Act.val x96, vi p5, vp b97 0, g70, g71, g72, g73, g74, g75, g76, g77, g78, Z], []⟩ w101 (fun K => by kernel_rfl) ?_
            refine WPI.op rfl (Op1.storeBox H102 0 rfl (by kernel_rfl) 3 (.tmp 28) (.tmp 27) 0 (vi p5) #[vi p5, vi x96.N.Acct, vi x96.N.Rank.Dist, vu x96.N.Rank.Tip.e0, vu x96.N.Rank.Tip.e1, vu x96.N.Rank.Tip.e2, vu x96.N.Rank.Tip.e3] false rfl (by kernel_rfl) (by kernel_rfl) (by kernel_rfl) (by kernel_rfl) (by kernel_rfl) (flat_one1 fI64 p5) (fun w103 H104 => ?_))
            clear H102
            refine WPI.run 0 ⟨#[.agg #[s1, s3], vi p5, vp b6 0, Z, g47, vi x48, vp b97 0, g50, g51, .agg #[s1, s3], vb false, g81, g82, g83, g84, g85, g86, g87, g88, vb true, g61, g62, vp b6 1, s3, vi x48, va (slAt s3 7 (Int.toNat x48)), Ttarnlaw13_Act.val x96, vi p5, vp b97 0, g70, g71, g72, g73, g74, g75, g76, g77, g78, Z], []⟩ w103 (fun K => by kernel_rfl) ?_
            refine WPI.done rfl ?_
            refine then_n ?_
            refine WP.seq ?_
            refine WP.region ?_
            refine WPI.run 1 ⟨#[.agg #[s1, s3], vi p5, vp b6 0, Z, g47, vi x48, vp b97 0, g50, g51, .agg #[s1, s3], vb false, g81, g82, g83, g84, g85, g86, g87, g88, vb true, g61, g62, vp b6 1, s3, vi x48, va (slAt s3 7 (Int.toNat x48)), Ttarnlaw13_Act.val x96, vi p5, vp b97 0, g70, vp b6 0, g72, g73, g74, g75, g76, g77, g78, Z], []⟩ w103 (fun K => by kernel_rfl) ?_
            refine WPI.value (v := s1) rfl (by kernel_rfl) (ev_loadBox H104 1 rfl 22 (.tmp 30) 0 (s1) rfl (by kernel_rfl) (by kernel_rfl)) ?_
            refine WPI.run 0 ⟨#[.agg #[s1, s3], vi p5, vp b6 0, Z, g47, vi x48, vp b97 0, g50, g51, .agg #[s1, s3], vb false, g81, g82, g83, g84, g85, g86, g87, g88, vb true, g61, g62, vp b6 1, s3, vi x48, va (slAt s3 7 (Int.toNat x48)), Ttarnlaw13_Act.val x96, vi p5, vp b97 0, g70, vp b6 0, s1, g73, g74, g75, g76, g77, g78, Z], []⟩ w103 (fun K => by kernel_rfl) ?_
            refine WPI.value (v := .agg #[vi p5, vi x96.N.Acct, vi x96.N.Rank.Dist, vu x96.N.Rank.Tip.e0, vu x96.N.Rank.Tip.e1, vu x96.N.Rank.Tip.e2, vu x96.N.Rank.Tip.e3]) rfl (by kernel_rfl) (ev_loadBox H104 0 rfl 45 (.tmp 6) 0 (.agg #[vi p5, vi x96.N.Acct, vi x96.N.Rank.Dist, vu x96.N.Rank.Tip.e0, vu x96.N.Rank.Tip.e1, vu x96.N.Rank.Tip.e2, vu x96.N.Rank.Tip.e3]) rfl (by kernel_rfl) (by kernel_rfl)) ?_
            obtain ⟨t105, ht105, h⟩ := bd_some h
            refine WPI.run 0 ⟨#[.agg #[s1, s3], vi p5, vp b6 0, Z, g47, vi x48, vp b97 0, g50, g51, .agg #[s1, s3], vb false, g81, g82, g83, g84, g85, g86, g87, g88, vb true, g61, g62, vp b6 1, s3, vi x48, va (slAt s3 7 (Int.toNat x48)), Ttarnlaw13_Act.val x96, vi p5, vp b97 0, g70, vp b6 0, s1, .agg #[vi p5, vi x96.N.Acct, vi x96.N.Rank.Dist, vu x96.N.Rank.Tip.e0, vu x96.N.Rank.Tip.e1, vu x96.N.Rank.Tip.e2, vu x96.N.Rank.Tip.e3], g74, g75, g76, g77, g78, Z], []⟩ w103 (fun K => by kernel_rfl) ?_
            refine WPI.op rfl (Op1.call (by kernel_rfl) (by kernel_rfl) (g_tarnlaw13_step_w fuel s1 l2 (Ttarnlaw13_Act.mk p5 x96.N) t105 ht105 _ (Rd.arg0 hs1 H104)) ?_)
            rintro _ w108 ⟨s106, rfl, hr107, Hc109⟩
            have H110 := St.call0' H104 Hc109
            clear H104 Hc109
            refine WPI.run 5 ⟨#[.agg #[s1, s3], vi p5, vp b6 0, Z, g47, vi x48, vp b97 0, s106, vb t105.2, .agg #[s1, s3], vb false, g81, g82, g83, g84, g85, g86, g87, g88, vb true, g61, g62, vp b6 1, s3, vi x48, va (slAt s3 7 (Int.toNat x48)), Ttarnlaw13_Act.val x96, vi p5, vp b97 0, .tuple #[s106, vb t105.2], vp b6 0, s1, .agg #[vi p5, vi x96.N.Acct, vi x96.N.Rank.Dist, vu x96.N.Rank.Tip.e0, vu x96.N.Rank.Tip.e1, vu x96.N.Rank.Tip.e2, vu x96.N.Rank.Tip.e3], .tuple #[s106, vb t105.2], s106, vb t105.2, g77, g78, Z], []⟩ w108 (fun K => by kernel_rfl) ?_
            refine WPI.done rfl ?_
            refine then_n ?_
            refine WP.seq ?_
            refine WP.region ?_
            obtain ⟨c111, hc111, h⟩ := lt_some h
            refine WPI.run 2 ⟨#[.agg #[s1, s3], vi p5, vp b6 0, Z, g47, vi x48, vp b97 0, s106, vb t105.2, .agg #[s1, s3], vb false, g81, g82, g83, g84, g85, g86, g87, g88, vb true, g61, g62, vp b6 1, s3, vi x48, va (slAt s3 7 (Int.toNat x48)), Ttarnlaw13_Act.val x96, vi p5, vp b97 0, .tuple #[s106, vb t105.2], vp b6 0, s1, .agg #[vi p5, vi x96.N.Acct, vi x96.N.Rank.Dist, vu x96.N.Rank.Tip.e0, vu x96.N.Rank.Tip.e1, vu x96.N.Rank.Tip.e2, vu x96.N.Rank.Tip.e3], .tuple #[s106, vb t105.2], s106, vb t105.2, vb t105.2, vb c111, Z], []⟩ w108 (fun K => by subst hc111; kernel_rfl) ?_
            refine WPI.done rfl ?_
            refine then_n ?_
            cases c111 with
            | false =>
              replace h := br_f h
              refine WP.condF (by kernel_rfl) ?_
              refine WP.skip ?_
              refine inb_n (then_n ?_)
              refine WP.region ?_
              obtain ⟨x112, hx112, h⟩ := lt_some h
              refine WPI.run 3 ⟨#[.agg #[s1, s3], vi p5, vp b6 0, Z, g47, vi x112, vp b97 0, s106, vb t105.2, .agg #[s1, s3], vb false, g81, g82, g83, g84, g85, g86, g87, g88, vb true, vi x48, vi x112, vp b6 1, s3, vi x48, va (slAt s3 7 (Int.toNat x48)), Ttarnlaw13_Act.val x96, vi p5, vp b97 0, .tuple #[s106, vb t105.2], vp b6 0, s1, .agg #[vi p5, vi x96.N.Acct, vi x96.N.Rank.Dist, vu x96.N.Rank.Tip.e0, vu x96.N.Rank.Tip.e1, vu x96.N.Rank.Tip.e2, vu x96.N.Rank.Tip.e3], .tuple #[s106, vb t105.2], s106, vb t105.2, vb t105.2, vb false, Z], []⟩ w108 (fun K => by subst hx112; kernel_rfl) ?_
              refine WPI.done rfl ?_
              exact then_n ⟨n, Nat.lt_succ_self n, x112, _, _, _, _, _, _, _, _, _, _, _, _, _, _, _, _, _, _, _, _, _, _, _, _, _, _, _, _, _, _, _, rfl, St.sel H110 [1] (by decide) rfl, h⟩
            | true =>
              replace h := br_t h
              refine WP.condT (by kernel_rfl) ?_
              refine WP.seq ?_
              refine WP.region ?_
              refine WPI.run 1 ⟨#[.agg #[s1, s3], vi p5, vp b6 0, Z, vb false, vi x48, vp b97 0, s106, vb t105.2, .agg #[s1, s3], vb false, g81, g82, g83, g84, g85, g86, g87, g88, vb true, g61, g62, vp b6 1, s3, vi x48, va (slAt s3 7 (Int.toNat x48)), Ttarnlaw13_Act.val x96, vi p5, vp b97 0, .tuple #[s106, vb t105.2], vp b6 0, s1, .agg #[vi p5, vi x96.N.Acct, vi x96.N.Rank.Dist, vu x96.N.Rank.Tip.e0, vu x96.N.Rank.Tip.e1, vu x96.N.Rank.Tip.e2, vu x96.N.Rank.Tip.e3], .tuple #[s106, vb t105.2], s106, vb t105.2, vb t105.2, vb true, Z], []⟩ w108 (fun K => by kernel_rfl) ?_
              refine WPI.done rfl ?_
              refine then_n ?_
              refine WP.ret ?_
              obtain rfl := Option.some.inj h
              exact inb_r (then_r (then_r (inb_r (then_r (then_r (post_r (vb false) rfl (by kernel_rfl) ⟨rfl, St.sel H110 [] (by decide) rfl⟩))))))
    · rintro a w ⟨g14, g15, g16, g17, g18, g19, g20, g21, g22, g23, g24, g25, g26, g27, g28, g29, g30, g31, g32, g33, g34, g35, g36, g37, g38, g39, g40, g41, g42, g43, g44, g45, rfl, H, h⟩
      subst hK46
      obtain ⟨w113, rfl⟩ : ∃ x, x = w := ⟨_, rfl⟩
      have H114 := H; clear H
      refine then_n ?_
      refine WP.seq ?_
      refine WP.region ?_
      obtain ⟨t115, ht115, h⟩ := bd_some h
      refine WPI.op rfl (Op1.call (by kernel_rfl) (by kernel_rfl) (g_tarnlaw13_wakes_w fuel t115 ht115 _) ?_)
      rintro _ w116 ⟨rfl, Hc117⟩
      have H118 := St.call0' H114 Hc117
      clear H114 Hc117
      refine WPI.run 1 ⟨#[.agg #[s1, s3], vi p5, vp b6 0, Z, vb t115, g15, g16, g17, g18, .agg #[s1, s3], vb false, g19, g20, g21, g22, g23, g24, g25, g26, g27, g28, g29, g30, g31, g32, g33, g34, g35, g36, g37, g38, g39, g40, g41, g42, g43, g44, g45, vb t115], []⟩ w116 (fun K => by kernel_rfl) ?_
      refine WPI.done rfl ?_
      refine then_n ?_
      refine WP.ret ?_
      obtain rfl := Option.some.inj h
      exact post_r (vb t115) rfl (by kernel_rfl) ⟨rfl, St.sel H118 [] (by decide) rfl⟩
  | true =>
    replace h := br_t h
    refine WP.condT (by kernel_rfl) ?_
    refine WP.seq ?_
    refine WP.region ?_
    refine WPI.run 1 ⟨#[.agg #[s1, s3], vi p5, vp b6 0, Z, vb true, Z, Z, Z, Z, .agg #[s1, s3], vb true, Z, Z, Z, Z, Z, Z, Z, Z, Z, Z, Z, Z, Z, Z, Z, Z, Z, Z, Z, Z, Z, Z, Z, Z, Z, Z, Z, Z], []⟩ w11 (fun K => by kernel_rfl) ?_
    refine WPI.done rfl ?_
    refine then_n ?_
    refine WP.ret ?_
    obtain rfl := Option.some.inj h
    exact then_r (post_r (vb true) rfl (by kernel_rfl) ⟨rfl, St.sel H13 [] (by decide) rfl⟩)
/- tarn/tarnlaw13.HeapPushes -/
def g_tarnlaw13_HeapPushes (fuel : Nat) (l2 : List TNode) (l4 : List Ttarnlaw13_Act) : Option Bool :=
  bd (g_tarnlaw13_only fuel l2 l4 0) fun t9 => some t9
theorem g_tarnlaw13_HeapPushes_w (fuel : Nat) (s1 : Value) (l2 : List TNode) (s3 : Value) (l4 : List Ttarnlaw13_Act) (r : Bool) (h : g_tarnlaw13_HeapPushes fuel l2 l4 = some r) (w0 : World) (hs1 : Rd fTNode (hp no w0) s1 l2) (hs3 : Rd fTtarnlaw13_Act (hp no w0) s3 l4) :
    Ret Try.prog 4 #[.agg #[s1, s3]] w0 (fun v w' => v = vb r ∧ St no w0 w' []) := by
  unfold g_tarnlaw13_HeapPushes at h
  refine ret_of_wp Try.func4 rfl #[.agg #[s1, s3], Z, Z, Z, Z] (by kernel_rfl) ?_
  have H0 := St.start w0
  refine WP.seq ?_
  refine WP.region ?_
  refine WPI.op rfl (Op1.box H0 #[s1, s3] (by kernel_rfl) 25 (.tmp 0) rfl (by kernel_rfl) (fun b5 w7 H8 => ?_))
  refine WPI.run 1 ⟨#[.agg #[s1, s3], vp b5 0, vb false, Z, Z], []⟩ w7 (fun K => by kernel_rfl) ?_
  refine WPI.done rfl ?_
  refine then_n ?_
  refine WP.seq ?_
  refine WP.region ?_
  refine WPI.value (v := .agg #[s1, s3]) rfl (by kernel_rfl) (ev_loadBox H8 0 rfl 25 (.tmp 1) 0 (.agg #[s1, s3]) rfl (by kernel_rfl) (by kernel_rfl)) ?_
  obtain ⟨t9, ht9, h⟩ := bd_some h
  refine WPI.run 0 ⟨#[.agg #[s1, s3], vp b5 0, vb false, .agg #[s1, s3], Z], []⟩ w7 (fun K => by kernel_rfl) ?_
  refine WPI.op rfl (Op1.call (by kernel_rfl) (by kernel_rfl) (g_tarnlaw13_only_w fuel s1 l2 s3 l4 0 t9 ht9 _ (Rd.arg0 hs1 H8) (Rd.arg0 hs3 H8)) ?_)
  rintro _ w10 ⟨rfl, Hc11⟩
  have H12 := St.call0' H8 Hc11
  clear H8 Hc11
  refine WPI.run 1 ⟨#[.agg #[s1, s3], vp b5 0, vb t9, .agg #[s1, s3], vb t9], []⟩ w10 (fun K => by kernel_rfl) ?_
  refine WPI.done rfl ?_
  refine then_n ?_
  refine WP.ret ?_
  obtain rfl := Option.some.inj h
  exact post_r (vb t9) rfl (by kernel_rfl) ⟨rfl, St.sel H12 [] (by decide) rfl⟩
/- tarn/tarnlaw13.HeapSets -/
def g_tarnlaw13_HeapSets (fuel : Nat) (l2 : List TNode) (l4 : List Ttarnlaw13_Act) : Option Bool :=
  bd (g_tarnlaw13_only fuel l2 l4 2) fun t9 => some t9
theorem g_tarnlaw13_HeapSets_w (fuel : Nat) (s1 : Value) (l2 : List TNode) (s3 : Value) (l4 : List Ttarnlaw13_Act) (r : Bool) (h : g_tarnlaw13_HeapSets fuel l2 l4 = some r) (w0 : World) (hs1 : Rd fTNode (hp no w0) s1 l2) (hs3 : Rd fTtarnlaw13_Act (hp no w0) s3 l4) :
    Ret Try.prog 5 #[.agg #[s1, s3]] w0 (fun v w' => v = vb r ∧ St no w0 w' []) := by
  unfold g_tarnlaw13_HeapSets at h
  refine ret_of_wp Try.func5 rfl #[.agg #[s1, s3], Z, Z, Z, Z] (by kernel_rfl) ?_
  have H0 := St.start w0
  refine WP.seq ?_
  refine WP.region ?_
  refine WPI.op rfl (Op1.box H0 #[s1, s3] (by kernel_rfl) 25 (.tmp 0) rfl (by kernel_rfl) (fun b5 w7 H8 => ?_))
  refine WPI.run 1 ⟨#[.agg #[s1, s3], vp b5 0, vb false, Z, Z], []⟩ w7 (fun K => by kernel_rfl) ?_
  refine WPI.done rfl ?_
  refine then_n ?_
  refine WP.seq ?_
  refine WP.region ?_
  refine WPI.value (v := .agg #[s1, s3]) rfl (by kernel_rfl) (ev_loadBox H8 0 rfl 25 (.tmp 1) 0 (.agg #[s1, s3]) rfl (by kernel_rfl) (by kernel_rfl)) ?_
  obtain ⟨t9, ht9, h⟩ := bd_some h
  refine WPI.run 0 ⟨#[.agg #[s1, s3], vp b5 0, vb false, .agg #[s1, s3], Z], []⟩ w7 (fun K => by kernel_rfl) ?_
  refine WPI.op rfl (Op1.call (by kernel_rfl) (by kernel_rfl) (g_tarnlaw13_only_w fuel s1 l2 s3 l4 2 t9 ht9 _ (Rd.arg0 hs1 H8) (Rd.arg0 hs3 H8)) ?_)
  rintro _ w10 ⟨rfl, Hc11⟩
  have H12 := St.call0' H8 Hc11
  clear H8 Hc11
  refine WPI.run 1 ⟨#[.agg #[s1, s3], vp b5 0, vb t9, .agg #[s1, s3], vb t9], []⟩ w10 (fun K => by kernel_rfl) ?_
  refine WPI.done rfl ?_
  refine then_n ?_
  refine WP.ret ?_
  obtain rfl := Option.some.inj h
  exact post_r (vb t9) rfl (by kernel_rfl) ⟨rfl, St.sel H12 [] (by decide) rfl⟩
/- tarn/tarnlaw13.HeapDrops -/
def g_tarnlaw13_HeapDrops (fuel : Nat) (l2 : List TNode) (l4 : List Ttarnlaw13_Act) : Option Bool :=
  bd (g_tarnlaw13_only fuel l2 l4 4) fun t9 => some t9
theorem g_tarnlaw13_HeapDrops_w (fuel : Nat) (s1 : Value) (l2 : List TNode) (s3 : Value) (l4 : List Ttarnlaw13_Act) (r : Bool) (h : g_tarnlaw13_HeapDrops fuel l2 l4 = some r) (w0 : World) (hs1 : Rd fTNode (hp no w0) s1 l2) (hs3 : Rd fTtarnlaw13_Act (hp no w0) s3 l4) :
    Ret Try.prog 6 #[.agg #[s1, s3]] w0 (fun v w' => v = vb r ∧ St no w0 w' []) := by
  unfold g_tarnlaw13_HeapDrops at h
  refine ret_of_wp Try.func6 rfl #[.agg #[s1, s3], Z, Z, Z, Z] (by kernel_rfl) ?_
  have H0 := St.start w0
  refine WP.seq ?_
  refine WP.region ?_
  refine WPI.op rfl (Op1.box H0 #[s1, s3] (by kernel_rfl) 25 (.tmp 0) rfl (by kernel_rfl) (fun b5 w7 H8 => ?_))
  refine WPI.run 1 ⟨#[.agg #[s1, s3], vp b5 0, vb false, Z, Z], []⟩ w7 (fun K => by kernel_rfl) ?_
  refine WPI.done rfl ?_
  refine then_n ?_
  refine WP.seq ?_
  refine WP.region ?_
  refine WPI.value (v := .agg #[s1, s3]) rfl (by kernel_rfl) (ev_loadBox H8 0 rfl 25 (.tmp 1) 0 (.agg #[s1, s3]) rfl (by kernel_rfl) (by kernel_rfl)) ?_
  obtain ⟨t9, ht9, h⟩ := bd_some h
  refine WPI.run 0 ⟨#[.agg #[s1, s3], vp b5 0, vb false, .agg #[s1, s3], Z], []⟩ w7 (fun K => by kernel_rfl) ?_
  refine WPI.op rfl (Op1.call (by kernel_rfl) (by kernel_rfl) (g_tarnlaw13_only_w fuel s1 l2 s3 l4 4 t9 ht9 _ (Rd.arg0 hs1 H8) (Rd.arg0 hs3 H8)) ?_)
  rintro _ w10 ⟨rfl, Hc11⟩
  have H12 := St.call0' H8 Hc11
  clear H8 Hc11
  refine WPI.run 1 ⟨#[.agg #[s1, s3], vp b5 0, vb t9, .agg #[s1, s3], vb t9], []⟩ w10 (fun K => by kernel_rfl) ?_
  refine WPI.done rfl ?_
  refine then_n ?_
  refine WP.ret ?_
  obtain rfl := Option.some.inj h
  exact post_r (vb t9) rfl (by kernel_rfl) ⟨rfl, St.sel H12 [] (by decide) rfl⟩
end Go.Proofs
