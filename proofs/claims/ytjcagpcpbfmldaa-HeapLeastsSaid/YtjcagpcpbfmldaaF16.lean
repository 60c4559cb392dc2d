import Derived.Test.YtjcagpcpbfmldaaGw
import Derived.Test.YtjcagpcpbfmldaaProg
import Derived.Test.YtjcagpcpbfmldaaT
import Derived.Test.YtjcagpcpbfmldaaF21
import Derived.Test.YtjcagpcpbfmldaaF12
import Derived.Test.YtjcagpcpbfmldaaF15
set_option linter.unusedVariables false
set_option linter.unusedSimpArgs false
set_option maxRecDepth 100000
set_option maxHeartbeats 4000000
namespace Go.Proofs
open Gw Go.RowKit
/- tarn/tarnlaw13.wakes -/
def g_tarnlaw13_wakes (fuel : Nat)  : Option Bool :=
  bd (g_heap_Push fuel [] (TNode.mk 0 (TRank.mk 0 (TU256.mk 0 0 0 0)))) fun t1 => bd (g_heap_Push fuel t1.1 (TNode.mk 1 (TRank.mk ((-1)) (TU256.mk 0 0 0 0)))) fun t8 => bd (g_heap_Least fuel t8.1) fun t15 => jn (fun (c25 : Bool) => some c25) fun K44 => bd (g_tarnlaw13_num fuel t1.2) fun t45 => lt (t45 == 0) fun c49 => br c49 (bd (g_tarnlaw13_num fuel t8.2) fun t50 => lt (t50 == 0) fun c54 => br c54 (bd (g_tarnlaw13_num fuel t15.2) fun t55 => lt (t55 == 0) fun c59 => br c59 (lt (t15.1.Acct == 1) fun c60 => K44 c60) (K44 false)) (K44 false)) (K44 false)
theorem g_tarnlaw13_wakes_w (fuel : Nat)  (r : Bool) (h : g_tarnlaw13_wakes fuel = some r) (w0 : World) :
    Ret Try.prog 16 #[] w0 (fun v w' => v = vb r ∧ St no w0 w' []) := by
  unfold g_tarnlaw13_wakes at h
  refine ret_of_wp Try.func16 rfl #[Z, Z, Z, Z, Z, Z, Z, Z, Z, Z, Z, Z, Z, Z, Z, Z, Z, Z, Z, Z, Z, Z, Z, Z, Z, Z, Z, Z, Z, Z, Z, Z, Z, Z, Z, Z, Z, Z, Z, Z, Z] (by kernel_rfl) ?_
  have H0 := St.start w0
  refine WP.seq ?_
  refine WP.region ?_
  refine WPI.run 1 ⟨#[vb false, Z, Z, Z, Z, Z, Z, Z, Z, Z, Z, Z, Z, Z, Z, Z, Z, Z, Z, Z, Z, Z, Z, Z, Z, Z, Z, Z, Z, Z, Z, Z, Z, Z, Z, Z, Z, Z, Z, Z, Z], []⟩ w0 (fun K => by kernel_rfl) ?_
  refine WPI.done rfl ?_
  refine then_n ?_
  refine WP.seq ?_
  refine WP.region ?_
  obtain ⟨t1, ht1, h⟩ := bd_some h
  refine WPI.run 1 ⟨#[vb false, Z, Z, Z, Z, Z, Z, .agg #[vi 0, vi 0, vu 0, vu 0, vu 0, vu 0], Z, Z, Z, Z, Z, Z, Z, Z, Z, Z, Z, Z, Z, Z, Z, Z, Z, Z, Z, Z, Z, Z, Z, Z, Z, Z, Z, Z, Z, Z, Z, Z, Z], []⟩ w0 (fun K => by kernel_rfl) ?_
  refine WPI.op rfl (Op1.call (by kernel_rfl) (by kernel_rfl) (g_heap_Push_w fuel vn [] (TNode.mk 0 (TRank.mk 0 (TU256.mk 0 0 0 0))) t1 ht1 _ (Rd.nil _ _)) ?_)
  rintro _ w5 ⟨s2, rfl, Hc6⟩
  have H7 := St.call0 H0 Hc6
  clear Hc6
  have sf4 := Own.isSl (St.get H7 0 rfl)
  refine WPI.run 5 ⟨#[vb false, s2, vi t1.2, Z, Z, Z, .tuple #[s2, vi t1.2], .agg #[vi 0, vi 0, vu 0, vu 0, vu 0, vu 0], .tuple #[s2, vi t1.2], s2, vi t1.2, Z, Z, Z, Z, Z, Z, Z, Z, Z, Z, Z, Z, Z, Z, Z, Z, Z, Z, Z, Z, Z, Z, Z, Z, Z, Z, Z, Z, Z, Z], []⟩ w5 (fun K => by kernel_rfl) ?_
  refine WPI.done rfl ?_
  refine then_n ?_
  refine WP.seq ?_
  refine WP.region ?_
  obtain ⟨t8, ht8, h⟩ := bd_some h
  refine WPI.run 3 ⟨#[vb false, s2, vi t1.2, Z, Z, Z, .tuple #[s2, vi t1.2], .agg #[vi 0, vi 0, vu 0, vu 0, vu 0, vu 0], .tuple #[s2, vi t1.2], s2, vi t1.2, Z, s2, .agg #[vi ((-1)), vu 0, vu 0, vu 0, vu 0], .agg #[vi 1, vi ((-1)), vu 0, vu 0, vu 0, vu 0], Z, Z, Z, Z, Z, Z, Z, Z, Z, Z, Z, Z, Z, Z, Z, Z, Z, Z, Z, Z, Z, Z, Z, Z, Z, Z], []⟩ w5 (fun K => by kernel_rfl) ?_
  refine WPI.op rfl (Op1.call (by kernel_rfl) (by kernel_rfl) (g_heap_Push_w fuel s2 t1.1 (TNode.mk 1 (TRank.mk ((-1)) (TU256.mk 0 0 0 0))) t8 ht8 _ (St.rd H7 0 rfl)) ?_)
  rintro _ w12 ⟨s9, rfl, Hc13⟩
  have H14 := St.call0 H7 Hc13
  clear H7 Hc13
  have sf11 := Own.isSl (St.get H14 0 rfl)
  refine WPI.run 5 ⟨#[vb false, s9, vi t1.2, vi t8.2, Z, Z, .tuple #[s2, vi t1.2], .agg #[vi 0, vi 0, vu 0, vu 0, vu 0, vu 0], .tuple #[s2, vi t1.2], s2, vi t1.2, .tuple #[s9, vi t8.2], s2, .agg #[vi ((-1)), vu 0, vu 0, vu 0, vu 0], .agg #[vi 1, vi ((-1)), vu 0, vu 0, vu 0, vu 0], .tuple #[s9, vi t8.2], s9, vi t8.2, Z, Z, Z, Z, Z, Z, Z, Z, Z, Z, Z, Z, Z, Z, Z, Z, Z, Z, Z, Z, Z, Z, Z], []⟩ w12 (fun K => by kernel_rfl) ?_
  refine WPI.done rfl ?_
  refine then_n ?_
  refine WP.seq ?_
  refine WP.region ?_
  obtain ⟨t15, ht15, h⟩ := bd_some h
  refine WPI.run 1 ⟨#[vb false, s9, vi t1.2, vi t8.2, Z, Z, .tuple #[s2, vi t1.2], .agg #[vi 0, vi 0, vu 0, vu 0, vu 0, vu 0], .tuple #[s2, vi t1.2], s2, vi t1.2, .tuple #[s9, vi t8.2], s2, .agg #[vi ((-1)), vu 0, vu 0, vu 0, vu 0], .agg #[vi 1, vi ((-1)), vu 0, vu 0, vu 0, vu 0], .tuple #[s9, vi t8.2], s9, vi t8.2, Z, s9, Z, Z, Z, Z, Z, Z, Z, Z, Z, Z, Z, Z, Z, Z, Z, Z, Z, Z, Z, Z, Z], []⟩ w12 (fun K => by kernel_rfl) ?_
  refine WPI.op rfl (Op1.call (by kernel_rfl) (by kernel_rfl) (g_heap_Least_w fuel s9 t8.1 t15 ht15 _ (St.rd H14 0 rfl)) ?_)
  rintro _ w16 ⟨rfl, Hc17⟩
  have H18 := St.call0' H14 Hc17
  clear H14 Hc17
  refine WPI.run 3 ⟨#[vb false, s9, vi t1.2, vi t8.2, Z, Z, .tuple #[s2, vi t1.2], .agg #[vi 0, vi 0, vu 0, vu 0, vu 0, vu 0], .tuple #[s2, vi t1.2], s2, vi t1.2, .tuple #[s9, vi t8.2], s2, .agg #[vi ((-1)), vu 0, vu 0, vu 0, vu 0], .agg #[vi 1, vi ((-1)), vu 0, vu 0, vu 0, vu 0], .tuple #[s9, vi t8.2], s9, vi t8.2, .tuple #[TNode.val t15.1, vi t15.2], s9, .tuple #[TNode.val t15.1, vi t15.2], TNode.val t15.1, vi t15.2, Z, Z, Z, Z, Z, Z, Z, Z, Z, Z, Z, Z, Z, Z, Z, Z, Z, Z], []⟩ w16 (fun K => by kernel_rfl) ?_
  refine WPI.op rfl (Op1.alloc H18 #[vi 0, vi 0, vu 0, vu 0, vu 0, vu 0] (by kernel_rfl) 33 rfl (by kernel_rfl) (fun b19 w21 H22 => ?_))
  clear H18
  refine WPI.run 0 ⟨#[vb false, s9, vi t1.2, vi t8.2, vp b19 0, Z, .tuple #[s2, vi t1.2], .agg #[vi 0, vi 0, vu 0, vu 0, vu 0, vu 0], .tuple #[s2, vi t1.2], s2, vi t1.2, .tuple #[s9, vi t8.2], s2, .agg #[vi ((-1)), vu 0, vu 0, vu 0, vu 0], .agg #[vi 1, vi ((-1)), vu 0, vu 0, vu 0, vu 0], .tuple #[s9, vi t8.2], s9, vi t8.2, .tuple #[TNode.val t15.1, vi t15.2], s9, .tuple #[TNode.val t15.1, vi t15.2], TNode.val t15.1, vi t15.2, Z, Z, Z, Z, Z, Z, Z, Z, Z, Z, Z, Z, Z, Z, Z, Z, Z, Z], []⟩ w21 (fun K => by kernel_rfl) ?_
  refine WPI.op rfl (Op1.storeBox H22 0 rfl (by kernel_rfl) 33 (.tmp 4) (.tmp 21) 0 (TNode.val t15.1) (TNode.cs t15.1).toArray true rfl (by kernel_rfl) (by kernel_rfl) (by kernel_rfl) (by kernel_rfl) (by kernel_rfl) (flat_one1 fTNode t15.1) (fun w23 H24 => ?_))
  clear H22
  refine WPI.run 1 ⟨#[vb false, s9, vi t1.2, vi t8.2, vp b19 0, vi t15.2, .tuple #[s2, vi t1.2], .agg #[vi 0, vi 0, vu 0, vu 0, vu 0, vu 0], .tuple #[s2, vi t1.2], s2, vi t1.2, .tuple #[s9, vi t8.2], s2, .agg #[vi ((-1)), vu 0, vu 0, vu 0, vu 0], .agg #[vi 1, vi ((-1)), vu 0, vu 0, vu 0, vu 0], .tuple #[s9, vi t8.2], s9, vi t8.2, .tuple #[TNode.val t15.1, vi t15.2], s9, .tuple #[TNode.val t15.1, vi t15.2], TNode.val t15.1, vi t15.2, Z, Z, Z, Z, Z, Z, Z, Z, Z, Z, Z, Z, Z, Z, Z, Z, Z, Z], []⟩ w23 (fun K => by kernel_rfl) ?_
  refine WPI.done rfl ?_
  refine then_n ?_
  refine WP.seq ?_
  obtain ⟨K44, hK44, h⟩ := jn_some h
  refine WP.onlyN (fun a w => ∃ (c25 : Bool) (g26 g27 g28 g29 g30 g31 g32 g33 g34 g35 g36 g37 g38 g39 g40 g41 g42 g43 : Value), a = ⟨#[vb c25, s9, vi t1.2, vi t8.2, vp b19 0, vi t15.2, .tuple #[s2, vi t1.2], .agg #[vi 0, vi 0, vu 0, vu 0, vu 0, vu 0], .tuple #[s2, vi t1.2], s2, vi t1.2, .tuple #[s9, vi t8.2], s2, .agg #[vi ((-1)), vu 0, vu 0, vu 0, vu 0], .agg #[vi 1, vi ((-1)), vu 0, vu 0, vu 0, vu 0], .tuple #[s9, vi t8.2], s9, vi t8.2, .tuple #[TNode.val t15.1, vi t15.2], s9, .tuple #[TNode.val t15.1, vi t15.2], TNode.val t15.1, vi t15.2, g26, g27, g28, g29, g30, g31, g32, g33, g34, g35, g36, g37, g38, g39, g40, g41, g42, g43], []⟩ ∧ St no w0 w [Box b19 (TNode.cs t15.1).toArray 33, Own fTNode 33 s9 t8.1, Own fTNode 33 s2 t1.1] ∧ K44 c25 = some r) ?_ ?_
  · skip
    refine WP.region ?_
    obtain ⟨t45, ht45, h⟩ := bd_some h
    refine WPI.run 1 ⟨#[vb false, s9, vi t1.2, vi t8.2, vp b19 0, vi t15.2, .tuple #[s2, vi t1.2], .agg #[vi 0, vi 0, vu 0, vu 0, vu 0, vu 0], .tuple #[s2, vi t1.2], s2, vi t1.2, .tuple #[s9, vi t8.2], s2, .agg #[vi ((-1)), vu 0, vu 0, vu 0, vu 0], .agg #[vi 1, vi ((-1)), vu 0, vu 0, vu 0, vu 0], .tuple #[s9, vi t8.2], s9, vi t8.2, .tuple #[TNode.val t15.1, vi t15.2], s9, .tuple #[TNode.val t15.1, vi t15.2], TNode.val t15.1, vi t15.2, vi t1.2, Z, Z, Z, Z, Z, Z, Z, Z, Z, Z, Z, Z, Z, Z, Z, Z, Z], []⟩ w23 (fun K => by kernel_rfl) ?_
    refine WPI.op rfl (Op1.call (by kernel_rfl) (by kernel_rfl) (g_tarnlaw13_num_w fuel t1.2 t45 ht45 _) ?_)
    rintro _ w46 ⟨rfl, Hc47⟩
    have H48 := St.call0' H24 Hc47
    clear H24 Hc47
    obtain ⟨c49, hc49, h⟩ := lt_some h
    refine WPI.run 2 ⟨#[vb false, s9, vi t1.2, vi t8.2, vp b19 0, vi t15.2, .tuple #[s2, vi t1.2], .agg #[vi 0, vi 0, vu 0, vu 0, vu 0, vu 0], .tuple #[s2, vi t1.2], s2, vi t1.2, .tuple #[s9, vi t8.2], s2, .agg #[vi ((-1)), vu 0, vu 0, vu 0, vu 0], .agg #[vi 1, vi ((-1)), vu 0, vu 0, vu 0, vu 0], .tuple #[s9, vi t8.2], s9, vi t8.2, .tuple #[TNode.val t15.1, vi t15.2], s9, .tuple #[TNode.val t15.1, vi t15.2], TNode.val t15.1, vi t15.2, vi t1.2, vi t45, vb c49, vb c49, Z, Z, Z, Z, Z, Z, Z, Z, Z, Z, Z, Z, Z, Z], []⟩ w46 (fun K => by subst hc49; kernel_rfl) ?_
    cases c49 with
    | false =>
      replace h := br_f h
      refine WPI.run 15 ⟨#[vb false, s9, vi t1.2, vi t8.2, vp b19 0, vi t15.2, .tuple #[s2, vi t1.2], .agg #[vi 0, vi 0, vu 0, vu 0, vu 0, vu 0], .tuple #[s2, vi t1.2], s2, vi t1.2, .tuple #[s9, vi t8.2], s2, .agg #[vi ((-1)), vu 0, vu 0, vu 0, vu 0], .agg #[vi 1, vi ((-1)), vu 0, vu 0, vu 0, vu 0], .tuple #[s9, vi t8.2], s9, vi t8.2, .tuple #[TNode.val t15.1, vi t15.2], s9, .tuple #[TNode.val t15.1, vi t15.2], TNode.val t15.1, vi t15.2, vi t1.2, vi t45, vb false, vb false, Z, Z, Z, vb false, vb false, Z, Z, Z, vb false, vb false, Z, Z, Z, vb false], []⟩ w46 (fun K => by kernel_rfl) ?_
      refine WPI.done rfl ?_
      exact ⟨false, _, _, _, _, _, _, _, _, _, _, _, _, _, _, _, _, _, _, rfl, St.sel H48 [0, 1, 2] (by decide) rfl, h⟩
    | true =>
      replace h := br_t h
      obtain ⟨t50, ht50, h⟩ := bd_some h
      refine WPI.run 1 ⟨#[vb false, s9, vi t1.2, vi t8.2, vp b19 0, vi t15.2, .tuple #[s2, vi t1.2], .agg #[vi 0, vi 0, vu 0, vu 0, vu 0, vu 0], .tuple #[s2, vi t1.2], s2, vi t1.2, .tuple #[s9, vi t8.2], s2, .agg #[vi ((-1)), vu 0, vu 0, vu 0, vu 0], .agg #[vi 1, vi ((-1)), vu 0, vu 0, vu 0, vu 0], .tuple #[s9, vi t8.2], s9, vi t8.2, .tuple #[TNode.val t15.1, vi t15.2], s9, .tuple #[TNode.val t15.1, vi t15.2], TNode.val t15.1, vi t15.2, vi t1.2, vi t45, vb true, vb true, vi t8.2, Z, Z, Z, Z, Z, Z, Z, Z, Z, Z, Z, Z, Z], []⟩ w46 (fun K => by kernel_rfl) ?_
      refine WPI.op rfl (Op1.call (by kernel_rfl) (by kernel_rfl) (g_tarnlaw13_num_w fuel t8.2 t50 ht50 _) ?_)
      rintro _ w51 ⟨rfl, Hc52⟩
      have H53 := St.call0' H48 Hc52
      clear H48 Hc52
      obtain ⟨c54, hc54, h⟩ := lt_some h
      refine WPI.run 3 ⟨#[vb false, s9, vi t1.2, vi t8.2, vp b19 0, vi t15.2, .tuple #[s2, vi t1.2], .agg #[vi 0, vi 0, vu 0, vu 0, vu 0, vu 0], .tuple #[s2, vi t1.2], s2, vi t1.2, .tuple #[s9, vi t8.2], s2, .agg #[vi ((-1)), vu 0, vu 0, vu 0, vu 0], .agg #[vi 1, vi ((-1)), vu 0, vu 0, vu 0, vu 0], .tuple #[s9, vi t8.2], s9, vi t8.2, .tuple #[TNode.val t15.1, vi t15.2], s9, .tuple #[TNode.val t15.1, vi t15.2], TNode.val t15.1, vi t15.2, vi t1.2, vi t45, vb true, vb true, vi t8.2, vi t50, vb c54, vb c54, vb c54, Z, Z, Z, Z, Z, Z, Z, Z, Z], []⟩ w51 (fun K => by subst hc54; kernel_rfl) ?_
      cases c54 with
      | false =>
        replace h := br_f h
        refine WPI.run 10 ⟨#[vb false, s9, vi t1.2, vi t8.2, vp b19 0, vi t15.2, .tuple #[s2, vi t1.2], .agg #[vi 0, vi 0, vu 0, vu 0, vu 0, vu 0], .tuple #[s2, vi t1.2], s2, vi t1.2, .tuple #[s9, vi t8.2], s2, .agg #[vi ((-1)), vu 0, vu 0, vu 0, vu 0], .agg #[vi 1, vi ((-1)), vu 0, vu 0, vu 0, vu 0], .tuple #[s9, vi t8.2], s9, vi t8.2, .tuple #[TNode.val t15.1, vi t15.2], s9, .tuple #[TNode.val t15.1, vi t15.2], TNode.val t15.1, vi t15.2, vi t1.2, vi t45, vb true, vb true, vi t8.2, vi t50, vb false, vb false, vb false, Z, Z, Z, vb false, vb false, Z, Z, Z, vb false], []⟩ w51 (fun K => by kernel_rfl) ?_
        refine WPI.done rfl ?_
        exact ⟨false, _, _, _, _, _, _, _, _, _, _, _, _, _, _, _, _, _, _, rfl, St.sel H53 [0, 1, 2] (by decide) rfl, h⟩
      | true =>
        replace h := br_t h
        obtain ⟨t55, ht55, h⟩ := bd_some h
        refine WPI.run 1 ⟨#[vb false, s9, vi t1.2, vi t8.2, vp b19 0, vi t15.2, .tuple #[s2, vi t1.2], .agg #[vi 0, vi 0, vu 0, vu 0, vu 0, vu 0], .tuple #[s2, vi t1.2], s2, vi t1.2, .tuple #[s9, vi t8.2], s2, .agg #[vi ((-1)), vu 0, vu 0, vu 0, vu 0], .agg #[vi 1, vi ((-1)), vu 0, vu 0, vu 0, vu 0], .tuple #[s9, vi t8.2], s9, vi t8.2, .tuple #[TNode.val t15.1, vi t15.2], s9, .tuple #[TNode.val t15.1, vi t15.2], TNode.val t15.1, vi t15.2, vi t1.2, vi t45, vb true, vb true, vi t8.2, vi t50, vb true, vb true, vb true, vi t15.2, Z, Z, Z, Z, Z, Z, Z, Z], []⟩ w51 (fun K => by kernel_rfl) ?_
        refine WPI.op rfl (Op1.call (by kernel_rfl) (by kernel_rfl) (g_tarnlaw13_num_w fuel t15.2 t55 ht55 _) ?_)
        rintro _ w56 ⟨rfl, Hc57⟩
        have H58 := St.call0' H53 Hc57
        clear H53 Hc57
        obtain ⟨c59, hc59, h⟩ := lt_some h
        refine WPI.run 3 ⟨#[vb false, s9, vi t1.2, vi t8.2, vp b19 0, vi t15.2, .tuple #[s2, vi t1.2], .agg #[vi 0, vi 0, vu 0, vu 0, vu 0, vu 0], .tuple #[s2, vi t1.2], s2, vi t1.2, .tuple #[s9, vi t8.2], s2, .agg #[vi ((-1)), vu 0, vu 0, vu 0, vu 0], .agg #[vi 1, vi ((-1)), vu 0, vu 0, vu 0, vu 0], .tuple #[s9, vi t8.2], s9, vi t8.2, .tuple #[TNode.val t15.1, vi t15.2], s9, .tuple #[TNode.val t15.1, vi t15.2], TNode.val t15.1, vi t15.2, vi t1.2, vi t45, vb true, vb true, vi t8.2, vi t50, vb true, vb true, vb true, vi t15.2, vi t55, vb c59, vb c59, vb c59, Z, Z, Z, Z], []⟩ w56 (fun K => by subst hc59; kernel_rfl) ?_
        cases c59 with
        | false =>
          replace h := br_f h
          refine WPI.run 5 ⟨#[vb false, s9, vi t1.2, vi t8.2, vp b19 0, vi t15.2, .tuple #[s2, vi t1.2], .agg #[vi 0, vi 0, vu 0, vu 0, vu 0, vu 0], .tuple #[s2, vi t1.2], s2, vi t1.2, .tuple #[s9, vi t8.2], s2, .agg #[vi ((-1)), vu 0, vu 0, vu 0, vu 0], .agg #[vi 1, vi ((-1)), vu 0, vu 0, vu 0, vu 0], .tuple #[s9, vi t8.2], s9, vi t8.2, .tuple #[TNode.val t15.1, vi t15.2], s9, .tuple #[TNode.val t15.1, vi t15.2], TNode.val t15.1, vi t15.2, vi t1.2, vi t45, vb true, vb true, vi t8.2, vi t50, vb true, vb true, vb true, vi t15.2, vi t55, vb false, vb false, vb false, Z, Z, Z, vb false], []⟩ w56 (fun K => by kernel_rfl) ?_
          refine WPI.done rfl ?_
          exact ⟨false, _, _, _, _, _, _, _, _, _, _, _, _, _, _, _, _, _, _, rfl, St.sel H58 [0, 1, 2] (by decide) rfl, h⟩
        | true =>
          replace h := br_t h
          refine WPI.run 1 ⟨#[vb false, s9, vi t1.2, vi t8.2, vp b19 0, vi t15.2, .tuple #[s2, vi t1.2], .agg #[vi 0, vi 0, vu 0, vu 0, vu 0, vu 0], .tuple #[s2, vi t1.2], s2, vi t1.2, .tuple #[s9, vi t8.2], s2, .agg #[vi ((-1)), vu 0, vu 0, vu 0, vu 0], .agg #[vi 1, vi ((-1)), vu 0, vu 0, vu 0, vu 0], .tuple #[s9, vi t8.2], s9, vi t8.2, .tuple #[TNode.val t15.1, vi t15.2], s9, .tuple #[TNode.val t15.1, vi t15.2], TNode.val t15.1, vi t15.2, vi t1.2, vi t45, vb true, vb true, vi t8.2, vi t50, vb true, vb true, vb true, vi t15.2, vi t55, vb true, vb true, vb true, vp b19 0, Z, Z, Z], []⟩ w56 (fun K => by kernel_rfl) ?_
          refine WPI.value (v := vi t15.1.Acct) rfl (by kernel_rfl) (ev_loadBox H58 0 rfl 3 (.tmp 37) 0 (vi t15.1.Acct) rfl (by kernel_rfl) (by kernel_rfl)) ?_
          obtain ⟨c60, hc60, h⟩ := lt_some h
          refine WPI.run 3 ⟨#[vb c60, s9, vi t1.2, vi t8.2, vp b19 0, vi t15.2, .tuple #[s2, vi t1.2], .agg #[vi 0, vi 0, vu 0, vu 0, vu 0, vu 0], .tuple #[s2, vi t1.2], s2, vi t1.2, .tuple #[s9, vi t8.2], s2, .agg #[vi ((-1)), vu 0, vu 0, vu 0, vu 0], .agg #[vi 1, vi ((-1)), vu 0, vu 0, vu 0, vu 0], .tuple #[s9, vi t8.2], s9, vi t8.2, .tuple #[TNode.val t15.1, vi t15.2], s9, .tuple #[TNode.val t15.1, vi t15.2], TNode.val t15.1, vi t15.2, vi t1.2, vi t45, vb true, vb true, vi t8.2, vi t50, vb true, vb true, vb true, vi t15.2, vi t55, vb true, vb true, vb true, vp b19 0, vi t15.1.Acct, vb c60, vb c60], []⟩ w56 (fun K => by subst hc60; kernel_rfl) ?_
          refine WPI.done rfl ?_
          exact ⟨c60, _, _, _, _, _, _, _, _, _, _, _, _, _, _, _, _, _, _, rfl, St.sel H58 [0, 1, 2] (by decide) rfl, h⟩
  · rintro a w ⟨c25, g26, g27, g28, g29, g30, g31, g32, g33, g34, g35, g36, g37, g38, g39, g40, g41, g42, g43, rfl, H, h⟩
    subst hK44
    obtain ⟨w61, rfl⟩ : ∃ x, x = w := ⟨_, rfl⟩
    have H62 := H; clear H
    have sf63 := Own.isSl (St.get H62 1 rfl)
    have sf64 := Own.isSl (St.get H62 2 rfl)
    refine then_n ?_
    refine WP.ret ?_
    obtain rfl := Option.some.inj h
    exact post_r (vb c25) rfl (by kernel_rfl) ⟨rfl, St.sel H62 [] (by decide) rfl⟩
end Go.Proofs
