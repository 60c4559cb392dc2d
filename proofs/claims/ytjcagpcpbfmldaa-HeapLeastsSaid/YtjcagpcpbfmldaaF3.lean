import Derived.Test.YtjcagpcpbfmldaaGw
import Derived.Test.YtjcagpcpbfmldaaProg
import Derived.Test.YtjcagpcpbfmldaaT
import Derived.Test.YtjcagpcpbfmldaaF11
import Derived.Test.YtjcagpcpbfmldaaF12
import Derived.Test.YtjcagpcpbfmldaaF15
import Derived.Test.YtjcagpcpbfmldaaF16
import Derived.Test.YtjcagpcpbfmldaaF13
import Derived.Test.YtjcagpcpbfmldaaF14
set_option linter.unusedVariables false
set_option linter.unusedSimpArgs false
set_option maxRecDepth 100000
set_option maxHeartbeats 4000000
namespace Go.Proofs
open Gw Go.RowKit
/- tarn/tarnlaw13.HeapLeasts -/
def g_tarnlaw13_HeapLeasts (fuel : Nat) (l2 : List TNode) (l4 : List Ttarnlaw13_Act) : Option Bool :=
  bd (g_tarnlaw13_heavy fuel l2 l4) fun t9 => br t9 (some true) (bd (g_heap_Least fuel l2) fun t13 => jn (fun (x29 : TNode) (x30 : Int) => jn (fun (c72 : Bool) => some c72) fun K85 => bd (g_tarnlaw13_num fuel t13.2) fun t86 => lt (t86 == x30) fun c90 => br c90 (lt (decide (t13.1 = x29)) fun c91 => br c91 (bd (g_tarnlaw13_wakes fuel) fun t92 => K85 t92) (K85 false)) (K85 false)) fun K43 => bd (g_tarnref12_Heap fuel l2) fun t44 => br t44 (lt (decide ((((List.length l2 : Nat) : Int)) > 0)) fun c48 => br c48 (jn (fun (x49 : TNode) => K43 x49 0) fun K55 => bd (g_tarnref12_Order fuel l2) fun t57 => gd ((0 : Int) ≤ 0 ∧ 0 < ((List.length t57 : Nat) : Int)) <| bd (t57[Int.toNat 0]?) fun x62 => K55 x62) (K43 (TNode.mk 0 (TRank.mk 0 (TU256.mk 0 0 0 0))) 3)) (K43 (TNode.mk 0 (TRank.mk 0 (TU256.mk 0 0 0 0))) 1))
theorem g_tarnlaw13_HeapLeasts_w (fuel : Nat) (s1 : Value) (l2 : List TNode) (s3 : Value) (l4 : List Ttarnlaw13_Act) (r : Bool) (h : g_tarnlaw13_HeapLeasts fuel l2 l4 = some r) (w0 : World) (hs1 : Rd fTNode (hp no w0) s1 l2) (hs3 : Rd fTtarnlaw13_Act (hp no w0) s3 l4) :
    Ret Try.prog 3 #[.agg #[s1, s3]] w0 (fun v w' => v = vb r ∧ St no w0 w' []) := by
  unfold g_tarnlaw13_HeapLeasts at h
  refine ret_of_wp Try.func3 rfl #[.agg #[s1, s3], Z, Z, Z, Z, Z, Z, Z, Z, Z, Z, Z, Z, Z, Z, Z, Z, Z, Z, Z, Z, Z, Z, Z, Z, Z, Z, Z, Z, Z, Z, Z, Z, Z, Z, Z, Z, Z, Z, Z] (by kernel_rfl) ?_
  have H0 := St.start w0
  refine WP.seq ?_
  refine WP.region ?_
  refine WPI.op rfl (Op1.box H0 #[s1, s3] (by kernel_rfl) 25 (.tmp 0) rfl (by kernel_rfl) (fun b5 w7 H8 => ?_))
  refine WPI.run 1 ⟨#[.agg #[s1, s3], vp b5 0, vb false, Z, Z, Z, Z, Z, Z, Z, Z, Z, Z, Z, Z, Z, Z, Z, Z, Z, Z, Z, Z, Z, Z, Z, Z, Z, Z, Z, Z, Z, Z, Z, Z, Z, Z, Z, Z, Z], []⟩ w7 (fun K => by kernel_rfl) ?_
  refine WPI.done rfl ?_
  refine then_n ?_
  refine WP.seq ?_
  refine WP.seq ?_
  refine WP.region ?_
  refine WPI.value (v := .agg #[s1, s3]) rfl (by kernel_rfl) (ev_loadBox H8 0 rfl 25 (.tmp 1) 0 (.agg #[s1, s3]) rfl (by kernel_rfl) (by kernel_rfl)) ?_
  obtain ⟨t9, ht9, h⟩ := bd_some h
  refine WPI.run 0 ⟨#[.agg #[s1, s3], vp b5 0, vb false, Z, Z, Z, Z, .agg #[s1, s3], Z, Z, Z, Z, Z, Z, Z, Z, Z, Z, Z, Z, Z, Z, Z, Z, Z, Z, Z, Z, Z, Z, Z, Z, Z, Z, Z, Z, Z, Z, Z, Z], []⟩ w7 (fun K => by kernel_rfl) ?_
  refine WPI.op rfl (Op1.call (by kernel_rfl) (by kernel_rfl) (g_tarnlaw13_heavy_w fuel s1 l2 s3 l4 t9 ht9 _ (Rd.arg0 hs1 H8) (Rd.arg0 hs3 H8)) ?_)
  rintro _ w10 ⟨rfl, Hc11⟩
  have H12 := St.call0' H8 Hc11
  clear H8 Hc11
  refine WPI.run 0 ⟨#[.agg #[s1, s3], vp b5 0, vb false, Z, Z, Z, Z, .agg #[s1, s3], vb t9, Z, Z, Z, Z, Z, Z, Z, Z, Z, Z, Z, Z, Z, Z, Z, Z, Z, Z, Z, Z, Z, Z, Z, Z, Z, Z, Z, Z, Z, Z, Z], []⟩ w10 (fun K => by kernel_rfl) ?_
  refine WPI.done rfl ?_
  refine then_n ?_
  cases t9 with
  | false =>
    replace h := br_f h
    refine WP.condF (by kernel_rfl) ?_
    refine WP.skip ?_
    refine then_n ?_
    refine WP.seq ?_
    refine WP.region ?_
    refine WPI.run 1 ⟨#[.agg #[s1, s3], vp b5 0, vb false, Z, Z, Z, Z, .agg #[s1, s3], vb false, Z, vp b5 0, Z, Z, Z, Z, Z, Z, Z, Z, Z, Z, Z, Z, Z, Z, Z, Z, Z, Z, Z, Z, Z, Z, Z, Z, Z, Z, Z, Z, Z], []⟩ w10 (fun K => by kernel_rfl) ?_
    refine WPI.value (v := s1) rfl (by kernel_rfl) (ev_loadBox H12 0 rfl 22 (.tmp 10) 0 (s1) rfl (by kernel_rfl) (by kernel_rfl)) ?_
    obtain ⟨t13, ht13, h⟩ := bd_some h
    refine WPI.run 0 ⟨#[.agg #[s1, s3], vp b5 0, vb false, Z, Z, Z, Z, .agg #[s1, s3], vb false, Z, vp b5 0, s1, Z, Z, Z, Z, Z, Z, Z, Z, Z, Z, Z, Z, Z, Z, Z, Z, Z, Z, Z, Z, Z, Z, Z, Z, Z, Z, Z, Z], []⟩ w10 (fun K => by kernel_rfl) ?_
    refine WPI.op rfl (Op1.call (by kernel_rfl) (by kernel_rfl) (g_heap_Least_w fuel s1 l2 t13 ht13 _ (Rd.arg0 hs1 H12)) ?_)
    rintro _ w14 ⟨rfl, Hc15⟩
    have H16 := St.call0' H12 Hc15
    clear H12 Hc15
    refine WPI.run 3 ⟨#[.agg #[s1, s3], vp b5 0, vb false, Z, Z, Z, Z, .agg #[s1, s3], vb false, .tuple #[TNode.val t13.1, vi t13.2], vp b5 0, s1, .tuple #[TNode.val t13.1, vi t13.2], TNode.val t13.1, vi t13.2, Z, Z, Z, Z, Z, Z, Z, Z, Z, Z, Z, Z, Z, Z, Z, Z, Z, Z, Z, Z, Z, Z, Z, Z, Z], []⟩ w14 (fun K => by kernel_rfl) ?_
    refine WPI.op rfl (Op1.alloc H16 #[vi 0, vi 0, vu 0, vu 0, vu 0, vu 0] (by kernel_rfl) 33 rfl (by kernel_rfl) (fun b17 w19 H20 => ?_))
    clear H16
    refine WPI.run 0 ⟨#[.agg #[s1, s3], vp b5 0, vb false, vp b17 0, Z, Z, Z, .agg #[s1, s3], vb false, .tuple #[TNode.val t13.1, vi t13.2], vp b5 0, s1, .tuple #[TNode.val t13.1, vi t13.2], TNode.val t13.1, vi t13.2, Z, Z, Z, Z, Z, Z, Z, Z, Z, Z, Z, Z, Z, Z, Z, Z, Z, Z, Z, Z, Z, Z, Z, Z, Z], []⟩ w19 (fun K => by kernel_rfl) ?_
    refine WPI.op rfl (Op1.storeBox H20 0 rfl (by kernel_rfl) 33 (.tmp 3) (.tmp 13) 0 (TNode.val t13.1) (TNode.cs t13.1).toArray true rfl (by kernel_rfl) (by kernel_rfl) (by kernel_rfl) (by kernel_rfl) (by kernel_rfl) (flat_one1 fTNode t13.1) (fun w21 H22 => ?_))
    clear H20
    refine WPI.run 1 ⟨#[.agg #[s1, s3], vp b5 0, vb false, vp b17 0, vi t13.2, Z, Z, .agg #[s1, s3], vb false, .tuple #[TNode.val t13.1, vi t13.2], vp b5 0, s1, .tuple #[TNode.val t13.1, vi t13.2], TNode.val t13.1, vi t13.2, Z, Z, Z, Z, Z, Z, Z, Z, Z, Z, Z, Z, Z, Z, Z, Z, Z, Z, Z, Z, Z, Z, Z, Z, Z], []⟩ w21 (fun K => by kernel_rfl) ?_
    refine WPI.done rfl ?_
    refine then_n ?_
    refine WP.seq ?_
    refine WP.region ?_
    refine WPI.run 1 ⟨#[.agg #[s1, s3], vp b5 0, vb false, vp b17 0, vi t13.2, Z, Z, .agg #[s1, s3], vb false, .tuple #[TNode.val t13.1, vi t13.2], vp b5 0, s1, .tuple #[TNode.val t13.1, vi t13.2], TNode.val t13.1, vi t13.2, .agg #[vi 0, vi 0, vu 0, vu 0, vu 0, vu 0], Z, Z, Z, Z, Z, Z, Z, Z, Z, Z, Z, Z, Z, Z, Z, Z, Z, Z, Z, Z, Z, Z, Z, Z], []⟩ w21 (fun K => by kernel_rfl) ?_
    refine WPI.op rfl (Op1.alloc H22 #[vi 0, vi 0, vu 0, vu 0, vu 0, vu 0] (by kernel_rfl) 33 rfl (by kernel_rfl) (fun b23 w25 H26 => ?_))
    clear H22
    refine WPI.run 1 ⟨#[.agg #[s1, s3], vp b5 0, vb false, vp b17 0, vi t13.2, vi 1, vp b23 0, .agg #[s1, s3], vb false, .tuple #[TNode.val t13.1, vi t13.2], vp b5 0, s1, .tuple #[TNode.val t13.1, vi t13.2], TNode.val t13.1, vi t13.2, .agg #[vi 0, vi 0, vu 0, vu 0, vu 0, vu 0], Z, Z, Z, Z, Z, Z, Z, Z, Z, Z, Z, Z, Z, Z, Z, Z, Z, Z, Z, Z, Z, Z, Z, Z], []⟩ w25 (fun K => by kernel_rfl) ?_
    refine WPI.op rfl (Op1.storeBox H26 0 rfl (by kernel_rfl) 33 (.tmp 6) (.tmp 15) 0 (.agg #[vi 0, vi 0, vu 0, vu 0, vu 0, vu 0]) #[vi 0, vi 0, vu 0, vu 0, vu 0, vu 0] true rfl (by kernel_rfl) (by kernel_rfl) (by kernel_rfl) (by kernel_rfl) (by kernel_rfl) (flat_one1 fTNode (TNode.mk 0 (TRank.mk 0 (TU256.mk 0 0 0 0)))) (fun w27 H28 => ?_))
    clear H26
    refine WPI.run 0 ⟨#[.agg #[s1, s3], vp b5 0, vb false, vp b17 0, vi t13.2, vi 1, vp b23 0, .agg #[s1, s3], vb false, .tuple #[TNode.val t13.1, vi t13.2], vp b5 0, s1, .tuple #[TNode.val t13.1, vi t13.2], TNode.val t13.1, vi t13.2, .agg #[vi 0, vi 0, vu 0, vu 0, vu 0, vu 0], Z, Z, Z, Z, Z, Z, Z, Z, Z, Z, Z, Z, Z, Z, Z, Z, Z, Z, Z, Z, Z, Z, Z, Z], []⟩ w27 (fun K => by kernel_rfl) ?_
    refine WPI.done rfl ?_
    refine then_n ?_
    obtain ⟨K43, hK43, h⟩ := jn_some h
    refine WP.seqJ (fun a w => ∃ (x29 : TNode) (x30 : Int) (g31 g32 g33 g34 g35 g36 g37 g38 g39 g40 g41 g42 : Value), a = ⟨#[.agg #[s1, s3], vp b5 0, vb false, vp b17 0, vi t13.2, vi x30, vp b23 0, .agg #[s1, s3], vb false, .tuple #[TNode.val t13.1, vi t13.2], vp b5 0, s1, .tuple #[TNode.val t13.1, vi t13.2], TNode.val t13.1, vi t13.2, .agg #[vi 0, vi 0, vu 0, vu 0, vu 0, vu 0], g31, g32, g33, g34, g35, g36, g37, g38, g39, g40, g41, g42, Z, Z, Z, Z, Z, Z, Z, Z, Z, Z, Z, Z], []⟩ ∧ St no w0 w [Box b23 (TNode.cs x29).toArray 33, Box b17 (TNode.cs t13.1).toArray 33, Box b5 #[s1, s3] 25] ∧ K43 x29 x30 = some r) ?_ ?_
    · skip
      refine WP.seq ?_
      refine WP.region ?_
      refine WPI.run 1 ⟨#[.agg #[s1, s3], vp b5 0, vb false, vp b17 0, vi t13.2, vi 1, vp b23 0, .agg #[s1, s3], vb false, .tuple #[TNode.val t13.1, vi t13.2], vp b5 0, s1, .tuple #[TNode.val t13.1, vi t13.2], TNode.val t13.1, vi t13.2, .agg #[vi 0, vi 0, vu 0, vu 0, vu 0, vu 0], vp b5 0, Z, Z, Z, Z, Z, Z, Z, Z, Z, Z, Z, Z, Z, Z, Z, Z, Z, Z, Z, Z, Z, Z, Z], []⟩ w27 (fun K => by kernel_rfl) ?_
      refine WPI.value (v := s1) rfl (by kernel_rfl) (ev_loadBox H28 2 rfl 22 (.tmp 16) 0 (s1) rfl (by kernel_rfl) (by kernel_rfl)) ?_
      obtain ⟨t44, ht44, h⟩ := bd_some h
      refine WPI.run 0 ⟨#[.agg #[s1, s3], vp b5 0, vb false, vp b17 0, vi t13.2, vi 1, vp b23 0, .agg #[s1, s3], vb false, .tuple #[TNode.val t13.1, vi t13.2], vp b5 0, s1, .tuple #[TNode.val t13.1, vi t13.2], TNode.val t13.1, vi t13.2, .agg #[vi 0, vi 0, vu 0, vu 0, vu 0, vu 0], vp b5 0, s1, Z, Z, Z, Z, Z, Z, Z, Z, Z, Z, Z, Z, Z, Z, Z, Z, Z, Z, Z, Z, Z, Z], []⟩ w27 (fun K => by kernel_rfl) ?_
      refine WPI.op rfl (Op1.call (by kernel_rfl) (by kernel_rfl) (g_tarnref12_Heap_w fuel s1 l2 t44 ht44 _ (Rd.arg0 hs1 H28)) ?_)
      rintro _ w45 ⟨rfl, Hc46⟩
      have H47 := St.call0' H28 Hc46
      clear H28 Hc46
      refine WPI.run 0 ⟨#[.agg #[s1, s3], vp b5 0, vb false, vp b17 0, vi t13.2, vi 1, vp b23 0, .agg #[s1, s3], vb false, .tuple #[TNode.val t13.1, vi t13.2], vp b5 0, s1, .tuple #[TNode.val t13.1, vi t13.2], TNode.val t13.1, vi t13.2, .agg #[vi 0, vi 0, vu 0, vu 0, vu 0, vu 0], vp b5 0, s1, vb t44, Z, Z, Z, Z, Z, Z, Z, Z, Z, Z, Z, Z, Z, Z, Z, Z, Z, Z, Z, Z, Z], []⟩ w45 (fun K => by kernel_rfl) ?_
      refine WPI.done rfl ?_
      refine then_n ?_
      cases t44 with
      | false =>
        replace h := br_f h
        refine WP.condF (by kernel_rfl) ?_
        refine WP.skip ?_
        exact then_n ⟨(TNode.mk 0 (TRank.mk 0 (TU256.mk 0 0 0 0))), 1, _, _, _, _, _, _, _, _, _, _, _, _, rfl, St.sel H47 [0, 1, 2] (by decide) rfl, h⟩
      | true =>
        replace h := br_t h
        refine WP.condT (by kernel_rfl) ?_
        refine WP.seq ?_
        refine WP.region ?_
        refine WPI.run 1 ⟨#[.agg #[s1, s3], vp b5 0, vb false, vp b17 0, vi t13.2, vi 3, vp b23 0, .agg #[s1, s3], vb false, .tuple #[TNode.val t13.1, vi t13.2], vp b5 0, s1, .tuple #[TNode.val t13.1, vi t13.2], TNode.val t13.1, vi t13.2, .agg #[vi 0, vi 0, vu 0, vu 0, vu 0, vu 0], vp b5 0, s1, vb true, Z, Z, Z, Z, Z, Z, Z, Z, Z, Z, Z, Z, Z, Z, Z, Z, Z, Z, Z, Z, Z], []⟩ w45 (fun K => by kernel_rfl) ?_
        refine WPI.done rfl ?_
        refine then_n ?_
        refine WP.seq ?_
        refine WP.region ?_
        refine WPI.run 1 ⟨#[.agg #[s1, s3], vp b5 0, vb false, vp b17 0, vi t13.2, vi 3, vp b23 0, .agg #[s1, s3], vb false, .tuple #[TNode.val t13.1, vi t13.2], vp b5 0, s1, .tuple #[TNode.val t13.1, vi t13.2], TNode.val t13.1, vi t13.2, .agg #[vi 0, vi 0, vu 0, vu 0, vu 0, vu 0], vp b5 0, s1, vb true, vp b5 0, Z, Z, Z, Z, Z, Z, Z, Z, Z, Z, Z, Z, Z, Z, Z, Z, Z, Z, Z, Z], []⟩ w45 (fun K => by kernel_rfl) ?_
        refine WPI.value (v := s1) rfl (by kernel_rfl) (ev_loadBox H47 2 rfl 22 (.tmp 19) 0 (s1) rfl (by kernel_rfl) (by kernel_rfl)) ?_
        refine WPI.run 0 ⟨#[.agg #[s1, s3], vp b5 0, vb false, vp b17 0, vi t13.2, vi 3, vp b23 0, .agg #[s1, s3], vb false, .tuple #[TNode.val t13.1, vi t13.2], vp b5 0, s1, .tuple #[TNode.val t13.1, vi t13.2], TNode.val t13.1, vi t13.2, .agg #[vi 0, vi 0, vu 0, vu 0, vu 0, vu 0], vp b5 0, s1, vb true, vp b5 0, s1, Z, Z, Z, Z, Z, Z, Z, Z, Z, Z, Z, Z, Z, Z, Z, Z, Z, Z, Z], []⟩ w45 (fun K => by kernel_rfl) ?_
        refine WPI.value (v := vi (((List.length l2 : Nat) : Int))) rfl (by kernel_rfl) (ev_len (Rd.sl hs1) 22 (.tmp 20) 33 6 48 rfl (by kernel_rfl) (by kernel_rfl)) ?_
        obtain ⟨c48, hc48, h⟩ := lt_some h
        refine WPI.run 1 ⟨#[.agg #[s1, s3], vp b5 0, vb false, vp b17 0, vi t13.2, vi 3, vp b23 0, .agg #[s1, s3], vb false, .tuple #[TNode.val t13.1, vi t13.2], vp b5 0, s1, .tuple #[TNode.val t13.1, vi t13.2], TNode.val t13.1, vi t13.2, .agg #[vi 0, vi 0, vu 0, vu 0, vu 0, vu 0], vp b5 0, s1, vb true, vp b5 0, s1, vi (((List.length l2 : Nat) : Int)), vb c48, Z, Z, Z, Z, Z, Z, Z, Z, Z, Z, Z, Z, Z, Z, Z, Z, Z], []⟩ w45 (fun K => by subst hc48; kernel_rfl) ?_
        refine WPI.done rfl ?_
        refine then_n ?_
        cases c48 with
        | false =>
          replace h := br_f h
          refine WP.condF (by kernel_rfl) ?_
          refine WP.skip ?_
          exact then_n ⟨(TNode.mk 0 (TRank.mk 0 (TU256.mk 0 0 0 0))), 3, _, _, _, _, _, _, _, _, _, _, _, _, rfl, St.sel H47 [0, 1, 2] (by decide) rfl, h⟩
        | true =>
          replace h := br_t h
          refine WP.condT (by kernel_rfl) ?_
          obtain ⟨K55, hK55, h⟩ := jn_some h
          refine WP.draw (by kernel_rfl) (by kernel_rfl) (fun a w => ∃ (x49 : TNode) (g50 g51 g52 g53 g54 : Value), a = ⟨#[.agg #[s1, s3], vp b5 0, vb false, vp b17 0, vi t13.2, vi 0, vp b23 0, .agg #[s1, s3], vb false, .tuple #[TNode.val t13.1, vi t13.2], vp b5 0, s1, .tuple #[TNode.val t13.1, vi t13.2], TNode.val t13.1, vi t13.2, .agg #[vi 0, vi 0, vu 0, vu 0, vu 0, vu 0], vp b5 0, s1, vb true, vp b5 0, s1, vi (((List.length l2 : Nat) : Int)), vb true, g50, g51, g52, g53, g54, Z, Z, Z, Z, Z, Z, Z, Z, Z, Z, Z, Z], []⟩ ∧ St no w0 w [Box b23 (TNode.cs x49).toArray 33, Box b17 (TNode.cs t13.1).toArray 33, Box b5 #[s1, s3] 25] ∧ K55 x49 = some r) 7 #[false, false, false, false, false, false, false] (by kernel_rfl) (by kernel_rfl) ?_ ?_
          · skip
            have H56 := St.drew H47
            obtain ⟨t57, ht57, h⟩ := bd_some h
            obtain ⟨hg61, h⟩ := gd_some h
            obtain ⟨x62, hx62, h⟩ := bd_some h
            refine WA.take 0 (v := vp b5 0) rfl (by kernel_rfl) (by kernel_rfl) (fun w => by kernel_rfl) (fun w => by kernel_rfl) (l' := #[true, false, false, false, false, false, false]) (by kernel_rfl) ?_
            refine WA.any [1] (by kernel_rfl) (by simp) ?_
            simp only [List.mem_singleton, forall_eq]
            refine WO.op rfl (Op1.val (v := s1) (by kernel_rfl) (ev_loadBox H56 2 rfl 22 (.tmp 23) 0 (s1) rfl (by kernel_rfl) (by kernel_rfl)) ?_)
            refine WA.lst (l := #[true, true, false, false, false, false, false]) (by kernel_rfl) ?_
            refine WA.any [2] (by kernel_rfl) (by simp) ?_
            simp only [List.mem_singleton, forall_eq]
            refine WO.op rfl (Op1.call (by kernel_rfl) (by kernel_rfl) (g_tarnref12_Order_w fuel s1 l2 t57 ht57 _ (Rd.arg0 hs1 H56)) ?_)
            rintro s58 w63 ⟨_, rfl, Hc64⟩
            have H65 := St.call0 H56 Hc64
            clear H56 Hc64
            have sf60 := Own.isSl (St.get H65 0 rfl)
            refine WA.lst (l := #[true, true, true, false, false, false, false]) (by kernel_rfl) ?_
            refine WA.take 3 (v := va (slAt s58 6 (Int.toNat 0))) rfl (by kernel_rfl) (by kernel_rfl) (fun w => ev_index sf60 22 (.tmp 25) (.const (vi 0)) 33 6 48 .i64 0 rfl (by kernel_rfl) (by kernel_rfl) (by kernel_rfl) hg61) (fun w => by kernel_rfl) (l' := #[true, true, true, true, false, false, false]) (by kernel_rfl) ?_
            refine WA.take 5 (v := vi 0) rfl (by kernel_rfl) (by kernel_rfl) (fun w => by kernel_rfl) (fun w => by kernel_rfl) (l' := #[true, true, true, true, false, true, false]) (by kernel_rfl) ?_
            refine WA.any [4] (by kernel_rfl) (by simp) ?_
            simp only [List.mem_singleton, forall_eq]
            refine WO.op rfl (Op1.val (v := TNode.val x62) (by kernel_rfl) (ev_loadEl (F := fTNode) (St.rd H65 0 rfl) (hp_no_le _) hx62 33 (.tmp 26) 0 (TNode.val x62) rfl (by kernel_rfl) (by kernel_rfl)) ?_)
            refine WA.lst (l := #[true, true, true, true, true, true, false]) (by kernel_rfl) ?_
            refine WA.any [6] (by kernel_rfl) (by simp) ?_
            simp only [List.mem_singleton, forall_eq]
            refine WO.op rfl (Op1.storeBox H65 1 rfl (by kernel_rfl) 33 (.tmp 6) (.tmp 27) 0 (TNode.val x62) (TNode.cs x62).toArray true rfl (by kernel_rfl) (by kernel_rfl) (by kernel_rfl) (by kernel_rfl) (by kernel_rfl) (flat_one1 fTNode x62) (fun w66 H67 => ?_))
            clear H65
            refine WA.lst (l := #[true, true, true, true, true, true, true]) (by kernel_rfl) ?_
            refine WA.done (by kernel_rfl) ?_
            exact ⟨x62, (vp b5 0), s1, s58, (va (slAt s58 6 (Int.toNat 0))), (TNode.val x62), (by kernel_rfl), St.sel H67 [0, 2, 3] (by decide) rfl, h⟩
          · rintro a w ⟨x49, g50, g51, g52, g53, g54, rfl, H, h⟩
            subst hK55
            obtain ⟨w68, rfl⟩ : ∃ x, x = w := ⟨_, rfl⟩
            have H69 := H; clear H
            exact then_n ⟨x49, 0, _, _, _, _, _, _, _, _, _, _, _, _, rfl, St.sel H69 [0, 1, 2] (by decide) rfl, h⟩
    · rintro a w ⟨x29, x30, g31, g32, g33, g34, g35, g36, g37, g38, g39, g40, g41, g42, rfl, H, h⟩
      subst hK43
      obtain ⟨w70, rfl⟩ : ∃ x, x = w := ⟨_, rfl⟩
      have H71 := H; clear H
      refine WP.seq ?_
      obtain ⟨K85, hK85, h⟩ := jn_some h
      refine WP.onlyN (fun a w => ∃ (c72 : Bool) (g73 g74 g75 g76 g77 g78 g79 g80 g81 g82 g83 g84 : Value), a = ⟨#[.agg #[s1, s3], vp b5 0, vb c72, vp b17 0, vi t13.2, vi x30, vp b23 0, .agg #[s1, s3], vb false, .tuple #[TNode.val t13.1, vi t13.2], vp b5 0, s1, .tuple #[TNode.val t13.1, vi t13.2], TNode.val t13.1, vi t13.2, .agg #[vi 0, vi 0, vu 0, vu 0, vu 0, vu 0], g31, g32, g33, g34, g35, g36, g37, g38, g39, g40, g41, g42, g73, g74, g75, g76, g77, g78, g79, g80, g81, g82, g83, g84], []⟩ ∧ St no w0 w [Box b23 (TNode.cs x29).toArray 33, Box b17 (TNode.cs t13.1).toArray 33, Box b5 #[s1, s3] 25] ∧ K85 c72 = some r) ?_ ?_
      · skip
        refine WP.region ?_
        obtain ⟨t86, ht86, h⟩ := bd_some h
        refine WPI.run 1 ⟨#[.agg #[s1, s3], vp b5 0, vb false, vp b17 0, vi t13.2, vi x30, vp b23 0, .agg #[s1, s3], vb false, .tuple #[TNode.val t13.1, vi t13.2], vp b5 0, s1, .tuple #[TNode.val t13.1, vi t13.2], TNode.val t13.1, vi t13.2, .agg #[vi 0, vi 0, vu 0, vu 0, vu 0, vu 0], g31, g32, g33, g34, g35, g36, g37, g38, g39, g40, g41, g42, vi t13.2, Z, Z, Z, Z, Z, Z, Z, Z, Z, Z, Z], []⟩ w70 (fun K => by kernel_rfl) ?_
        refine WPI.op rfl (Op1.call (by kernel_rfl) (by kernel_rfl) (g_tarnlaw13_num_w fuel t13.2 t86 ht86 _) ?_)
        rintro _ w87 ⟨rfl, Hc88⟩
        have H89 := St.call0' H71 Hc88
        clear H71 Hc88
        obtain ⟨c90, hc90, h⟩ := lt_some h
        refine WPI.run 3 ⟨#[.agg #[s1, s3], vp b5 0, vb false, vp b17 0, vi t13.2, vi x30, vp b23 0, .agg #[s1, s3], vb false, .tuple #[TNode.val t13.1, vi t13.2], vp b5 0, s1, .tuple #[TNode.val t13.1, vi t13.2], TNode.val t13.1, vi t13.2, .agg #[vi 0, vi 0, vu 0, vu 0, vu 0, vu 0], g31, g32, g33, g34, g35, g36, g37, g38, g39, g40, g41, g42, vi t13.2, vi t86, vi x30, vb c90, vb c90, Z, Z, Z, Z, Z, Z, Z], []⟩ w87 (fun K => by subst hc90; kernel_rfl) ?_
        cases c90 with
        | false =>
          replace h := br_f h
          refine WPI.run 8 ⟨#[.agg #[s1, s3], vp b5 0, vb false, vp b17 0, vi t13.2, vi x30, vp b23 0, .agg #[s1, s3], vb false, .tuple #[TNode.val t13.1, vi t13.2], vp b5 0, s1, .tuple #[TNode.val t13.1, vi t13.2], TNode.val t13.1, vi t13.2, .agg #[vi 0, vi 0, vu 0, vu 0, vu 0, vu 0], g31, g32, g33, g34, g35, g36, g37, g38, g39, g40, g41, g42, vi t13.2, vi t86, vi x30, vb false, vb false, Z, Z, Z, vb false, vb false, Z, vb false], []⟩ w87 (fun K => by kernel_rfl) ?_
          refine WPI.done rfl ?_
          exact ⟨false, _, _, _, _, _, _, _, _, _, _, _, _, rfl, St.sel H89 [0, 1, 2] (by decide) rfl, h⟩
        | true =>
          replace h := br_t h
          refine WPI.value (v := TNode.val t13.1) rfl (by kernel_rfl) (ev_loadBox H89 1 rfl 33 (.tmp 3) 0 (TNode.val t13.1) rfl (by kernel_rfl) (by kernel_rfl)) ?_
          refine WPI.run 0 ⟨#[.agg #[s1, s3], vp b5 0, vb false, vp b17 0, vi t13.2, vi x30, vp b23 0, .agg #[s1, s3], vb false, .tuple #[TNode.val t13.1, vi t13.2], vp b5 0, s1, .tuple #[TNode.val t13.1, vi t13.2], TNode.val t13.1, vi t13.2, .agg #[vi 0, vi 0, vu 0, vu 0, vu 0, vu 0], g31, g32, g33, g34, g35, g36, g37, g38, g39, g40, g41, g42, vi t13.2, vi t86, vi x30, vb true, vb true, TNode.val t13.1, Z, Z, Z, Z, Z, Z], []⟩ w87 (fun K => by kernel_rfl) ?_
          refine WPI.value (v := TNode.val x29) rfl (by kernel_rfl) (ev_loadBox H89 0 rfl 33 (.tmp 6) 0 (TNode.val x29) rfl (by kernel_rfl) (by kernel_rfl)) ?_
          obtain ⟨c91, hc91, h⟩ := lt_some h
          refine WPI.run 0 ⟨#[.agg #[s1, s3], vp b5 0, vb false, vp b17 0, vi t13.2, vi x30, vp b23 0, .agg #[s1, s3], vb false, .tuple #[TNode.val t13.1, vi t13.2], vp b5 0, s1, .tuple #[TNode.val t13.1, vi t13.2], TNode.val t13.1, vi t13.2, .agg #[vi 0, vi 0, vu 0, vu 0, vu 0, vu 0], g31, g32, g33, g34, g35, g36, g37, g38, g39, g40, g41, g42, vi t13.2, vi t86, vi x30, vb true, vb true, TNode.val t13.1, TNode.val x29, Z, Z, Z, Z, Z], []⟩ w87 (fun K => by kernel_rfl) ?_
          refine WPI.value (v := vb c91) rfl (by kernel_rfl) (by subst hc91; exact ev_eqlS (F := fTNode) 33 33 (.tmp 33) (.tmp 34) t13.1 x29 eqok_33 rfl (TNode.cs t13.1).toArray (TNode.cs x29).toArray rfl rfl (by kernel_rfl) (by kernel_rfl) (by kernel_rfl)) ?_
          refine WPI.run 2 ⟨#[.agg #[s1, s3], vp b5 0, vb false, vp b17 0, vi t13.2, vi x30, vp b23 0, .agg #[s1, s3], vb false, .tuple #[TNode.val t13.1, vi t13.2], vp b5 0, s1, .tuple #[TNode.val t13.1, vi t13.2], TNode.val t13.1, vi t13.2, .agg #[vi 0, vi 0, vu 0, vu 0, vu 0, vu 0], g31, g32, g33, g34, g35, g36, g37, g38, g39, g40, g41, g42, vi t13.2, vi t86, vi x30, vb true, vb true, TNode.val t13.1, TNode.val x29, vb c91, vb c91, vb c91, Z, Z], []⟩ w87 (fun K => by kernel_rfl) ?_
          cases c91 with
          | false =>
            replace h := br_f h
            refine WPI.run 3 ⟨#[.agg #[s1, s3], vp b5 0, vb false, vp b17 0, vi t13.2, vi x30, vp b23 0, .agg #[s1, s3], vb false, .tuple #[TNode.val t13.1, vi t13.2], vp b5 0, s1, .tuple #[TNode.val t13.1, vi t13.2], TNode.val t13.1, vi t13.2, .agg #[vi 0, vi 0, vu 0, vu 0, vu 0, vu 0], g31, g32, g33, g34, g35, g36, g37, g38, g39, g40, g41, g42, vi t13.2, vi t86, vi x30, vb true, vb true, TNode.val t13.1, TNode.val x29, vb false, vb false, vb false, Z, vb false], []⟩ w87 (fun K => by kernel_rfl) ?_
            refine WPI.done rfl ?_
            exact ⟨false, _, _, _, _, _, _, _, _, _, _, _, _, rfl, St.sel H89 [0, 1, 2] (by decide) rfl, h⟩
          | true =>
            replace h := br_t h
            obtain ⟨t92, ht92, h⟩ := bd_some h
            refine WPI.op rfl (Op1.call (by kernel_rfl) (by kernel_rfl) (g_tarnlaw13_wakes_w fuel t92 ht92 _) ?_)
            rintro _ w93 ⟨rfl, Hc94⟩
            have H95 := St.call0' H89 Hc94
            clear H89 Hc94
            refine WPI.run 2 ⟨#[.agg #[s1, s3], vp b5 0, vb t92, vp b17 0, vi t13.2, vi x30, vp b23 0, .agg #[s1, s3], vb false, .tuple #[TNode.val t13.1, vi t13.2], vp b5 0, s1, .tuple #[TNode.val t13.1, vi t13.2], TNode.val t13.1, vi t13.2, .agg #[vi 0, vi 0, vu 0, vu 0, vu 0, vu 0], g31, g32, g33, g34, g35, g36, g37, g38, g39, g40, g41, g42, vi t13.2, vi t86, vi x30, vb true, vb true, TNode.val t13.1, TNode.val x29, vb true, vb true, vb true, vb t92, vb t92], []⟩ w93 (fun K => by kernel_rfl) ?_
            refine WPI.done rfl ?_
            exact ⟨t92, _, _, _, _, _, _, _, _, _, _, _, _, rfl, St.sel H95 [0, 1, 2] (by decide) rfl, h⟩
      · rintro a w ⟨c72, g73, g74, g75, g76, g77, g78, g79, g80, g81, g82, g83, g84, rfl, H, h⟩
        subst hK85
        obtain ⟨w96, rfl⟩ : ∃ x, x = w := ⟨_, rfl⟩
        have H97 := H; clear H
        refine then_n ?_
        refine WP.ret ?_
        obtain rfl := Option.some.inj h
        exact post_r (vb c72) rfl (by kernel_rfl) ⟨rfl, St.sel H97 [] (by decide) rfl⟩
  | true =>
    replace h := br_t h
    refine WP.condT (by kernel_rfl) ?_
    refine WP.seq ?_
    refine WP.region ?_
    refine WPI.run 1 ⟨#[.agg #[s1, s3], vp b5 0, vb true, Z, Z, Z, Z, .agg #[s1, s3], vb true, Z, Z, Z, Z, Z, Z, Z, Z, Z, Z, Z, Z, Z, Z, Z, Z, Z, Z, Z, Z, Z, Z, Z, Z, Z, Z, Z, Z, Z, Z, Z], []⟩ w10 (fun K => by kernel_rfl) ?_
    refine WPI.done rfl ?_
    refine then_n ?_
    refine WP.ret ?_
    obtain rfl := Option.some.inj h
    exact then_r (post_r (vb true) rfl (by kernel_rfl) ⟨rfl, St.sel H12 [] (by decide) rfl⟩)
end Go.Proofs
