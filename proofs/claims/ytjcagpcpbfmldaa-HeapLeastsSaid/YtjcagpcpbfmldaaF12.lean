import Derived.Test.YtjcagpcpbfmldaaGw
import Derived.Test.YtjcagpcpbfmldaaProg
import Derived.Test.YtjcagpcpbfmldaaT
import Derived.Test.YtjcagpcpbfmldaaF26
set_option linter.unusedVariables false
set_option linter.unusedSimpArgs false
set_option maxRecDepth 100000
set_option maxHeartbeats 4000000
namespace Go.Proofs
open Gw Go.RowKit
/- tarn/heap.Least -/
def g_heap_Least (fuel : Nat) (l2 : List TNode) : Option (TNode × Int) :=
  bd (g_heap_Check fuel l2) fun t7 => lt (t7 != 0) fun c11 => br c11 (some (TNode.mk 0 (TRank.mk 0 (TU256.mk 0 0 0 0)), 1)) (lt ((((List.length l2 : Nat) : Int)) == 0) fun c12 => br c12 (some (TNode.mk 0 (TRank.mk 0 (TU256.mk 0 0 0 0)), 3)) (gd ((0 : Int) ≤ 0 ∧ 0 < ((List.length l2 : Nat) : Int)) <| bd (l2[Int.toNat 0]?) fun x14 => some (x14, 0)))
theorem g_heap_Least_w (fuel : Nat) (s1 : Value) (l2 : List TNode) (r : TNode × Int) (h : g_heap_Least fuel l2 = some r) (w0 : World) (hs1 : Rd fTNode (hp no w0) s1 l2) :
    Ret Try.prog 12 #[s1] w0 (fun v w' => v = .tuple #[TNode.val r.1, vi r.2] ∧ St no w0 w' []) := by
  unfold g_heap_Least at h
  refine ret_of_wp Try.func12 rfl #[s1, Z, Z, Z, Z, Z, Z, Z, Z, Z, Z, Z, Z, Z, Z, Z, Z] (by kernel_rfl) ?_
  have H0 := St.start w0
  refine WP.seq ?_
  refine WP.region ?_
  refine WPI.op rfl (Op1.alloc H0 #[vi 0, vi 0, vu 0, vu 0, vu 0, vu 0] (by kernel_rfl) 33 rfl (by kernel_rfl) (fun b3 w5 H6 => ?_))
  refine WPI.run 1 ⟨#[s1, Z, vp b3 0, vi 0, Z, Z, Z, Z, Z, Z, Z, Z, Z, Z, Z, Z, Z], []⟩ w5 (fun K => by kernel_rfl) ?_
  refine WPI.done rfl ?_
  refine then_n ?_
  refine WP.seq ?_
  refine WP.block ?_
  refine WP.seq ?_
  refine WP.region ?_
  obtain ⟨t7, ht7, h⟩ := bd_some h
  refine WPI.run 1 ⟨#[s1, Z, vp b3 0, vi 0, Z, s1, Z, Z, Z, Z, Z, Z, Z, Z, Z, Z, Z], []⟩ w5 (fun K => by kernel_rfl) ?_
  refine WPI.op rfl (Op1.call (by kernel_rfl) (by kernel_rfl) (g_heap_Check_w fuel s1 l2 t7 ht7 _ (Rd.arg0 hs1 H6)) ?_)
  rintro _ w8 ⟨rfl, Hc9⟩
  have H10 := St.call0' H6 Hc9
  clear H6 Hc9
  obtain ⟨c11, hc11, h⟩ := lt_some h
  refine WPI.run 2 ⟨#[s1, Z, vp b3 0, vi 0, vb c11, s1, vi t7, vb c11, Z, Z, Z, Z, Z, Z, Z, Z, Z], []⟩ w8 (fun K => by subst hc11; kernel_rfl) ?_
  refine WPI.done rfl ?_
  refine then_n ?_
  cases c11 with
  | false =>
    replace h := br_f h
    refine WP.condF (by kernel_rfl) ?_
    refine WP.seq ?_
    refine WP.region ?_
    refine WPI.run 1 ⟨#[s1, Z, vp b3 0, vi 0, vb false, s1, vi t7, vb false, Z, Z, s1, Z, Z, Z, Z, Z, Z], []⟩ w8 (fun K => by kernel_rfl) ?_
    refine WPI.value (v := vi (((List.length l2 : Nat) : Int))) rfl (by kernel_rfl) (ev_len (Rd.sl hs1) 22 (.tmp 10) 33 6 48 rfl (by kernel_rfl) (by kernel_rfl)) ?_
    obtain ⟨c12, hc12, h⟩ := lt_some h
    refine WPI.run 2 ⟨#[s1, Z, vp b3 0, vi 0, vb false, s1, vi t7, vb false, Z, vb c12, s1, vi (((List.length l2 : Nat) : Int)), vb c12, Z, Z, Z, Z], []⟩ w8 (fun K => by subst hc12; kernel_rfl) ?_
    refine WPI.done rfl ?_
    refine then_n ?_
    cases c12 with
    | false =>
      replace h := br_f h
      refine WP.condF (by kernel_rfl) ?_
      refine WP.skip ?_
      refine inb_n (then_n ?_)
      refine WP.seq ?_
      refine WP.region ?_
      obtain ⟨hg13, h⟩ := gd_some h
      refine WPI.run 1 ⟨#[s1, Z, vp b3 0, vi 0, vb false, s1, vi t7, vb false, Z, vb false, s1, vi (((List.length l2 : Nat) : Int)), vb false, Z, s1, Z, Z], []⟩ w8 (fun K => by kernel_rfl) ?_
      refine WPI.value (v := va (slAt s1 6 (Int.toNat 0))) rfl (by kernel_rfl) (ev_index (Rd.sl hs1) 22 (.tmp 14) (.const (vi 0)) 33 6 48 .i64 0 rfl (by kernel_rfl) (by kernel_rfl) (by kernel_rfl) hg13) ?_
      obtain ⟨x14, hx14, h⟩ := bd_some h
      refine WPI.run 0 ⟨#[s1, Z, vp b3 0, vi 0, vb false, s1, vi t7, vb false, Z, vb false, s1, vi (((List.length l2 : Nat) : Int)), vb false, Z, s1, va (slAt s1 6 (Int.toNat 0)), Z], []⟩ w8 (fun K => by kernel_rfl) ?_
      refine WPI.value (v := TNode.val x14) rfl (by kernel_rfl) (ev_loadEl (F := fTNode) hs1 (St.hp_le H10) hx14 33 (.tmp 15) 0 (TNode.val x14) rfl (by kernel_rfl) (by kernel_rfl)) ?_
      refine WPI.run 0 ⟨#[s1, Z, vp b3 0, vi 0, vb false, s1, vi t7, vb false, Z, vb false, s1, vi (((List.length l2 : Nat) : Int)), vb false, Z, s1, va (slAt s1 6 (Int.toNat 0)), TNode.val x14], []⟩ w8 (fun K => by kernel_rfl) ?_
      refine WPI.op rfl (Op1.storeBox H10 0 rfl (by kernel_rfl) 33 (.tmp 2) (.tmp 16) 0 (TNode.val x14) (TNode.cs x14).toArray true rfl (by kernel_rfl) (by kernel_rfl) (by kernel_rfl) (by kernel_rfl) (by kernel_rfl) (flat_one1 fTNode x14) (fun w15 H16 => ?_))
      clear H10
      refine WPI.run 1 ⟨#[s1, Z, vp b3 0, vi 0, vb false, s1, vi t7, vb false, Z, vb false, s1, vi (((List.length l2 : Nat) : Int)), vb false, Z, s1, va (slAt s1 6 (Int.toNat 0)), TNode.val x14], []⟩ w15 (fun K => by kernel_rfl) ?_
      refine WPI.done rfl ?_
      refine then_n ?_
      refine WP.ret ?_
      obtain rfl := Option.some.inj h
      exact post_r (.tuple #[TNode.val x14, vi 0]) rfl (results_cell_tmp rfl (by kernel_rfl) (by kernel_rfl) (run_loadAt (ad := (⟨b3, 0, none⟩ : Addr)) (off := 0) (St.boxAt H16 0 rfl) (le_self _) (by kernel_rfl))) ⟨rfl, St.sel H16 [] (by decide) rfl⟩
    | true =>
      replace h := br_t h
      refine WP.condT (by kernel_rfl) ?_
      refine WP.seq ?_
      refine WP.region ?_
      refine WPI.run 1 ⟨#[s1, Z, vp b3 0, vi 0, vb false, s1, vi t7, vb false, Z, vb true, s1, vi (((List.length l2 : Nat) : Int)), vb true, .agg #[vi 0, vi 0, vu 0, vu 0, vu 0, vu 0], Z, Z, Z], []⟩ w8 (fun K => by kernel_rfl) ?_
      refine WPI.op rfl (Op1.storeBox H10 0 rfl (by kernel_rfl) 33 (.tmp 2) (.tmp 13) 0 (.agg #[vi 0, vi 0, vu 0, vu 0, vu 0, vu 0]) #[vi 0, vi 0, vu 0, vu 0, vu 0, vu 0] true rfl (by kernel_rfl) (by kernel_rfl) (by kernel_rfl) (by kernel_rfl) (by kernel_rfl) (flat_one1 fTNode (TNode.mk 0 (TRank.mk 0 (TU256.mk 0 0 0 0)))) (fun w17 H18 => ?_))
      clear H10
      refine WPI.run 1 ⟨#[s1, Z, vp b3 0, vi 3, vb false, s1, vi t7, vb false, Z, vb true, s1, vi (((List.length l2 : Nat) : Int)), vb true, .agg #[vi 0, vi 0, vu 0, vu 0, vu 0, vu 0], Z, Z, Z], []⟩ w17 (fun K => by kernel_rfl) ?_
      refine WPI.done rfl ?_
      refine then_n ?_
      refine WP.ret ?_
      obtain rfl := Option.some.inj h
      exact inb_r (then_r (post_r (.tuple #[.agg #[vi 0, vi 0, vu 0, vu 0, vu 0, vu 0], vi 3]) rfl (results_cell_tmp rfl (by kernel_rfl) (by kernel_rfl) (run_loadAt (ad := (⟨b3, 0, none⟩ : Addr)) (off := 0) (St.boxAt H18 0 rfl) (le_self _) (by kernel_rfl))) ⟨rfl, St.sel H18 [] (by decide) rfl⟩))
  | true =>
    replace h := br_t h
    refine WP.condT (by kernel_rfl) ?_
    refine WP.seq ?_
    refine WP.region ?_
    refine WPI.run 1 ⟨#[s1, Z, vp b3 0, vi 0, vb true, s1, vi t7, vb true, .agg #[vi 0, vi 0, vu 0, vu 0, vu 0, vu 0], Z, Z, Z, Z, Z, Z, Z, Z], []⟩ w8 (fun K => by kernel_rfl) ?_
    refine WPI.op rfl (Op1.storeBox H10 0 rfl (by kernel_rfl) 33 (.tmp 2) (.tmp 8) 0 (.agg #[vi 0, vi 0, vu 0, vu 0, vu 0, vu 0]) #[vi 0, vi 0, vu 0, vu 0, vu 0, vu 0] true rfl (by kernel_rfl) (by kernel_rfl) (by kernel_rfl) (by kernel_rfl) (by kernel_rfl) (flat_one1 fTNode (TNode.mk 0 (TRank.mk 0 (TU256.mk 0 0 0 0)))) (fun w19 H20 => ?_))
    clear H10
    refine WPI.run 1 ⟨#[s1, Z, vp b3 0, vi 1, vb true, s1, vi t7, vb true, .agg #[vi 0, vi 0, vu 0, vu 0, vu 0, vu 0], Z, Z, Z, Z, Z, Z, Z, Z], []⟩ w19 (fun K => by kernel_rfl) ?_
    refine WPI.done rfl ?_
    refine then_n ?_
    refine WP.ret ?_
    obtain rfl := Option.some.inj h
    exact inb_r (then_r (post_r (.tuple #[.agg #[vi 0, vi 0, vu 0, vu 0, vu 0, vu 0], vi 1]) rfl (results_cell_tmp rfl (by kernel_rfl) (by kernel_rfl) (run_loadAt (ad := (⟨b3, 0, none⟩ : Addr)) (off := 0) (St.boxAt H20 0 rfl) (le_self _) (by kernel_rfl))) ⟨rfl, St.sel H20 [] (by decide) rfl⟩))
end Go.Proofs
