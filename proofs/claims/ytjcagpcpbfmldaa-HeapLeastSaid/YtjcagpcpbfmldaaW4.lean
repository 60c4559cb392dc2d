import Derived.Test.YtjcagpcpbfmldaaGw
import Derived.Test.YtjcagpcpbfmldaaProg
import Derived.Test.YtjcagpcpbfmldaaT
import Derived.Test.YtjcagpcpbfmldaaW1
import Derived.Test.YtjcagpcpbfmldaaW2
import Derived.Test.YtjcagpcpbfmldaaW3
set_option linter.unusedVariables false
set_option linter.unusedSimpArgs false
set_option maxRecDepth 100000
set_option maxHeartbeats 4000000
namespace Go.Proofs
open Gw Go.RowKit
/- tarn/heap.place$1 -/
def g_heap_place_1 (fuel : Nat) (p1 : TNode) (p3 : Int) : Option Bool :=
  lt (p1.Acct == p3) fun c8 => some c8
theorem g_heap_place_1_w (fuel : Nat) (p1 : TNode) (b2 : Nat) (p3 : Int) (r : Bool) (h : g_heap_place_1 fuel p1 p3 = some r) (w0 : World) (hbb2 : CellsAt (hp no w0) ⟨b2, 0, none⟩ ([vi p3])) :
    Ret Try.prog 45 #[TNode.val p1, vp b2 0] w0 (fun v w' => v = vb r ∧ St no w0 w' []) := by
  unfold g_heap_place_1 at h
  refine ret_of_wp Try.func45 rfl #[TNode.val p1, vp b2 0, Z, Z, Z, Z, Z, Z] (by kernel_rfl) ?_
  have H0 := St.start w0
  refine WP.seq ?_
  refine WP.region ?_
  refine WPI.op rfl (Op1.box H0 (TNode.cs p1).toArray (by kernel_rfl) 33 (.tmp 0) rfl (by kernel_rfl) (fun b4 w6 H7 => ?_))
  refine WPI.run 1 ⟨#[TNode.val p1, vp b2 0, vp b4 0, vb false, Z, Z, Z, Z], []⟩ w6 (fun K => by kernel_rfl) ?_
  refine WPI.done rfl ?_
  refine then_n ?_
  refine WP.seq ?_
  refine WP.region ?_
  refine WPI.run 1 ⟨#[TNode.val p1, vp b2 0, vp b4 0, vb false, vp b4 0, Z, Z, Z], []⟩ w6 (fun K => by kernel_rfl) ?_
  refine WPI.value (v := vi p1.Acct) rfl (by kernel_rfl) (ev_loadBox H7 0 rfl 3 (.tmp 4) 0 (vi p1.Acct) rfl (by kernel_rfl) (by kernel_rfl)) ?_
  refine WPI.run 0 ⟨#[TNode.val p1, vp b2 0, vp b4 0, vb false, vp b4 0, vi p1.Acct, Z, Z], []⟩ w6 (fun K => by kernel_rfl) ?_
  refine WPI.value (v := vi p3) rfl (by kernel_rfl) (ev_load 3 (.tmp 1) 0 (vi p3) hbb2 (St.hp_le H7) rfl (by kernel_rfl) (by kernel_rfl)) ?_
  obtain ⟨c8, hc8, h⟩ := lt_some h
  refine WPI.run 2 ⟨#[TNode.val p1, vp b2 0, vp b4 0, vb c8, vp b4 0, vi p1.Acct, vi p3, vb c8], []⟩ w6 (fun K => by subst hc8; kernel_rfl) ?_
  refine WPI.done rfl ?_
  refine then_n ?_
  refine WP.ret ?_
  obtain rfl := Option.some.inj h
  exact post_r (vb c8) rfl (by kernel_rfl) ⟨rfl, St.sel H7 [] (by decide) rfl⟩
/- tarn/heap.place -/
def g_heap_place (fuel : Nat) (l2 : List TNode) (p3 : Int) : Option Int :=
  bd (g_slices_IndexFunc_api_Node_api_Node fuel l2 (fun x => g_heap_place_1 fuel x p3)) fun t8 => some t8
theorem g_heap_place_w (fuel : Nat) (s1 : Value) (l2 : List TNode) (p3 : Int) (r : Int) (h : g_heap_place fuel l2 p3 = some r) (w0 : World) (hs1 : Rd fTNode (hp no w0) s1 l2) :
    Ret Try.prog 30 #[s1, vi p3] w0 (fun v w' => v = vi r ∧ St no w0 w' []) := by
  unfold g_heap_place at h
  refine ret_of_wp Try.func30 rfl #[s1, vi p3, Z, Z, Z, Z, Z, Z] (by kernel_rfl) ?_
  have H0 := St.start w0
  refine WP.seq ?_
  refine WP.region ?_
  refine WPI.op rfl (Op1.box H0 #[vi p3] (by kernel_rfl) 3 (.tmp 1) rfl (by kernel_rfl) (fun b4 w6 H7 => ?_))
  refine WPI.run 1 ⟨#[s1, vi p3, Z, vp b4 0, vi 0, Z, Z, Z], []⟩ w6 (fun K => by kernel_rfl) ?_
  refine WPI.done rfl ?_
  refine then_n ?_
  refine WP.seq ?_
  refine WP.region ?_
  obtain ⟨t8, ht8, h⟩ := bd_some h
  refine WPI.run 2 ⟨#[s1, vi p3, Z, vp b4 0, vi 0, s1, Value.func (.func 45) #[] #[vp b4 0], Z], []⟩ w6 (fun K => by kernel_rfl) ?_
  refine WPI.op rfl (Op1.call (by kernel_rfl) (by kernel_rfl) (g_slices_IndexFunc_api_Node_api_Node_w fuel s1 l2 (Value.func (.func 45) #[] #[vp b4 0]) (fun x => g_heap_place_1 fuel x p3) (fun w : World => CellsAt (fun b => w.heap[b]?) ⟨b4, 0, none⟩ ([vi p3])) t8 ht8 _ (Rd.arg0 hs1 H7) (fnOk_mk 45 (fun args w => by kernel_rfl) (fun w w1 hc hb => CellsAt.below hc hb) (fun w x y hc hy => g_heap_place_1_w fuel x b4 p3 y hy w (by rw [hp_no]; exact hc))) (St.boxAt H7 0 rfl)) ?_)
  rintro _ w9 ⟨rfl, Hc10⟩
  have H11 := St.call0' H7 Hc10
  clear H7 Hc10
  refine WPI.run 1 ⟨#[s1, vi p3, Z, vp b4 0, vi t8, s1, Value.func (.func 45) #[] #[vp b4 0], vi t8], []⟩ w9 (fun K => by kernel_rfl) ?_
  refine WPI.done rfl ?_
  refine then_n ?_
  refine WP.ret ?_
  obtain rfl := Option.some.inj h
  exact post_r (vi t8) rfl (by kernel_rfl) ⟨rfl, St.sel H11 [] (by decide) rfl⟩
/- tarn/u256.Cmp -/
def g_u256_Cmp_l1 (p1 : TU256) (p2 : TU256) (K33 : Option Int) (fuel : Nat) : Nat → Int → Option Int
  | 0, _ => none
  | n + 1, x35 => lt (decide (x35 ≥ 0)) fun c58 => br c58 (gd ((0 : Int) ≤ x35 ∧ x35 < 4) <| bd (([p1.e0, p1.e1, p1.e2, p1.e3] : List Int)[Int.toNat x35]?) fun x60 => gd ((0 : Int) ≤ x35 ∧ x35 < 4) <| bd (([p2.e0, p2.e1, p2.e2, p2.e3] : List Int)[Int.toNat x35]?) fun x62 => lt (decide (x60 < x62)) fun c63 => br c63 (some ((-1))) (gd ((0 : Int) ≤ x35 ∧ x35 < 4) <| bd (([p1.e0, p1.e1, p1.e2, p1.e3] : List Int)[Int.toNat x35]?) fun x67 => gd ((0 : Int) ≤ x35 ∧ x35 < 4) <| bd (([p2.e0, p2.e1, p2.e2, p2.e3] : List Int)[Int.toNat x35]?) fun x69 => lt (decide (x67 > x69)) fun c70 => br c70 (some 1) (lt (wr .i64 (x35 - 1)) fun x73 => g_u256_Cmp_l1 p1 p2 K33 fuel n x73))) (K33)
def g_u256_Cmp (fuel : Nat) (p1 : TU256) (p2 : TU256) : Option Int :=
  jn (some 0) fun K33 => g_u256_Cmp_l1 p1 p2 K33 fuel fuel 3
theorem g_u256_Cmp_w (fuel : Nat) (p1 : TU256) (p2 : TU256) (r : Int) (h : g_u256_Cmp fuel p1 p2 = some r) (w0 : World) :
    Ret Try.prog 54 #[TU256.val p1, TU256.val p2] w0 (fun v w' => v = vi r ∧ St no w0 w' []) := by
  unfold g_u256_Cmp at h
  refine ret_of_wp Try.func54 rfl #[TU256.val p1, TU256.val p2, Z, Z, Z, Z, Z, Z, Z, Z, Z, Z, Z, Z, Z, Z, Z, Z, Z, Z, Z, Z, Z, Z, Z, Z] (by kernel_rfl) ?_
  have H0 := St.start w0
  refine WP.seq ?_
  refine WP.region ?_
  refine WPI.op rfl (Op1.box H0 (TU256.cs p1).toArray (by kernel_rfl) 29 (.tmp 0) rfl (by kernel_rfl) (fun b3 w5 H6 => ?_))
  refine WPI.run 0 ⟨#[TU256.val p1, TU256.val p2, vp b3 0, Z, Z, Z, Z, Z, Z, Z, Z, Z, Z, Z, Z, Z, Z, Z, Z, Z, Z, Z, Z, Z, Z, Z], []⟩ w5 (fun K => by kernel_rfl) ?_
  refine WPI.op rfl (Op1.box H6 (TU256.cs p2).toArray (by kernel_rfl) 29 (.tmp 1) rfl (by kernel_rfl) (fun b7 w9 H10 => ?_))
  clear H6
  refine WPI.run 1 ⟨#[TU256.val p1, TU256.val p2, vp b3 0, vp b7 0, vi 0, Z, Z, Z, Z, Z, Z, Z, Z, Z, Z, Z, Z, Z, Z, Z, Z, Z, Z, Z, Z, Z], []⟩ w9 (fun K => by kernel_rfl) ?_
  refine WPI.done rfl ?_
  refine then_n ?_
  refine WP.seq ?_
  refine WP.seq ?_
  refine WP.region ?_
  refine WPI.run 1 ⟨#[TU256.val p1, TU256.val p2, vp b3 0, vp b7 0, vi 0, vi 3, Z, Z, Z, Z, Z, Z, Z, Z, Z, Z, Z, Z, Z, Z, Z, Z, Z, Z, Z, Z], []⟩ w9 (fun K => by kernel_rfl) ?_
  refine WPI.done rfl ?_
  refine then_n ?_
  obtain ⟨K33, hK33, h⟩ := jn_some h
  refine WP.blockJ (fun a w => ∃ (g11 : Value) (g12 : Value) (g13 : Value) (g14 : Value) (g15 : Value) (g16 : Value) (g17 : Value) (g18 : Value) (g19 : Value) (g20 : Value) (g21 : Value) (g22 : Value) (g23 : Value) (g24 : Value) (g25 : Value) (g26 : Value) (g27 : Value) (g28 : Value) (g29 : Value) (g30 : Value) (g31 : Value) (g32 : Value), a = ⟨#[TU256.val p1, TU256.val p2, vp b3 0, vp b7 0, g11, g12, g13, g14, g15, g16, g17, g18, g19, g20, g21, g22, g23, g24, g25, g26, g27, g28, g29, g30, g31, g32], []⟩ ∧ St no w0 w [Box b7 (TU256.cs p2).toArray 29, Box b3 (TU256.cs p1).toArray 29] ∧ K33 = some r) ?_ ?_
  · skip
    refine WP.loop (fun n a w => ∃ (x35 : Int) (g34 : Value) (g36 : Value) (g37 : Value) (g38 : Value) (g39 : Value) (g40 : Value) (g41 : Value) (g42 : Value) (g43 : Value) (g44 : Value) (g45 : Value) (g46 : Value) (g47 : Value) (g48 : Value) (g49 : Value) (g50 : Value) (g51 : Value) (g52 : Value) (g53 : Value) (g54 : Value) (g55 : Value), a = ⟨#[TU256.val p1, TU256.val p2, vp b3 0, vp b7 0, g34, vi x35, g36, g37, g38, g39, g40, g41, g42, g43, g44, g45, g46, g47, g48, g49, g50, g51, g52, g53, g54, g55], []⟩ ∧ St no w0 w [Box b7 (TU256.cs p2).toArray 29, Box b3 (TU256.cs p1).toArray 29] ∧ g_u256_Cmp_l1 p1 p2 K33 fuel n x35 = some r) fuel ⟨3, _, _, _, _, _, _, _, _, _, _, _, _, _, _, _, _, _, _, _, _, _, rfl, St.sel H10 [0, 1] (by decide) rfl, h⟩ ?_
    rintro n a w ⟨x35, g34, g36, g37, g38, g39, g40, g41, g42, g43, g44, g45, g46, g47, g48, g49, g50, g51, g52, g53, g54, g55, rfl, H, h⟩
    cases n with
    | zero => rw [g_u256_Cmp_l1] at h; cases h
    | succ n =>
      rw [g_u256_Cmp_l1] at h
      obtain ⟨w56, rfl⟩ : ∃ x, x = w := ⟨_, rfl⟩
      have H57 := H; clear H
      refine WP.seq ?_
      refine WP.seq ?_
      refine WP.region ?_
      obtain ⟨c58, hc58, h⟩ := lt_some h
      refine WPI.run 2 ⟨#[TU256.val p1, TU256.val p2, vp b3 0, vp b7 0, g34, vi x35, vi x35, vb c58, g38, g39, g40, g41, g42, g43, g44, g45, g46, g47, g48, g49, g50, g51, g52, g53, g54, g55], []⟩ w56 (fun K => by subst hc58; kernel_rfl) ?_
      refine WPI.done rfl ?_
      refine then_n ?_
      cases c58 with
      | false =>
        replace h := br_f h
        refine WP.condF (by kernel_rfl) ?_
        refine WP.exit ?_
        exact then_e (then_e (inb_e (then_n ⟨_, _, _, _, _, _, _, _, _, _, _, _, _, _, _, _, _, _, _, _, _, _, rfl, St.sel H57 [0, 1] (by decide) rfl, h⟩)))
      | true =>
        replace h := br_t h
        refine WP.condT (by kernel_rfl) ?_
        refine WP.skip ?_
        refine then_n ?_
        refine WP.seq ?_
        refine WP.block ?_
        refine WP.block ?_
        refine WP.seq ?_
        refine WP.quiet (by kernel_rfl) (by kernel_rfl) (by kernel_rfl) (fun w => St no w0 w [Box b7 (TU256.cs p2).toArray 29, Box b3 (TU256.cs p1).toArray 29]) (St.drew H57) ?_
        refine WQ.value (v := vi x35) rfl (by kernel_rfl) (fun w _ => by kernel_rfl) ?_
        obtain ⟨hg59, h⟩ := gd_some h
        refine WQ.value (v := va (((⟨b3, 0, none⟩ : Addr).add 0).add (Int.toNat x35 * 1))) rfl (by kernel_rfl) (fun w H => ev_indexArr (ad := (⟨b3, 0, none⟩ : Addr).add 0) 29 (.tmp 2) (.tmp 11) 4 27 1 .i64 x35 rfl (by kernel_rfl) (by kernel_rfl) (by kernel_rfl) hg59) ?_
        obtain ⟨x60, hx60, h⟩ := bd_some h
        refine WQ.value (v := vu x60) rfl (by kernel_rfl) (fun w H => ev_load 27 (.tmp 12) 0 (vu x60) (CellsAt.elem fU64 (St.boxAt H 1 rfl) 0 [p1.e0, p1.e1, p1.e2, p1.e3] [] (by kernel_rfl) _ _ hx60) (le_self _) rfl (by kernel_rfl) (by kernel_rfl)) ?_
        refine WQ.value (v := vi x35) rfl (by kernel_rfl) (fun w _ => by kernel_rfl) ?_
        obtain ⟨hg61, h⟩ := gd_some h
        refine WQ.value (v := va (((⟨b7, 0, none⟩ : Addr).add 0).add (Int.toNat x35 * 1))) rfl (by kernel_rfl) (fun w H => ev_indexArr (ad := (⟨b7, 0, none⟩ : Addr).add 0) 29 (.tmp 3) (.tmp 14) 4 27 1 .i64 x35 rfl (by kernel_rfl) (by kernel_rfl) (by kernel_rfl) hg61) ?_
        obtain ⟨x62, hx62, h⟩ := bd_some h
        refine WQ.value (v := vu x62) rfl (by kernel_rfl) (fun w H => ev_load 27 (.tmp 15) 0 (vu x62) (CellsAt.elem fU64 (St.boxAt H 0 rfl) 0 [p2.e0, p2.e1, p2.e2, p2.e3] [] (by kernel_rfl) _ _ hx62) (le_self _) rfl (by kernel_rfl) (by kernel_rfl)) ?_
        obtain ⟨c63, hc63, h⟩ := lt_some h
        refine WQ.value (v := vb c63) rfl (by kernel_rfl) (fun w _ => by subst hc63; kernel_rfl) ?_
        refine WQ.value (v := vb c63) rfl (by kernel_rfl) (fun w _ => by kernel_rfl) ?_
        refine WQ.frame (a' := ⟨#[TU256.val p1, TU256.val p2, vp b3 0, vp b7 0, g34, vi x35, vi x35, vb true, g38, g39, vb c63, vi x35, va (((⟨b3, 0, none⟩ : Addr).add 0).add (Int.toNat x35 * 1)), vu x60, vi x35, va (((⟨b7, 0, none⟩ : Addr).add 0).add (Int.toNat x35 * 1)), vu x62, vb c63, g48, g49, g50, g51, g52, g53, g54, g55], []⟩) (by kernel_rfl) ?_
        refine WQ.done rfl ?_
        refine (fun w64 H65 => ?_)
        refine then_n ?_
        cases c63 with
        | false =>
          replace h := br_f h
          refine WP.condF (by kernel_rfl) ?_
          refine WP.seq ?_
          refine WP.quiet (by kernel_rfl) (by kernel_rfl) (by kernel_rfl) (fun w => St no w0 w [Box b7 (TU256.cs p2).toArray 29, Box b3 (TU256.cs p1).toArray 29]) (St.drew H65) ?_
          refine WQ.value (v := vi x35) rfl (by kernel_rfl) (fun w _ => by kernel_rfl) ?_
          obtain ⟨hg66, h⟩ := gd_some h
          refine WQ.value (v := va (((⟨b3, 0, none⟩ : Addr).add 0).add (Int.toNat x35 * 1))) rfl (by kernel_rfl) (fun w H => ev_indexArr (ad := (⟨b3, 0, none⟩ : Addr).add 0) 29 (.tmp 2) (.tmp 19) 4 27 1 .i64 x35 rfl (by kernel_rfl) (by kernel_rfl) (by kernel_rfl) hg66) ?_
          obtain ⟨x67, hx67, h⟩ := bd_some h
          refine WQ.value (v := vu x67) rfl (by kernel_rfl) (fun w H => ev_load 27 (.tmp 20) 0 (vu x67) (CellsAt.elem fU64 (St.boxAt H 1 rfl) 0 [p1.e0, p1.e1, p1.e2, p1.e3] [] (by kernel_rfl) _ _ hx67) (le_self _) rfl (by kernel_rfl) (by kernel_rfl)) ?_
          refine WQ.value (v := vi x35) rfl (by kernel_rfl) (fun w _ => by kernel_rfl) ?_
          obtain ⟨hg68, h⟩ := gd_some h
          refine WQ.value (v := va (((⟨b7, 0, none⟩ : Addr).add 0).add (Int.toNat x35 * 1))) rfl (by kernel_rfl) (fun w H => ev_indexArr (ad := (⟨b7, 0, none⟩ : Addr).add 0) 29 (.tmp 3) (.tmp 22) 4 27 1 .i64 x35 rfl (by kernel_rfl) (by kernel_rfl) (by kernel_rfl) hg68) ?_
          obtain ⟨x69, hx69, h⟩ := bd_some h
          refine WQ.value (v := vu x69) rfl (by kernel_rfl) (fun w H => ev_load 27 (.tmp 23) 0 (vu x69) (CellsAt.elem fU64 (St.boxAt H 0 rfl) 0 [p2.e0, p2.e1, p2.e2, p2.e3] [] (by kernel_rfl) _ _ hx69) (le_self _) rfl (by kernel_rfl) (by kernel_rfl)) ?_
          obtain ⟨c70, hc70, h⟩ := lt_some h
          refine WQ.value (v := vb c70) rfl (by kernel_rfl) (fun w _ => by subst hc70; kernel_rfl) ?_
          refine WQ.value (v := vb c70) rfl (by kernel_rfl) (fun w _ => by kernel_rfl) ?_
          refine WQ.frame (a' := ⟨#[TU256.val p1, TU256.val p2, vp b3 0, vp b7 0, g34, vi x35, vi x35, vb true, g38, g39, vb false, vi x35, va (((⟨b3, 0, none⟩ : Addr).add 0).add (Int.toNat x35 * 1)), vu x60, vi x35, va (((⟨b7, 0, none⟩ : Addr).add 0).add (Int.toNat x35 * 1)), vu x62, vb false, vb c70, vi x35, va (((⟨b3, 0, none⟩ : Addr).add 0).add (Int.toNat x35 * 1)), vu x67, vi x35, va (((⟨b7, 0, none⟩ : Addr).add 0).add (Int.toNat x35 * 1)), vu x69, vb c70], []⟩) (by kernel_rfl) ?_
          refine WQ.done rfl ?_
          refine (fun w71 H72 => ?_)
          refine then_n ?_
          cases c70 with
          | false =>
            replace h := br_f h
            refine WP.condF (by kernel_rfl) ?_
            refine WP.skip ?_
            refine inb_n (inb_n (then_n ?_))
            refine WP.region ?_
            obtain ⟨x73, hx73, h⟩ := lt_some h
            refine WPI.run 3 ⟨#[TU256.val p1, TU256.val p2, vp b3 0, vp b7 0, g34, vi x73, vi x35, vb true, vi x35, vi x73, vb false, vi x35, va (((⟨b3, 0, none⟩ : Addr).add 0).add (Int.toNat x35 * 1)), vu x60, vi x35, va (((⟨b7, 0, none⟩ : Addr).add 0).add (Int.toNat x35 * 1)), vu x62, vb false, vb false, vi x35, va (((⟨b3, 0, none⟩ : Addr).add 0).add (Int.toNat x35 * 1)), vu x67, vi x35, va (((⟨b7, 0, none⟩ : Addr).add 0).add (Int.toNat x35 * 1)), vu x69, vb false], []⟩ w71 (fun K => by subst hx73; kernel_rfl) ?_
            refine WPI.done rfl ?_
            exact then_n ⟨n, Nat.lt_succ_self n, x73, _, _, _, _, _, _, _, _, _, _, _, _, _, _, _, _, _, _, _, _, _, rfl, St.sel H72 [0, 1] (by decide) rfl, h⟩
          | true =>
            replace h := br_t h
            refine WP.condT (by kernel_rfl) ?_
            refine WP.seq ?_
            refine WP.region ?_
            refine WPI.run 1 ⟨#[TU256.val p1, TU256.val p2, vp b3 0, vp b7 0, vi 1, vi x35, vi x35, vb true, g38, g39, vb false, vi x35, va (((⟨b3, 0, none⟩ : Addr).add 0).add (Int.toNat x35 * 1)), vu x60, vi x35, va (((⟨b7, 0, none⟩ : Addr).add 0).add (Int.toNat x35 * 1)), vu x62, vb false, vb true, vi x35, va (((⟨b3, 0, none⟩ : Addr).add 0).add (Int.toNat x35 * 1)), vu x67, vi x35, va (((⟨b7, 0, none⟩ : Addr).add 0).add (Int.toNat x35 * 1)), vu x69, vb true], []⟩ w71 (fun K => by kernel_rfl) ?_
            refine WPI.done rfl ?_
            refine then_n ?_
            refine WP.ret ?_
            obtain rfl := Option.some.inj h
            exact inb_r (inb_r (then_r (then_r (inb_r (then_r (then_r (post_r (vi 1) rfl (by kernel_rfl) ⟨rfl, St.sel H72 [] (by decide) rfl⟩)))))))
        | true =>
          replace h := br_t h
          refine WP.condT (by kernel_rfl) ?_
          refine WP.seq ?_
          refine WP.region ?_
          refine WPI.run 1 ⟨#[TU256.val p1, TU256.val p2, vp b3 0, vp b7 0, vi ((-1)), vi x35, vi x35, vb true, g38, g39, vb true, vi x35, va (((⟨b3, 0, none⟩ : Addr).add 0).add (Int.toNat x35 * 1)), vu x60, vi x35, va (((⟨b7, 0, none⟩ : Addr).add 0).add (Int.toNat x35 * 1)), vu x62, vb true, g48, g49, g50, g51, g52, g53, g54, g55], []⟩ w64 (fun K => by kernel_rfl) ?_
          refine WPI.done rfl ?_
          refine then_n ?_
          refine WP.ret ?_
          obtain rfl := Option.some.inj h
          exact inb_r (inb_r (then_r (then_r (inb_r (then_r (then_r (post_r (vi ((-1))) rfl (by kernel_rfl) ⟨rfl, St.sel H65 [] (by decide) rfl⟩)))))))
  · rintro a w ⟨g11, g12, g13, g14, g15, g16, g17, g18, g19, g20, g21, g22, g23, g24, g25, g26, g27, g28, g29, g30, g31, g32, rfl, H, h⟩
    subst hK33
    obtain ⟨w74, rfl⟩ : ∃ x, x = w := ⟨_, rfl⟩
    have H75 := H; clear H
    refine then_n ?_
    refine WP.seq ?_
    refine WP.region ?_
    refine WPI.run 1 ⟨#[TU256.val p1, TU256.val p2, vp b3 0, vp b7 0, vi 0, g12, g13, g14, g15, g16, g17, g18, g19, g20, g21, g22, g23, g24, g25, g26, g27, g28, g29, g30, g31, g32], []⟩ w74 (fun K => by kernel_rfl) ?_
    refine WPI.done rfl ?_
    refine then_n ?_
    refine WP.ret ?_
    obtain rfl := Option.some.inj h
    exact post_r (vi 0) rfl (by kernel_rfl) ⟨rfl, St.sel H75 [] (by decide) rfl⟩
/- tarn/rank.Cmp -/
def g_rank_Cmp (fuel : Nat) (p1 : TRank) (p2 : TRank) : Option Int :=
  lt (decide (p1.Dist < p2.Dist)) fun c11 => br c11 (some ((-1))) (lt (decide (p1.Dist > p2.Dist)) fun c12 => br c12 (some 1) (bd (g_u256_Cmp fuel p1.Tip p2.Tip) fun t13 => some t13))
theorem g_rank_Cmp_w (fuel : Nat) (p1 : TRank) (p2 : TRank) (r : Int) (h : g_rank_Cmp fuel p1 p2 = some r) (w0 : World) :
    Ret Try.prog 51 #[TRank.val p1, TRank.val p2] w0 (fun v w' => v = vi r ∧ St no w0 w' []) := by
  unfold g_rank_Cmp at h
  refine ret_of_wp Try.func51 rfl #[TRank.val p1, TRank.val p2, Z, Z, Z, Z, Z, Z, Z, Z, Z, Z, Z, Z, Z, Z, Z, Z, Z, Z, Z, Z] (by kernel_rfl) ?_
  have H0 := St.start w0
  refine WP.seq ?_
  refine WP.region ?_
  refine WPI.op rfl (Op1.box H0 (TRank.cs p1).toArray (by kernel_rfl) 31 (.tmp 0) rfl (by kernel_rfl) (fun b3 w5 H6 => ?_))
  refine WPI.run 0 ⟨#[TRank.val p1, TRank.val p2, vp b3 0, Z, Z, Z, Z, Z, Z, Z, Z, Z, Z, Z, Z, Z, Z, Z, Z, Z, Z, Z], []⟩ w5 (fun K => by kernel_rfl) ?_
  refine WPI.op rfl (Op1.box H6 (TRank.cs p2).toArray (by kernel_rfl) 31 (.tmp 1) rfl (by kernel_rfl) (fun b7 w9 H10 => ?_))
  clear H6
  refine WPI.run 1 ⟨#[TRank.val p1, TRank.val p2, vp b3 0, vp b7 0, vi 0, Z, Z, Z, Z, Z, Z, Z, Z, Z, Z, Z, Z, Z, Z, Z, Z, Z], []⟩ w9 (fun K => by kernel_rfl) ?_
  refine WPI.done rfl ?_
  refine then_n ?_
  refine WP.seq ?_
  refine WP.block ?_
  refine WP.seq ?_
  refine WP.region ?_
  refine WPI.run 1 ⟨#[TRank.val p1, TRank.val p2, vp b3 0, vp b7 0, vi 0, Z, vp b3 0, Z, Z, Z, Z, Z, Z, Z, Z, Z, Z, Z, Z, Z, Z, Z], []⟩ w9 (fun K => by kernel_rfl) ?_
  refine WPI.value (v := vi p1.Dist) rfl (by kernel_rfl) (ev_loadBox H10 1 rfl 3 (.tmp 6) 0 (vi p1.Dist) rfl (by kernel_rfl) (by kernel_rfl)) ?_
  refine WPI.run 1 ⟨#[TRank.val p1, TRank.val p2, vp b3 0, vp b7 0, vi 0, Z, vp b3 0, vi p1.Dist, vp b7 0, Z, Z, Z, Z, Z, Z, Z, Z, Z, Z, Z, Z, Z], []⟩ w9 (fun K => by kernel_rfl) ?_
  refine WPI.value (v := vi p2.Dist) rfl (by kernel_rfl) (ev_loadBox H10 0 rfl 3 (.tmp 8) 0 (vi p2.Dist) rfl (by kernel_rfl) (by kernel_rfl)) ?_
  obtain ⟨c11, hc11, h⟩ := lt_some h
  refine WPI.run 2 ⟨#[TRank.val p1, TRank.val p2, vp b3 0, vp b7 0, vi 0, vb c11, vp b3 0, vi p1.Dist, vp b7 0, vi p2.Dist, vb c11, Z, Z, Z, Z, Z, Z, Z, Z, Z, Z, Z], []⟩ w9 (fun K => by subst hc11; kernel_rfl) ?_
  refine WPI.done rfl ?_
  refine then_n ?_
  cases c11 with
  | false =>
    replace h := br_f h
    refine WP.condF (by kernel_rfl) ?_
    refine WP.seq ?_
    refine WP.region ?_
    refine WPI.run 1 ⟨#[TRank.val p1, TRank.val p2, vp b3 0, vp b7 0, vi 0, vb false, vp b3 0, vi p1.Dist, vp b7 0, vi p2.Dist, vb false, Z, vp b3 0, Z, Z, Z, Z, Z, Z, Z, Z, Z], []⟩ w9 (fun K => by kernel_rfl) ?_
    refine WPI.value (v := vi p1.Dist) rfl (by kernel_rfl) (ev_loadBox H10 1 rfl 3 (.tmp 12) 0 (vi p1.Dist) rfl (by kernel_rfl) (by kernel_rfl)) ?_
    refine WPI.run 1 ⟨#[TRank.val p1, TRank.val p2, vp b3 0, vp b7 0, vi 0, vb false, vp b3 0, vi p1.Dist, vp b7 0, vi p2.Dist, vb false, Z, vp b3 0, vi p1.Dist, vp b7 0, Z, Z, Z, Z, Z, Z, Z], []⟩ w9 (fun K => by kernel_rfl) ?_
    refine WPI.value (v := vi p2.Dist) rfl (by kernel_rfl) (ev_loadBox H10 0 rfl 3 (.tmp 14) 0 (vi p2.Dist) rfl (by kernel_rfl) (by kernel_rfl)) ?_
    obtain ⟨c12, hc12, h⟩ := lt_some h
    refine WPI.run 2 ⟨#[TRank.val p1, TRank.val p2, vp b3 0, vp b7 0, vi 0, vb false, vp b3 0, vi p1.Dist, vp b7 0, vi p2.Dist, vb false, vb c12, vp b3 0, vi p1.Dist, vp b7 0, vi p2.Dist, vb c12, Z, Z, Z, Z, Z], []⟩ w9 (fun K => by subst hc12; kernel_rfl) ?_
    refine WPI.done rfl ?_
    refine then_n ?_
    cases c12 with
    | false =>
      replace h := br_f h
      refine WP.condF (by kernel_rfl) ?_
      refine WP.skip ?_
      refine inb_n (then_n ?_)
      refine WP.seq ?_
      refine WP.region ?_
      refine WPI.run 1 ⟨#[TRank.val p1, TRank.val p2, vp b3 0, vp b7 0, vi 0, vb false, vp b3 0, vi p1.Dist, vp b7 0, vi p2.Dist, vb false, vb false, vp b3 0, vi p1.Dist, vp b7 0, vi p2.Dist, vb false, vp b3 1, Z, Z, Z, Z], []⟩ w9 (fun K => by kernel_rfl) ?_
      refine WPI.value (v := TU256.val p1.Tip) rfl (by kernel_rfl) (ev_loadBox H10 1 rfl 29 (.tmp 17) 1 (TU256.val p1.Tip) rfl (by kernel_rfl) (by kernel_rfl)) ?_
      refine WPI.run 1 ⟨#[TRank.val p1, TRank.val p2, vp b3 0, vp b7 0, vi 0, vb false, vp b3 0, vi p1.Dist, vp b7 0, vi p2.Dist, vb false, vb false, vp b3 0, vi p1.Dist, vp b7 0, vi p2.Dist, vb false, vp b3 1, TU256.val p1.Tip, vp b7 1, Z, Z], []⟩ w9 (fun K => by kernel_rfl) ?_
      refine WPI.value (v := TU256.val p2.Tip) rfl (by kernel_rfl) (ev_loadBox H10 0 rfl 29 (.tmp 19) 1 (TU256.val p2.Tip) rfl (by kernel_rfl) (by kernel_rfl)) ?_
      obtain ⟨t13, ht13, h⟩ := bd_some h
      refine WPI.run 0 ⟨#[TRank.val p1, TRank.val p2, vp b3 0, vp b7 0, vi 0, vb false, vp b3 0, vi p1.Dist, vp b7 0, vi p2.Dist, vb false, vb false, vp b3 0, vi p1.Dist, vp b7 0, vi p2.Dist, vb false, vp b3 1, TU256.val p1.Tip, vp b7 1, TU256.val p2.Tip, Z], []⟩ w9 (fun K => by kernel_rfl) ?_
      refine WPI.op rfl (Op1.call (by kernel_rfl) (by kernel_rfl) (g_u256_Cmp_w fuel p1.Tip p2.Tip t13 ht13 _) ?_)
      rintro _ w14 ⟨rfl, Hc15⟩
      have H16 := St.call0' H10 Hc15
      clear H10 Hc15
      refine WPI.run 1 ⟨#[TRank.val p1, TRank.val p2, vp b3 0, vp b7 0, vi t13, vb false, vp b3 0, vi p1.Dist, vp b7 0, vi p2.Dist, vb false, vb false, vp b3 0, vi p1.Dist, vp b7 0, vi p2.Dist, vb false, vp b3 1, TU256.val p1.Tip, vp b7 1, TU256.val p2.Tip, vi t13], []⟩ w14 (fun K => by kernel_rfl) ?_
      refine WPI.done rfl ?_
      refine then_n ?_
      refine WP.ret ?_
      obtain rfl := Option.some.inj h
      exact post_r (vi t13) rfl (by kernel_rfl) ⟨rfl, St.sel H16 [] (by decide) rfl⟩
    | true =>
      replace h := br_t h
      refine WP.condT (by kernel_rfl) ?_
      refine WP.seq ?_
      refine WP.region ?_
      refine WPI.run 1 ⟨#[TRank.val p1, TRank.val p2, vp b3 0, vp b7 0, vi 1, vb false, vp b3 0, vi p1.Dist, vp b7 0, vi p2.Dist, vb false, vb true, vp b3 0, vi p1.Dist, vp b7 0, vi p2.Dist, vb true, Z, Z, Z, Z, Z], []⟩ w9 (fun K => by kernel_rfl) ?_
      refine WPI.done rfl ?_
      refine then_n ?_
      refine WP.ret ?_
      obtain rfl := Option.some.inj h
      exact inb_r (then_r (post_r (vi 1) rfl (by kernel_rfl) ⟨rfl, St.sel H10 [] (by decide) rfl⟩))
  | true =>
    replace h := br_t h
    refine WP.condT (by kernel_rfl) ?_
    refine WP.seq ?_
    refine WP.region ?_
    refine WPI.run 1 ⟨#[TRank.val p1, TRank.val p2, vp b3 0, vp b7 0, vi ((-1)), vb true, vp b3 0, vi p1.Dist, vp b7 0, vi p2.Dist, vb true, Z, Z, Z, Z, Z, Z, Z, Z, Z, Z, Z], []⟩ w9 (fun K => by kernel_rfl) ?_
    refine WPI.done rfl ?_
    refine then_n ?_
    refine WP.ret ?_
    obtain rfl := Option.some.inj h
    exact inb_r (then_r (post_r (vi ((-1))) rfl (by kernel_rfl) ⟨rfl, St.sel H10 [] (by decide) rfl⟩))
/- tarn/heap.order -/
def g_heap_order (fuel : Nat) (p1 : TNode) (p2 : TNode) : Option Int :=
  bd (g_rank_Cmp fuel p1.Rank p2.Rank) fun t11 => lt (t11 != 0) fun c15 => br c15 (some t11) (lt (wr .i64 (p1.Acct - p2.Acct)) fun x16 => some x16)
theorem g_heap_order_w (fuel : Nat) (p1 : TNode) (p2 : TNode) (r : Int) (h : g_heap_order fuel p1 p2 = some r) (w0 : World) :
    Ret Try.prog 37 #[TNode.val p1, TNode.val p2] w0 (fun v w' => v = vi r ∧ St no w0 w' []) := by
  unfold g_heap_order at h
  refine ret_of_wp Try.func37 rfl #[TNode.val p1, TNode.val p2, Z, Z, Z, Z, Z, Z, Z, Z, Z, Z, Z, Z, Z, Z, Z, Z, Z] (by kernel_rfl) ?_
  have H0 := St.start w0
  refine WP.seq ?_
  refine WP.region ?_
  refine WPI.op rfl (Op1.box H0 (TNode.cs p1).toArray (by kernel_rfl) 33 (.tmp 0) rfl (by kernel_rfl) (fun b3 w5 H6 => ?_))
  refine WPI.run 0 ⟨#[TNode.val p1, TNode.val p2, vp b3 0, Z, Z, Z, Z, Z, Z, Z, Z, Z, Z, Z, Z, Z, Z, Z, Z], []⟩ w5 (fun K => by kernel_rfl) ?_
  refine WPI.op rfl (Op1.box H6 (TNode.cs p2).toArray (by kernel_rfl) 33 (.tmp 1) rfl (by kernel_rfl) (fun b7 w9 H10 => ?_))
  clear H6
  refine WPI.run 1 ⟨#[TNode.val p1, TNode.val p2, vp b3 0, vp b7 0, vi 0, Z, Z, Z, Z, Z, Z, Z, Z, Z, Z, Z, Z, Z, Z], []⟩ w9 (fun K => by kernel_rfl) ?_
  refine WPI.done rfl ?_
  refine then_n ?_
  refine WP.seq ?_
  refine WP.seq ?_
  refine WP.region ?_
  refine WPI.run 1 ⟨#[TNode.val p1, TNode.val p2, vp b3 0, vp b7 0, vi 0, Z, vp b3 1, Z, Z, Z, Z, Z, Z, Z, Z, Z, Z, Z, Z], []⟩ w9 (fun K => by kernel_rfl) ?_
  refine WPI.value (v := TRank.val p1.Rank) rfl (by kernel_rfl) (ev_loadBox H10 1 rfl 31 (.tmp 6) 1 (TRank.val p1.Rank) rfl (by kernel_rfl) (by kernel_rfl)) ?_
  refine WPI.run 1 ⟨#[TNode.val p1, TNode.val p2, vp b3 0, vp b7 0, vi 0, Z, vp b3 1, TRank.val p1.Rank, vp b7 1, Z, Z, Z, Z, Z, Z, Z, Z, Z, Z], []⟩ w9 (fun K => by kernel_rfl) ?_
  refine WPI.value (v := TRank.val p2.Rank) rfl (by kernel_rfl) (ev_loadBox H10 0 rfl 31 (.tmp 8) 1 (TRank.val p2.Rank) rfl (by kernel_rfl) (by kernel_rfl)) ?_
  obtain ⟨t11, ht11, h⟩ := bd_some h
  refine WPI.run 0 ⟨#[TNode.val p1, TNode.val p2, vp b3 0, vp b7 0, vi 0, Z, vp b3 1, TRank.val p1.Rank, vp b7 1, TRank.val p2.Rank, Z, Z, Z, Z, Z, Z, Z, Z, Z], []⟩ w9 (fun K => by kernel_rfl) ?_
  refine WPI.op rfl (Op1.call (by kernel_rfl) (by kernel_rfl) (g_rank_Cmp_w fuel p1.Rank p2.Rank t11 ht11 _) ?_)
  rintro _ w12 ⟨rfl, Hc13⟩
  have H14 := St.call0' H10 Hc13
  clear H10 Hc13
  refine WPI.run 1 ⟨#[TNode.val p1, TNode.val p2, vp b3 0, vp b7 0, vi 0, vi t11, vp b3 1, TRank.val p1.Rank, vp b7 1, TRank.val p2.Rank, vi t11, Z, Z, Z, Z, Z, Z, Z, Z], []⟩ w12 (fun K => by kernel_rfl) ?_
  refine WPI.done rfl ?_
  refine then_n ?_
  refine WP.seq ?_
  refine WP.region ?_
  obtain ⟨c15, hc15, h⟩ := lt_some h
  refine WPI.run 2 ⟨#[TNode.val p1, TNode.val p2, vp b3 0, vp b7 0, vi 0, vi t11, vp b3 1, TRank.val p1.Rank, vp b7 1, TRank.val p2.Rank, vi t11, vi t11, vb c15, Z, Z, Z, Z, Z, Z], []⟩ w12 (fun K => by subst hc15; kernel_rfl) ?_
  refine WPI.done rfl ?_
  refine then_n ?_
  cases c15 with
  | false =>
    replace h := br_f h
    refine WP.condF (by kernel_rfl) ?_
    refine WP.skip ?_
    refine then_n ?_
    refine WP.seq ?_
    refine WP.region ?_
    refine WPI.run 1 ⟨#[TNode.val p1, TNode.val p2, vp b3 0, vp b7 0, vi 0, vi t11, vp b3 1, TRank.val p1.Rank, vp b7 1, TRank.val p2.Rank, vi t11, vi t11, vb false, Z, vp b3 0, Z, Z, Z, Z], []⟩ w12 (fun K => by kernel_rfl) ?_
    refine WPI.value (v := vi p1.Acct) rfl (by kernel_rfl) (ev_loadBox H14 1 rfl 3 (.tmp 14) 0 (vi p1.Acct) rfl (by kernel_rfl) (by kernel_rfl)) ?_
    refine WPI.run 1 ⟨#[TNode.val p1, TNode.val p2, vp b3 0, vp b7 0, vi 0, vi t11, vp b3 1, TRank.val p1.Rank, vp b7 1, TRank.val p2.Rank, vi t11, vi t11, vb false, Z, vp b3 0, vi p1.Acct, vp b7 0, Z, Z], []⟩ w12 (fun K => by kernel_rfl) ?_
    refine WPI.value (v := vi p2.Acct) rfl (by kernel_rfl) (ev_loadBox H14 0 rfl 3 (.tmp 16) 0 (vi p2.Acct) rfl (by kernel_rfl) (by kernel_rfl)) ?_
    obtain ⟨x16, hx16, h⟩ := lt_some h
    refine WPI.run 2 ⟨#[TNode.val p1, TNode.val p2, vp b3 0, vp b7 0, vi x16, vi t11, vp b3 1, TRank.val p1.Rank, vp b7 1, TRank.val p2.Rank, vi t11, vi t11, vb false, Z, vp b3 0, vi p1.Acct, vp b7 0, vi p2.Acct, vi x16], []⟩ w12 (fun K => by subst hx16; kernel_rfl) ?_
    refine WPI.done rfl ?_
    refine then_n ?_
    refine WP.ret ?_
    obtain rfl := Option.some.inj h
    exact post_r (vi x16) rfl (by kernel_rfl) ⟨rfl, St.sel H14 [] (by decide) rfl⟩
  | true =>
    replace h := br_t h
    refine WP.condT (by kernel_rfl) ?_
    refine WP.seq ?_
    refine WP.region ?_
    refine WPI.run 2 ⟨#[TNode.val p1, TNode.val p2, vp b3 0, vp b7 0, vi t11, vi t11, vp b3 1, TRank.val p1.Rank, vp b7 1, TRank.val p2.Rank, vi t11, vi t11, vb true, vi t11, Z, Z, Z, Z, Z], []⟩ w12 (fun K => by kernel_rfl) ?_
    refine WPI.done rfl ?_
    refine then_n ?_
    refine WP.ret ?_
    obtain rfl := Option.some.inj h
    exact then_r (post_r (vi t11) rfl (by kernel_rfl) ⟨rfl, St.sel H14 [] (by decide) rfl⟩)
/- tarn/heap.Check -/
def g_heap_Check_l1 (l2 : List TNode) (fuel : Nat) (K39 : Option Int) : Nat → Int → Option Int
  | 0, _ => none
  | n + 1, x43 => lt (decide (x43 < (((List.length l2 : Nat) : Int)))) fun c77 => br c77 (gd ((0 : Int) ≤ x43 ∧ x43 < ((List.length l2 : Nat) : Int)) <| bd (l2[Int.toNat x43]?) fun x79 => jn (fun (c111 : Bool) => br c111 (some 1) (lt (wr .i64 (x43 + 1)) fun x134 => g_heap_Check_l1 l2 fuel K39 n x134)) fun K112 => bd (g_heap_may fuel x79) fun t113 => lt (!t113) fun c114 => br c114 (K112 true) (bd (g_heap_place fuel l2 x79.Acct) fun t115 => lt (t115 != x43) fun c116 => br c116 (K112 true) (lt (decide (x43 > 0)) fun c117 => br c117 (lt (wr .i64 (x43 - 1)) fun x120 => lt (wr .i64 (Int.tdiv x120 2)) fun x121 => gd ((0 : Int) ≤ x121 ∧ x121 < ((List.length l2 : Nat) : Int)) <| bd (l2[Int.toNat x121]?) fun x123 => bd (g_heap_order fuel x79 x123) fun t124 => lt (decide (t124 < 0)) fun c125 => K112 c125) (K112 false)))) (K39)
def g_heap_Check (fuel : Nat) (l2 : List TNode) : Option Int :=
  lt (decide ((((List.length l2 : Nat) : Int)) > 8)) fun c3 => br c3 (some 1) (jn (some 0) fun K39 => g_heap_Check_l1 l2 fuel K39 fuel 0)
theorem g_heap_Check_w (fuel : Nat) (s1 : Value) (l2 : List TNode) (r : Int) (h : g_heap_Check fuel l2 = some r) (w0 : World) (hs1 : Rd fTNode (hp no w0) s1 l2) :
    Ret Try.prog 26 #[s1] w0 (fun v w' => v = vi r ∧ St no w0 w' []) := by
  unfold g_heap_Check at h
  refine ret_of_wp Try.func26 rfl #[s1, Z, Z, Z, Z, Z, Z, Z, Z, Z, Z, Z, Z, Z, Z, Z, Z, Z, Z, Z, Z, Z, Z, Z, Z, Z, Z, Z, Z, Z, Z, Z, Z, Z, Z, Z, Z, Z, Z, Z, Z, Z] (by kernel_rfl) ?_
  have H0 := St.start w0
  refine WP.seq ?_
  refine WP.region ?_
  refine WPI.run 1 ⟨#[s1, Z, vi 0, Z, Z, Z, Z, Z, Z, Z, Z, Z, Z, Z, Z, Z, Z, Z, Z, Z, Z, Z, Z, Z, Z, Z, Z, Z, Z, Z, Z, Z, Z, Z, Z, Z, Z, Z, Z, Z, Z, Z], []⟩ w0 (fun K => by kernel_rfl) ?_
  refine WPI.done rfl ?_
  refine then_n ?_
  refine WP.seq ?_
  refine WP.seq ?_
  refine WP.region ?_
  refine WPI.run 1 ⟨#[s1, Z, vi 0, Z, Z, s1, Z, Z, Z, Z, Z, Z, Z, Z, Z, Z, Z, Z, Z, Z, Z, Z, Z, Z, Z, Z, Z, Z, Z, Z, Z, Z, Z, Z, Z, Z, Z, Z, Z, Z, Z, Z], []⟩ w0 (fun K => by kernel_rfl) ?_
  refine WPI.value (v := vi (((List.length l2 : Nat) : Int))) rfl (by kernel_rfl) (ev_len (Rd.sl hs1) 22 (.tmp 5) 33 6 48 rfl (by kernel_rfl) (by kernel_rfl)) ?_
  obtain ⟨c3, hc3, h⟩ := lt_some h
  refine WPI.run 1 ⟨#[s1, Z, vi 0, Z, Z, s1, vi (((List.length l2 : Nat) : Int)), vb c3, Z, Z, Z, Z, Z, Z, Z, Z, Z, Z, Z, Z, Z, Z, Z, Z, Z, Z, Z, Z, Z, Z, Z, Z, Z, Z, Z, Z, Z, Z, Z, Z, Z, Z], []⟩ w0 (fun K => by subst hc3; kernel_rfl) ?_
  refine WPI.done rfl ?_
  refine then_n ?_
  cases c3 with
  | false =>
    replace h := br_f h
    refine WP.condF (by kernel_rfl) ?_
    refine WP.skip ?_
    refine then_n ?_
    refine WP.seq ?_
    refine WP.seq ?_
    refine WP.region ?_
    refine WPI.run 1 ⟨#[s1, Z, vi 0, Z, Z, s1, vi (((List.length l2 : Nat) : Int)), vb false, s1, Z, Z, Z, Z, Z, Z, Z, Z, Z, Z, Z, Z, Z, Z, Z, Z, Z, Z, Z, Z, Z, Z, Z, Z, Z, Z, Z, Z, Z, Z, Z, Z, Z], []⟩ w0 (fun K => by kernel_rfl) ?_
    refine WPI.value (v := vi (((List.length l2 : Nat) : Int))) rfl (by kernel_rfl) (ev_len (Rd.sl hs1) 22 (.tmp 8) 33 6 48 rfl (by kernel_rfl) (by kernel_rfl)) ?_
    refine WPI.run 1 ⟨#[s1, Z, vi 0, Z, Z, s1, vi (((List.length l2 : Nat) : Int)), vb false, s1, vi (((List.length l2 : Nat) : Int)), vi 0, Z, Z, Z, Z, Z, Z, Z, Z, Z, Z, Z, Z, Z, Z, Z, Z, Z, Z, Z, Z, Z, Z, Z, Z, Z, Z, Z, Z, Z, Z, Z], []⟩ w0 (fun K => by kernel_rfl) ?_
    refine WPI.done rfl ?_
    refine then_n ?_
    obtain ⟨K39, hK39, h⟩ := jn_some h
    refine WP.blockJ (fun a w => ∃ (g4 : Value) (g5 : Value) (g6 : Value) (g7 : Value) (g8 : Value) (g9 : Value) (g10 : Value) (g11 : Value) (g12 : Value) (g13 : Value) (g14 : Value) (g15 : Value) (g16 : Value) (g17 : Value) (g18 : Value) (g19 : Value) (g20 : Value) (g21 : Value) (g22 : Value) (g23 : Value) (g24 : Value) (g25 : Value) (g26 : Value) (g27 : Value) (g28 : Value) (g29 : Value) (g30 : Value) (g31 : Value) (g32 : Value) (g33 : Value) (g34 : Value) (g35 : Value) (g36 : Value) (g37 : Value) (g38 : Value), a = ⟨#[s1, Z, g4, g5, g6, s1, vi (((List.length l2 : Nat) : Int)), vb false, s1, vi (((List.length l2 : Nat) : Int)), g7, g8, g9, g10, g11, g12, g13, g14, g15, g16, g17, g18, g19, g20, g21, g22, g23, g24, g25, g26, g27, g28, g29, g30, g31, g32, g33, g34, g35, g36, g37, g38], []⟩ ∧ St no w0 w [] ∧ K39 = some r) ?_ ?_
    · skip
      refine WP.loop (fun n a w => ∃ (x43 : Int) (g40 : Value) (g41 : Value) (g42 : Value) (g44 : Value) (g45 : Value) (g46 : Value) (g47 : Value) (g48 : Value) (g49 : Value) (g50 : Value) (g51 : Value) (g52 : Value) (g53 : Value) (g54 : Value) (g55 : Value) (g56 : Value) (g57 : Value) (g58 : Value) (g59 : Value) (g60 : Value) (g61 : Value) (g62 : Value) (g63 : Value) (g64 : Value) (g65 : Value) (g66 : Value) (g67 : Value) (g68 : Value) (g69 : Value) (g70 : Value) (g71 : Value) (g72 : Value) (g73 : Value) (g74 : Value), a = ⟨#[s1, Z, g40, g41, g42, s1, vi (((List.length l2 : Nat) : Int)), vb false, s1, vi (((List.length l2 : Nat) : Int)), vi x43, g44, g45, g46, g47, g48, g49, g50, g51, g52, g53, g54, g55, g56, g57, g58, g59, g60, g61, g62, g63, g64, g65, g66, g67, g68, g69, g70, g71, g72, g73, g74], []⟩ ∧ St no w0 w [] ∧ g_heap_Check_l1 l2 fuel K39 n x43 = some r) fuel ⟨0, _, _, _, _, _, _, _, _, _, _, _, _, _, _, _, _, _, _, _, _, _, _, _, _, _, _, _, _, _, _, _, _, _, _, rfl, St.sel H0 [] (by decide) rfl, h⟩ ?_
      rintro n a w ⟨x43, g40, g41, g42, g44, g45, g46, g47, g48, g49, g50, g51, g52, g53, g54, g55, g56, g57, g58, g59, g60, g61, g62, g63, g64, g65, g66, g67, g68, g69, g70, g71, g72, g73, g74, rfl, H, h⟩
      cases n with
      | zero => rw [g_heap_Check_l1] at h; cases h
      | succ n =>
        rw [g_heap_Check_l1] at h
        obtain ⟨w75, rfl⟩ : ∃ x, x = w := ⟨_, rfl⟩
        have H76 := H; clear H
        refine WP.seq ?_
        refine WP.region ?_
        obtain ⟨c77, hc77, h⟩ := lt_some h
        refine WPI.run 1 ⟨#[s1, Z, g40, g41, g42, s1, vi (((List.length l2 : Nat) : Int)), vb false, s1, vi (((List.length l2 : Nat) : Int)), vi x43, vb c77, g45, g46, g47, g48, g49, g50, g51, g52, g53, g54, g55, g56, g57, g58, g59, g60, g61, g62, g63, g64, g65, g66, g67, g68, g69, g70, g71, g72, g73, g74], []⟩ w75 (fun K => by subst hc77; kernel_rfl) ?_
        refine WPI.done rfl ?_
        refine then_n ?_
        refine WP.seq ?_
        cases c77 with
        | false =>
          replace h := br_f h
          refine WP.condF (by kernel_rfl) ?_
          refine WP.exit ?_
          exact then_e (then_e (inb_e (then_n ⟨_, _, _, _, _, _, _, _, _, _, _, _, _, _, _, _, _, _, _, _, _, _, _, _, _, _, _, _, _, _, _, _, _, _, _, rfl, St.sel H76 [] (by decide) rfl, h⟩)))
        | true =>
          replace h := br_t h
          refine WP.condT (by kernel_rfl) ?_
          refine WP.skip ?_
          refine then_n ?_
          refine WP.seq ?_
          refine WP.block ?_
          refine WP.seq ?_
          refine WP.region ?_
          obtain ⟨hg78, h⟩ := gd_some h
          refine WPI.run 1 ⟨#[s1, Z, g40, g41, g42, s1, vi (((List.length l2 : Nat) : Int)), vb false, s1, vi (((List.length l2 : Nat) : Int)), vi x43, vb true, vi x43, g46, g47, g48, g49, g50, g51, g52, g53, g54, g55, g56, g57, g58, g59, g60, g61, g62, g63, g64, g65, g66, g67, g68, g69, g70, g71, g72, g73, g74], []⟩ w75 (fun K => by kernel_rfl) ?_
          refine WPI.value (v := va (slAt s1 6 (Int.toNat x43))) rfl (by kernel_rfl) (ev_index (Rd.sl hs1) 22 (.tmp 8) (.tmp 10) 33 6 48 .i64 x43 rfl (by kernel_rfl) (by kernel_rfl) (by kernel_rfl) hg78) ?_
          obtain ⟨x79, hx79, h⟩ := bd_some h
          refine WPI.run 0 ⟨#[s1, Z, g40, g41, g42, s1, vi (((List.length l2 : Nat) : Int)), vb false, s1, vi (((List.length l2 : Nat) : Int)), vi x43, vb true, vi x43, va (slAt s1 6 (Int.toNat x43)), g47, g48, g49, g50, g51, g52, g53, g54, g55, g56, g57, g58, g59, g60, g61, g62, g63, g64, g65, g66, g67, g68, g69, g70, g71, g72, g73, g74], []⟩ w75 (fun K => by kernel_rfl) ?_
          refine WPI.value (v := TNode.val x79) rfl (by kernel_rfl) (ev_loadEl (F := fTNode) hs1 (St.hp_le H76) hx79 33 (.tmp 13) 0 (TNode.val x79) rfl (by kernel_rfl) (by kernel_rfl)) ?_
          refine WPI.run 0 ⟨#[s1, Z, g40, g41, g42, s1, vi (((List.length l2 : Nat) : Int)), vb false, s1, vi (((List.length l2 : Nat) : Int)), vi x43, vb true, vi x43, va (slAt s1 6 (Int.toNat x43)), TNode.val x79, g48, g49, g50, g51, g52, g53, g54, g55, g56, g57, g58, g59, g60, g61, g62, g63, g64, g65, g66, g67, g68, g69, g70, g71, g72, g73, g74], []⟩ w75 (fun K => by kernel_rfl) ?_
          refine WPI.op rfl (Op1.alloc H76 #[vi 0, vi 0, vu 0, vu 0, vu 0, vu 0] (by kernel_rfl) 33 rfl (by kernel_rfl) (fun b80 w82 H83 => ?_))
          clear H76
          refine WPI.run 1 ⟨#[s1, Z, g40, vi x43, vp b80 0, s1, vi (((List.length l2 : Nat) : Int)), vb false, s1, vi (((List.length l2 : Nat) : Int)), vi x43, vb true, vi x43, va (slAt s1 6 (Int.toNat x43)), TNode.val x79, g48, g49, g50, g51, g52, g53, g54, g55, g56, g57, g58, g59, g60, g61, g62, g63, g64, g65, g66, g67, g68, g69, g70, g71, g72, g73, g74], []⟩ w82 (fun K => by kernel_rfl) ?_
          refine WPI.op rfl (Op1.storeBox H83 0 rfl (by kernel_rfl) 33 (.tmp 4) (.tmp 14) 0 (TNode.val x79) (TNode.cs x79).toArray true rfl (by kernel_rfl) (by kernel_rfl) (by kernel_rfl) (by kernel_rfl) (by kernel_rfl) (flat_one1 fTNode x79) (fun w84 H85 => ?_))
          clear H83
          refine WPI.run 0 ⟨#[s1, Z, g40, vi x43, vp b80 0, s1, vi (((List.length l2 : Nat) : Int)), vb false, s1, vi (((List.length l2 : Nat) : Int)), vi x43, vb true, vi x43, va (slAt s1 6 (Int.toNat x43)), TNode.val x79, g48, g49, g50, g51, g52, g53, g54, g55, g56, g57, g58, g59, g60, g61, g62, g63, g64, g65, g66, g67, g68, g69, g70, g71, g72, g73, g74], []⟩ w84 (fun K => by kernel_rfl) ?_
          refine WPI.done rfl ?_
          refine then_n ?_
          refine WP.seq ?_
          obtain ⟨K112, hK112, h⟩ := jn_some h
          refine WP.onlyN (fun a w => ∃ (c111 : Bool) (g86 : Value) (g87 : Value) (g88 : Value) (g89 : Value) (g90 : Value) (g91 : Value) (g92 : Value) (g93 : Value) (g94 : Value) (g95 : Value) (g96 : Value) (g97 : Value) (g98 : Value) (g99 : Value) (g100 : Value) (g101 : Value) (g102 : Value) (g103 : Value) (g104 : Value) (g105 : Value) (g106 : Value) (g107 : Value) (g108 : Value) (g109 : Value) (g110 : Value), a = ⟨#[s1, Z, g40, vi x43, vp b80 0, s1, vi (((List.length l2 : Nat) : Int)), vb false, s1, vi (((List.length l2 : Nat) : Int)), vi x43, vb true, vi x43, va (slAt s1 6 (Int.toNat x43)), TNode.val x79, g86, g87, g88, g89, g90, g91, g92, g93, g94, g95, g96, g97, g98, g99, g100, g101, g102, g103, g104, g105, g106, g107, g108, g109, g110, vb c111, g74], []⟩ ∧ St no w0 w [Box b80 (TNode.cs x79).toArray 33] ∧ K112 c111 = some r) ?_ ?_
          · skip
            refine WP.quiet (by kernel_rfl) (by kernel_rfl) (by kernel_rfl) (fun w => St no w0 w [Box b80 (TNode.cs x79).toArray 33]) (St.drew H85) ?_
            refine WQ.value (v := TNode.val x79) rfl (by kernel_rfl) (fun w H => ev_loadBox H 0 rfl 33 (.tmp 4) 0 (TNode.val x79) rfl (by kernel_rfl) (by kernel_rfl)) ?_
            obtain ⟨t113, ht113, h⟩ := bd_some h
            refine WQ.call (v := vb t113) rfl (by kernel_rfl) (fun w => by kernel_rfl) (fun w H => Ret.mono (g_heap_may_w fuel x79 t113 ht113 _) fun u w1 hu => ⟨hu.1, St.call0' H hu.2⟩) ?_
            obtain ⟨c114, hc114, h⟩ := lt_some h
            refine WQ.value (v := vb c114) rfl (by kernel_rfl) (fun w _ => by subst hc114; kernel_rfl) ?_
            refine WQ.value (v := vb c114) rfl (by kernel_rfl) (fun w _ => by kernel_rfl) ?_
            cases c114 with
            | false =>
              replace h := br_f h
              refine WQ.value (v := s1) rfl (by kernel_rfl) (fun w _ => by kernel_rfl) ?_
              refine WQ.value (v := vp b80 0) rfl (by kernel_rfl) (fun w _ => by kernel_rfl) ?_
              refine WQ.value (v := vi x79.Acct) rfl (by kernel_rfl) (fun w H => ev_loadBox H 0 rfl 3 (.tmp 20) 0 (vi x79.Acct) rfl (by kernel_rfl) (by kernel_rfl)) ?_
              obtain ⟨t115, ht115, h⟩ := bd_some h
              refine WQ.call (v := vi t115) rfl (by kernel_rfl) (fun w => by kernel_rfl) (fun w H => Ret.mono (g_heap_place_w fuel s1 l2 x79.Acct t115 ht115 _ (Rd.arg0 hs1 H)) fun u w1 hu => ⟨hu.1, St.call0' H hu.2⟩) ?_
              refine WQ.value (v := vi x43) rfl (by kernel_rfl) (fun w _ => by kernel_rfl) ?_
              obtain ⟨c116, hc116, h⟩ := lt_some h
              refine WQ.value (v := vb c116) rfl (by kernel_rfl) (fun w _ => by subst hc116; kernel_rfl) ?_
              refine WQ.value (v := vb c116) rfl (by kernel_rfl) (fun w _ => by kernel_rfl) ?_
              refine WQ.value (v := vb c116) rfl (by kernel_rfl) (fun w _ => by kernel_rfl) ?_
              cases c116 with
              | false =>
                replace h := br_f h
                refine WQ.value (v := vi x43) rfl (by kernel_rfl) (fun w _ => by kernel_rfl) ?_
                obtain ⟨c117, hc117, h⟩ := lt_some h
                refine WQ.value (v := vb c117) rfl (by kernel_rfl) (fun w _ => by subst hc117; kernel_rfl) ?_
                refine WQ.value (v := vb c117) rfl (by kernel_rfl) (fun w _ => by kernel_rfl) ?_
                cases c117 with
                | false =>
                  replace h := br_f h
                  refine WQ.off rfl (by kernel_rfl) ?_
                  refine WQ.off rfl (by kernel_rfl) ?_
                  refine WQ.off rfl (by kernel_rfl) ?_
                  refine WQ.off rfl (by kernel_rfl) ?_
                  refine WQ.off rfl (by kernel_rfl) ?_
                  refine WQ.off rfl (by kernel_rfl) ?_
                  refine WQ.off rfl (by kernel_rfl) ?_
                  refine WQ.off rfl (by kernel_rfl) ?_
                  refine WQ.off rfl (by kernel_rfl) ?_
                  refine WQ.value (v := vb false) rfl (by kernel_rfl) (fun w _ => by kernel_rfl) ?_
                  refine WQ.value (v := vb false) rfl (by kernel_rfl) (fun w _ => by kernel_rfl) ?_
                  refine WQ.frame (a' := ⟨#[s1, Z, g40, vi x43, vp b80 0, s1, vi (((List.length l2 : Nat) : Int)), vb false, s1, vi (((List.length l2 : Nat) : Int)), vi x43, vb true, vi x43, va (slAt s1 6 (Int.toNat x43)), TNode.val x79, TNode.val x79, vb t113, vb false, vb false, s1, vp b80 0, vi x79.Acct, vi t115, vi x43, vb false, vb false, vb false, vi x43, vb false, vb false, Z, Z, Z, Z, Z, Z, Z, Z, Z, vb false, vb false, g74], []⟩) (by kernel_rfl) ?_
                  refine WQ.done rfl ?_
                  refine (fun w118 H119 => ?_)
                  exact ⟨false, _, _, _, _, _, _, _, _, _, _, _, _, _, _, _, _, _, _, _, _, _, _, _, _, _, rfl, St.sel H119 [0] (by decide) rfl, h⟩
                | true =>
                  replace h := br_t h
                  refine WQ.value (v := TNode.val x79) rfl (by kernel_rfl) (fun w H => ev_loadBox H 0 rfl 33 (.tmp 4) 0 (TNode.val x79) rfl (by kernel_rfl) (by kernel_rfl)) ?_
                  refine WQ.value (v := s1) rfl (by kernel_rfl) (fun w _ => by kernel_rfl) ?_
                  refine WQ.value (v := vi x43) rfl (by kernel_rfl) (fun w _ => by kernel_rfl) ?_
                  obtain ⟨x120, hx120, h⟩ := lt_some h
                  refine WQ.value (v := vi x120) rfl (by kernel_rfl) (fun w _ => by subst hx120; kernel_rfl) ?_
                  obtain ⟨x121, hx121, h⟩ := lt_some h
                  refine WQ.value (v := vi x121) rfl (by kernel_rfl) (fun w _ => by subst hx121; kernel_rfl) ?_
                  obtain ⟨hg122, h⟩ := gd_some h
                  refine WQ.value (v := va (slAt s1 6 (Int.toNat x121))) rfl (by kernel_rfl) (fun w H => ev_index (Rd.sl hs1) 22 (.tmp 31) (.tmp 34) 33 6 48 .i64 x121 rfl (by kernel_rfl) (by kernel_rfl) (by kernel_rfl) hg122) ?_
                  obtain ⟨x123, hx123, h⟩ := bd_some h
                  refine WQ.value (v := TNode.val x123) rfl (by kernel_rfl) (fun w H => ev_loadEl (F := fTNode) hs1 (St.hp_le H) hx123 33 (.tmp 35) 0 (TNode.val x123) rfl (by kernel_rfl) (by kernel_rfl)) ?_
                  obtain ⟨t124, ht124, h⟩ := bd_some h
                  refine WQ.call (v := vi t124) rfl (by kernel_rfl) (fun w => by kernel_rfl) (fun w H => Ret.mono (g_heap_order_w fuel x79 x123 t124 ht124 _) fun u w1 hu => ⟨hu.1, St.call0' H hu.2⟩) ?_
                  obtain ⟨c125, hc125, h⟩ := lt_some h
                  refine WQ.value (v := vb c125) rfl (by kernel_rfl) (fun w _ => by subst hc125; kernel_rfl) ?_
                  refine WQ.value (v := vb c125) rfl (by kernel_rfl) (fun w _ => by kernel_rfl) ?_
                  refine WQ.value (v := vb c125) rfl (by kernel_rfl) (fun w _ => by kernel_rfl) ?_
                  refine WQ.frame (a' := ⟨#[s1, Z, g40, vi x43, vp b80 0, s1, vi (((List.length l2 : Nat) : Int)), vb false, s1, vi (((List.length l2 : Nat) : Int)), vi x43, vb true, vi x43, va (slAt s1 6 (Int.toNat x43)), TNode.val x79, TNode.val x79, vb t113, vb false, vb false, s1, vp b80 0, vi x79.Acct, vi t115, vi x43, vb false, vb false, vb false, vi x43, vb true, vb true, TNode.val x79, s1, vi x43, vi x120, vi x121, va (slAt s1 6 (Int.toNat x121)), TNode.val x123, vi t124, vb c125, vb c125, vb c125, g74], []⟩) (by kernel_rfl) ?_
                  refine WQ.done rfl ?_
                  refine (fun w126 H127 => ?_)
                  exact ⟨c125, _, _, _, _, _, _, _, _, _, _, _, _, _, _, _, _, _, _, _, _, _, _, _, _, _, rfl, St.sel H127 [0] (by decide) rfl, h⟩
              | true =>
                replace h := br_t h
                refine WQ.off rfl (by kernel_rfl) ?_
                refine WQ.off rfl (by kernel_rfl) ?_
                refine WQ.off rfl (by kernel_rfl) ?_
                refine WQ.off rfl (by kernel_rfl) ?_
                refine WQ.off rfl (by kernel_rfl) ?_
                refine WQ.off rfl (by kernel_rfl) ?_
                refine WQ.off rfl (by kernel_rfl) ?_
                refine WQ.off rfl (by kernel_rfl) ?_
                refine WQ.off rfl (by kernel_rfl) ?_
                refine WQ.off rfl (by kernel_rfl) ?_
                refine WQ.off rfl (by kernel_rfl) ?_
                refine WQ.off rfl (by kernel_rfl) ?_
                refine WQ.off rfl (by kernel_rfl) ?_
                refine WQ.value (v := vb true) rfl (by kernel_rfl) (fun w _ => by kernel_rfl) ?_
                refine WQ.frame (a' := ⟨#[s1, Z, g40, vi x43, vp b80 0, s1, vi (((List.length l2 : Nat) : Int)), vb false, s1, vi (((List.length l2 : Nat) : Int)), vi x43, vb true, vi x43, va (slAt s1 6 (Int.toNat x43)), TNode.val x79, TNode.val x79, vb t113, vb false, vb false, s1, vp b80 0, vi x79.Acct, vi t115, vi x43, vb true, vb true, vb true, Z, Z, Z, Z, Z, Z, Z, Z, Z, Z, Z, Z, Z, vb true, g74], []⟩) (by kernel_rfl) ?_
                refine WQ.done rfl ?_
                refine (fun w128 H129 => ?_)
                exact ⟨true, _, _, _, _, _, _, _, _, _, _, _, _, _, _, _, _, _, _, _, _, _, _, _, _, _, rfl, St.sel H129 [0] (by decide) rfl, h⟩
            | true =>
              replace h := br_t h
              refine WQ.off rfl (by kernel_rfl) ?_
              refine WQ.off rfl (by kernel_rfl) ?_
              refine WQ.off rfl (by kernel_rfl) ?_
              refine WQ.off rfl (by kernel_rfl) ?_
              refine WQ.off rfl (by kernel_rfl) ?_
              refine WQ.off rfl (by kernel_rfl) ?_
              refine WQ.value (v := vb true) rfl (by kernel_rfl) (fun w _ => by kernel_rfl) ?_
              refine WQ.value (v := vb true) rfl (by kernel_rfl) (fun w _ => by kernel_rfl) ?_
              refine WQ.off rfl (by kernel_rfl) ?_
              refine WQ.off rfl (by kernel_rfl) ?_
              refine WQ.off rfl (by kernel_rfl) ?_
              refine WQ.off rfl (by kernel_rfl) ?_
              refine WQ.off rfl (by kernel_rfl) ?_
              refine WQ.off rfl (by kernel_rfl) ?_
              refine WQ.off rfl (by kernel_rfl) ?_
              refine WQ.off rfl (by kernel_rfl) ?_
              refine WQ.off rfl (by kernel_rfl) ?_
              refine WQ.off rfl (by kernel_rfl) ?_
              refine WQ.off rfl (by kernel_rfl) ?_
              refine WQ.off rfl (by kernel_rfl) ?_
              refine WQ.off rfl (by kernel_rfl) ?_
              refine WQ.value (v := vb true) rfl (by kernel_rfl) (fun w _ => by kernel_rfl) ?_
              refine WQ.frame (a' := ⟨#[s1, Z, g40, vi x43, vp b80 0, s1, vi (((List.length l2 : Nat) : Int)), vb false, s1, vi (((List.length l2 : Nat) : Int)), vi x43, vb true, vi x43, va (slAt s1 6 (Int.toNat x43)), TNode.val x79, TNode.val x79, vb t113, vb true, vb true, Z, Z, Z, Z, Z, Z, vb true, vb true, Z, Z, Z, Z, Z, Z, Z, Z, Z, Z, Z, Z, Z, vb true, g74], []⟩) (by kernel_rfl) ?_
              refine WQ.done rfl ?_
              refine (fun w130 H131 => ?_)
              exact ⟨true, _, _, _, _, _, _, _, _, _, _, _, _, _, _, _, _, _, _, _, _, _, _, _, _, _, rfl, St.sel H131 [0] (by decide) rfl, h⟩
          · rintro a w ⟨c111, g86, g87, g88, g89, g90, g91, g92, g93, g94, g95, g96, g97, g98, g99, g100, g101, g102, g103, g104, g105, g106, g107, g108, g109, g110, rfl, H, h⟩
            subst hK112
            obtain ⟨w132, rfl⟩ : ∃ x, x = w := ⟨_, rfl⟩
            have H133 := H; clear H
            refine then_n ?_
            cases c111 with
            | false =>
              replace h := br_f h
              refine WP.condF (by kernel_rfl) ?_
              refine WP.skip ?_
              refine inb_n (then_n ?_)
              refine WP.region ?_
              obtain ⟨x134, hx134, h⟩ := lt_some h
              refine WPI.run 2 ⟨#[s1, Z, g40, vi x43, vp b80 0, s1, vi (((List.length l2 : Nat) : Int)), vb false, s1, vi (((List.length l2 : Nat) : Int)), vi x134, vb true, vi x43, va (slAt s1 6 (Int.toNat x43)), TNode.val x79, g86, g87, g88, g89, g90, g91, g92, g93, g94, g95, g96, g97, g98, g99, g100, g101, g102, g103, g104, g105, g106, g107, g108, g109, g110, vb false, vi x134], []⟩ w132 (fun K => by subst hx134; kernel_rfl) ?_
              refine WPI.done rfl ?_
              exact then_n ⟨n, Nat.lt_succ_self n, x134, _, _, _, _, _, _, _, _, _, _, _, _, _, _, _, _, _, _, _, _, _, _, _, _, _, _, _, _, _, _, _, _, _, _, rfl, St.sel H133 [] (by decide) rfl, h⟩
            | true =>
              replace h := br_t h
              refine WP.condT (by kernel_rfl) ?_
              refine WP.seq ?_
              refine WP.region ?_
              refine WPI.run 1 ⟨#[s1, Z, vi 1, vi x43, vp b80 0, s1, vi (((List.length l2 : Nat) : Int)), vb false, s1, vi (((List.length l2 : Nat) : Int)), vi x43, vb true, vi x43, va (slAt s1 6 (Int.toNat x43)), TNode.val x79, g86, g87, g88, g89, g90, g91, g92, g93, g94, g95, g96, g97, g98, g99, g100, g101, g102, g103, g104, g105, g106, g107, g108, g109, g110, vb true, g74], []⟩ w132 (fun K => by kernel_rfl) ?_
              refine WPI.done rfl ?_
              refine then_n ?_
              refine WP.ret ?_
              obtain rfl := Option.some.inj h
              exact inb_r (then_r (then_r (inb_r (then_r (then_r (post_r (vi 1) rfl (by kernel_rfl) ⟨rfl, St.sel H133 [] (by decide) rfl⟩))))))
    · rintro a w ⟨g4, g5, g6, g7, g8, g9, g10, g11, g12, g13, g14, g15, g16, g17, g18, g19, g20, g21, g22, g23, g24, g25, g26, g27, g28, g29, g30, g31, g32, g33, g34, g35, g36, g37, g38, rfl, H, h⟩
      subst hK39
      obtain ⟨w135, rfl⟩ : ∃ x, x = w := ⟨_, rfl⟩
      have H136 := H; clear H
      refine then_n ?_
      refine WP.seq ?_
      refine WP.region ?_
      refine WPI.run 1 ⟨#[s1, Z, vi 0, g5, g6, s1, vi (((List.length l2 : Nat) : Int)), vb false, s1, vi (((List.length l2 : Nat) : Int)), g7, g8, g9, g10, g11, g12, g13, g14, g15, g16, g17, g18, g19, g20, g21, g22, g23, g24, g25, g26, g27, g28, g29, g30, g31, g32, g33, g34, g35, g36, g37, g38], []⟩ w135 (fun K => by kernel_rfl) ?_
      refine WPI.done rfl ?_
      refine then_n ?_
      refine WP.ret ?_
      obtain rfl := Option.some.inj h
      exact post_r (vi 0) rfl (by kernel_rfl) ⟨rfl, St.sel H136 [] (by decide) rfl⟩
  | true =>
    replace h := br_t h
    refine WP.condT (by kernel_rfl) ?_
    refine WP.seq ?_
    refine WP.region ?_
    refine WPI.run 1 ⟨#[s1, Z, vi 1, Z, Z, s1, vi (((List.length l2 : Nat) : Int)), vb true, Z, Z, Z, Z, Z, Z, Z, Z, Z, Z, Z, Z, Z, Z, Z, Z, Z, Z, Z, Z, Z, Z, Z, Z, Z, Z, Z, Z, Z, Z, Z, Z, Z, Z], []⟩ w0 (fun K => by kernel_rfl) ?_
    refine WPI.done rfl ?_
    refine then_n ?_
    refine WP.ret ?_
    obtain rfl := Option.some.inj h
    exact then_r (post_r (vi 1) rfl (by kernel_rfl) ⟨rfl, St.sel H0 [] (by decide) rfl⟩)
/- slices.Clone[[]tarn/api.Node,tarn/api.Node] -/
def g_slices_Clone_api_Node_api_Node (fuel : Nat) (l2 : List TNode) : Option (List TNode) :=
  gd ((List.length ([] : List TNode) + List.length l2) * 48 ≤ 140737488355328) <| some l2
theorem g_slices_Clone_api_Node_api_Node_w (fuel : Nat) (s1 : Value) (l2 : List TNode) (r : List TNode) (h : g_slices_Clone_api_Node_api_Node fuel l2 = some r) (w0 : World) (hs1 : Rd fTNode (hp no w0) s1 l2) :
    Ret Try.prog 31 #[s1] w0 (fun v w' => ∃ q0 : Value, v = q0 ∧ St no w0 w' [Own fTNode 33 q0 r]) := by
  unfold g_slices_Clone_api_Node_api_Node at h
  obtain ⟨hg, h⟩ := gd_some h
  obtain rfl := Option.some.inj h
  refine ret_of_wp Try.func31 rfl #[s1, Z, Z, Z, Z, Z, Z, Z] (by kernel_rfl) ?_
  have H0 := St.start w0
  refine WP.seq (WP.region (WPI.run 1 ⟨#[s1, Z, vn, Z, Z, Z, Z, Z], []⟩ w0 (fun K => by kernel_rfl) (WPI.done rfl (then_n ?_))))
  refine WP.seq ?_
  rcases nil_or (Rd.sl hs1) with ⟨rfl, hn⟩ | ⟨ad, cap, hs⟩
  · obtain rfl : l2 = [] := List.eq_nil_of_length_eq_zero hn
    refine WP.seq (WP.region (WPI.run 2 ⟨#[vn, Z, vn, vn, vb true, Z, Z, Z], []⟩ w0 (fun K => by kernel_rfl) (WPI.done rfl (then_n ?_))))
    refine WP.condT (by kernel_rfl) (WP.seq (WP.region (WPI.run 1 ⟨#[vn, Z, vn, vn, vb true, Z, Z, Z], []⟩ w0 (fun K => by kernel_rfl) (WPI.done rfl (then_n (WP.ret ?_))))))
    exact then_r (post_r vn rfl (by kernel_rfl) ⟨vn, rfl, St.sel (St.nil H0 fTNode 33) [0] (by decide) rfl⟩)
  · obtain ⟨x, hx⟩ : ∃ x, x = s1 := ⟨_, rfl⟩
    refine WP.seq (WP.region (WPI.run 2 ⟨#[s1, Z, vn, s1, vb false, Z, Z, Z], []⟩ w0 (fun K => by rw [hs]; kernel_rfl) (WPI.done rfl (then_n ?_))))
    refine WP.condF (by kernel_rfl) (WP.skip (then_n ?_))
    refine WP.seq (WP.region ?_)
    refine WPI.op rfl (Op1.lit (F := fTNode) (E := 33) H0 (by kernel_rfl) ([] : List TNode) (fun w => by kernel_rfl) (by simp [maxLen]) (fun s3 w1 H1 => ?_))
    refine WPI.run 1 ⟨#[s1, Z, vn, s1, vb false, s3, s1, Z], []⟩ w1 (fun K => by kernel_rfl) ?_
    refine WPI.op rfl (Op1.append (F := fTNode) H1 0 rfl (by kernel_rfl) 22 (.tmp 5) (.tmp 6) 48 rfl (by kernel_rfl) (by kernel_rfl) s1 l2 hs1 (St.hp_le H1) (by kernel_rfl) (app_len hg (by decide)) (fun s4 w2 H2 => ?_))
    refine WPI.run 1 ⟨#[s1, Z, s4, s1, vb false, s3, s1, s4], []⟩ w2 (fun K => by kernel_rfl) (WPI.done rfl (then_n (WP.ret ?_)))
    exact post_r s4 rfl (by kernel_rfl) ⟨s4, rfl, St.sel H2 [0] (by decide) rfl⟩
end Go.Proofs
