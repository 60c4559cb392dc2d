import Derived.Test.YtjcagpcpbfmldaaGw
import Derived.Test.YtjcagpcpbfmldaaProg
import Derived.Test.YtjcagpcpbfmldaaGwh
import Derived.Test.YtjcagpcpbfmldaaT
import Derived.Test.YtjcagpcpbfmldaaW1
import Derived.Test.YtjcagpcpbfmldaaW2
import Derived.Test.YtjcagpcpbfmldaaW3
import Derived.Test.YtjcagpcpbfmldaaW4
import Derived.Test.YtjcagpcpbfmldaaW5
import Derived.Test.YtjcagpcpbfmldaaW6
import Derived.Test.YtjcagpcpbfmldaaW7
import Derived.Test.YtjcagpcpbfmldaaW8
import Derived.Test.YtjcagpcpbfmldaaW9
import Derived.Test.YtjcagpcpbfmldaaW10
set_option linter.unusedVariables false
set_option linter.unusedSimpArgs false
set_option maxRecDepth 100000
set_option maxHeartbeats 4000000
namespace Go.Proofs
open Gw Go.RowKit
/- tarn/heap.Order$2 -/
def g_heap_Order_2_l1 {σ : Type} (q2 : TNode → σ → Option (σ × Bool)) (fuel : Nat) (K37 : σ → Option σ) : Nat → σ → (List TNode) → Option σ
  | 0, _, _ => none
  | n + 1, l38, l41 => lt (decide ((((List.length l41 : Nat) : Int)) > 0)) fun c64 => br c64 (gd ((0 : Int) ≤ 0 ∧ 0 < ((List.length l41 : Nat) : Int)) <| bd (l41[Int.toNat 0]?) fun x66 => bd2 (q2 x66 l38) fun z73 c74 => lt (!c74) fun c78 => br c78 (some z73) (bd (g_heap_Drop fuel l41 x66.Acct) fun t79 => g_heap_Order_2_l1 q2 fuel K37 n z73 t79.1)) (K37 l38)
def g_heap_Order_2 (fuel : Nat) {σ : Type} (q2 : TNode → σ → Option (σ × Bool)) (z3 : σ) (l8 : List TNode) : Option σ :=
  bd (g_slices_Clone_api_Node_api_Node fuel l8) fun t9 => jn (fun (l16 : σ) => some l16) fun K37 => g_heap_Order_2_l1 q2 fuel K37 fuel z3 t9
theorem g_heap_Order_2_w (fuel : Nat) {σ τ : Type} (Zs : σ → τ → Res) (q2 : TNode → σ → Option (σ × Bool)) (hh : Hp) (y1 : Value) (z3 : σ) (t4 : τ) (b6 : Nat) (s7 : Value) (l8 : List TNode) (r : σ) (h : g_heap_Order_2 fuel q2 z3 l8 = some r) (w0 : World) (hy : YOk Try.prog (AR1 fTNode) hh y1 Zs q2) (hhl : hh.le w0) (hhd : ∀ k o, hh k = some o → ¬ (Zs z3 t4).fp k) (hz : (Zs z3 t4).holds w0) (hbb6 : CellsAt (hp ((Zs z3 t4).fp) w0) ⟨b6, 0, none⟩ [s7]) (hs7 : Rd fTNode (hp ((Zs z3 t4).fp) w0) s7 l8) :
    Ret Try.prog 50 #[y1, vp b6 0] w0 (fun v w' => ∃ (t' : τ), v = .tuple #[] ∧ St (Zs z3 t4).fp w0 w' [Zs r t']) := by
  unfold g_heap_Order_2 at h
  refine ret_of_wp Try.func50 rfl #[y1, vp b6 0, Z, Z, Z, Z, Z, Z, Z, Z, Z, Z, Z, Z, Z, Z, Z, Z, Z, Z, Z, Z, Z, Z] (by kernel_rfl) ?_
  have H0 := St.start1 hz
  refine WP.seq ?_
  refine WP.region ?_
  refine WPI.value (v := s7) rfl (by kernel_rfl) (ev_load 22 (.tmp 1) 0 (s7) hbb6 (St.hp_le H0) rfl (by kernel_rfl) (by kernel_rfl)) ?_
  obtain ⟨t9, ht9, h⟩ := bd_some h
  refine WPI.run 0 ⟨#[y1, vp b6 0, Z, Z, Z, s7, Z, Z, Z, Z, Z, Z, Z, Z, Z, Z, Z, Z, Z, Z, Z, Z, Z, Z], []⟩ w0 (fun K => by kernel_rfl) ?_
  refine WPI.op rfl (Op1.call (by kernel_rfl) (by kernel_rfl) (g_slices_Clone_api_Node_api_Node_w fuel s7 l8 t9 ht9 _ (Rd.arg0 hs7 H0)) ?_)
  rintro s10 w13 ⟨_, rfl, Hc14⟩
  have H15 := St.call0 H0 Hc14
  clear Hc14
  have sf12 := Own.isSl (St.get H15 0 rfl)
  refine WPI.run 1 ⟨#[y1, vp b6 0, Z, s10, Z, s7, s10, Z, Z, Z, Z, Z, Z, Z, Z, Z, Z, Z, Z, Z, Z, Z, Z, Z], []⟩ w13 (fun K => by kernel_rfl) ?_
  refine WPI.done rfl ?_
  refine then_n ?_
  obtain ⟨K37, hK37, h⟩ := jn_some h
  refine WP.blockJ (fun a w => ∃ (l16 : σ) (s17 : τ) (g18 : Value) (g19 : Value) (g20 : Value) (g21 : Value) (g22 : Value) (g23 : Value) (g24 : Value) (g25 : Value) (g26 : Value) (g27 : Value) (g28 : Value) (g29 : Value) (g30 : Value) (g31 : Value) (g32 : Value) (g33 : Value) (g34 : Value) (g35 : Value) (g36 : Value), a = ⟨#[y1, vp b6 0, Z, g18, g19, s7, s10, g20, g21, g22, g23, g24, g25, g26, g27, g28, g29, g30, g31, g32, g33, g34, g35, g36], []⟩ ∧ St (Zs z3 t4).fp w0 w [Zs l16 s17] ∧ K37 l16 = some r) ?_ ?_
  · skip
    refine WP.loop (fun n a w => ∃ (l38 : σ) (l41 : List TNode) (s39 : τ) (s42 : Value) (g43 : Value) (g44 : Value) (g45 : Value) (g46 : Value) (g47 : Value) (g48 : Value) (g49 : Value) (g50 : Value) (g51 : Value) (g52 : Value) (g53 : Value) (g54 : Value) (g55 : Value) (g56 : Value) (g57 : Value) (g58 : Value) (g59 : Value) (g60 : Value), a = ⟨#[y1, vp b6 0, Z, s42, g43, s7, s10, g44, g45, g46, g47, g48, g49, g50, g51, g52, g53, g54, g55, g56, g57, g58, g59, g60], []⟩ ∧ St (Zs z3 t4).fp w0 w [Zs l38 s39, Own fTNode 33 s42 l41] ∧ g_heap_Order_2_l1 q2 fuel K37 n l38 l41 = some r) fuel ⟨z3, t9, t4, s10, _, _, _, _, _, _, _, _, _, _, _, _, _, _, _, _, _, _, rfl, St.sel H15 [1, 0] (by decide) rfl, h⟩ ?_
    rintro n a w ⟨l38, l41, s39, s42, g43, g44, g45, g46, g47, g48, g49, g50, g51, g52, g53, g54, g55, g56, g57, g58, g59, g60, rfl, H, h⟩
    cases n with
    | zero => rw [g_heap_Order_2_l1] at h; cases h
    | succ n =>
      rw [g_heap_Order_2_l1] at h
      obtain ⟨w61, rfl⟩ : ∃ x, x = w := ⟨_, rfl⟩
      have H62 := H; clear H
      have sf63 := Own.isSl (St.get H62 1 rfl)
      refine WP.seq ?_
      refine WP.seq ?_
      refine WP.region ?_
      refine WPI.run 1 ⟨#[y1, vp b6 0, Z, s42, g43, s7, s10, s42, g45, g46, g47, g48, g49, g50, g51, g52, g53, g54, g55, g56, g57, g58, g59, g60], []⟩ w61 (fun K => by kernel_rfl) ?_
      refine WPI.value (v := vi (((List.length l41 : Nat) : Int))) rfl (by kernel_rfl) (ev_len sf63 22 (.tmp 7) 33 6 48 rfl (by kernel_rfl) (by kernel_rfl)) ?_
      obtain ⟨c64, hc64, h⟩ := lt_some h
      refine WPI.run 1 ⟨#[y1, vp b6 0, Z, s42, g43, s7, s10, s42, vi (((List.length l41 : Nat) : Int)), vb c64, g47, g48, g49, g50, g51, g52, g53, g54, g55, g56, g57, g58, g59, g60], []⟩ w61 (fun K => by subst hc64; kernel_rfl) ?_
      refine WPI.done rfl ?_
      refine then_n ?_
      cases c64 with
      | false =>
        replace h := br_f h
        refine WP.condF (by kernel_rfl) ?_
        refine WP.exit ?_
        exact then_e (then_e (inb_e (then_n ⟨l38, s39, _, _, _, _, _, _, _, _, _, _, _, _, _, _, _, _, _, _, _, rfl, St.sel H62 [0] (by decide) rfl, h⟩)))
      | true =>
        replace h := br_t h
        refine WP.condT (by kernel_rfl) ?_
        refine WP.skip ?_
        refine then_n ?_
        refine WP.block ?_
        refine WP.seq ?_
        refine WP.region ?_
        obtain ⟨hg65, h⟩ := gd_some h
        refine WPI.run 1 ⟨#[y1, vp b6 0, Z, s42, g43, s7, s10, s42, vi (((List.length l41 : Nat) : Int)), vb true, s42, g48, g49, g50, g51, g52, g53, g54, g55, g56, g57, g58, g59, g60], []⟩ w61 (fun K => by kernel_rfl) ?_
        refine WPI.value (v := va (slAt s42 6 (Int.toNat 0))) rfl (by kernel_rfl) (ev_index sf63 22 (.tmp 10) (.const (vi 0)) 33 6 48 .i64 0 rfl (by kernel_rfl) (by kernel_rfl) (by kernel_rfl) hg65) ?_
        obtain ⟨x66, hx66, h⟩ := bd_some h
        refine WPI.run 0 ⟨#[y1, vp b6 0, Z, s42, g43, s7, s10, s42, vi (((List.length l41 : Nat) : Int)), vb true, s42, va (slAt s42 6 (Int.toNat 0)), g49, g50, g51, g52, g53, g54, g55, g56, g57, g58, g59, g60], []⟩ w61 (fun K => by kernel_rfl) ?_
        refine WPI.value (v := TNode.val x66) rfl (by kernel_rfl) (ev_loadEl (F := fTNode) (St.rd H62 1 rfl) (hp_no_le _) hx66 33 (.tmp 11) 0 (TNode.val x66) rfl (by kernel_rfl) (by kernel_rfl)) ?_
        refine WPI.run 0 ⟨#[y1, vp b6 0, Z, s42, g43, s7, s10, s42, vi (((List.length l41 : Nat) : Int)), vb true, s42, va (slAt s42 6 (Int.toNat 0)), TNode.val x66, g50, g51, g52, g53, g54, g55, g56, g57, g58, g59, g60], []⟩ w61 (fun K => by kernel_rfl) ?_
        refine WPI.op rfl (Op1.alloc H62 #[vi 0, vi 0, vu 0, vu 0, vu 0, vu 0] (by kernel_rfl) 33 rfl (by kernel_rfl) (fun b67 w69 H70 => ?_))
        clear H62
        refine WPI.run 0 ⟨#[y1, vp b6 0, Z, s42, vp b67 0, s7, s10, s42, vi (((List.length l41 : Nat) : Int)), vb true, s42, va (slAt s42 6 (Int.toNat 0)), TNode.val x66, g50, g51, g52, g53, g54, g55, g56, g57, g58, g59, g60], []⟩ w69 (fun K => by kernel_rfl) ?_
        refine WPI.op rfl (Op1.storeBox H70 0 rfl (by kernel_rfl) 33 (.tmp 4) (.tmp 12) 0 (TNode.val x66) (TNode.cs x66).toArray true rfl (by kernel_rfl) (by kernel_rfl) (by kernel_rfl) (by kernel_rfl) (by kernel_rfl) (flat_one1 fTNode x66) (fun w71 H72 => ?_))
        clear H70
        refine WPI.run 0 ⟨#[y1, vp b6 0, Z, s42, vp b67 0, s7, s10, s42, vi (((List.length l41 : Nat) : Int)), vb true, s42, va (slAt s42 6 (Int.toNat 0)), TNode.val x66, g50, g51, g52, g53, g54, g55, g56, g57, g58, g59, g60], []⟩ w71 (fun K => by kernel_rfl) ?_
        refine WPI.done rfl ?_
        refine then_n ?_
        refine WP.seq ?_
        refine WP.seq ?_
        refine WP.region ?_
        refine WPI.run 1 ⟨#[y1, vp b6 0, Z, s42, vp b67 0, s7, s10, s42, vi (((List.length l41 : Nat) : Int)), vb true, s42, va (slAt s42 6 (Int.toNat 0)), TNode.val x66, y1, g51, g52, g53, g54, g55, g56, g57, g58, g59, g60], []⟩ w71 (fun K => by kernel_rfl) ?_
        refine WPI.value (v := TNode.val x66) rfl (by kernel_rfl) (ev_loadBox H72 0 rfl 33 (.tmp 4) 0 (TNode.val x66) rfl (by kernel_rfl) (by kernel_rfl)) ?_
        obtain ⟨z73, c74, hz73, h⟩ := bd2_some h
        refine WPI.run 0 ⟨#[y1, vp b6 0, Z, s42, vp b67 0, s7, s10, s42, vi (((List.length l41 : Nat) : Int)), vb true, s42, va (slAt s42 6 (Int.toNat 0)), TNode.val x66, y1, TNode.val x66, g52, g53, g54, g55, g56, g57, g58, g59, g60], []⟩ w71 (fun K => by kernel_rfl) ?_
        refine YOk.call (vs := #[TNode.val x66]) hy H72 hhl hhd 1 rfl hz73 rfl (by kernel_rfl) rfl (by kernel_rfl) (by kernel_rfl) rfl (fun t75 w76 H77 => ?_)
        clear H72
        obtain ⟨c78, hc78, h⟩ := lt_some h
        refine WPI.run 1 ⟨#[y1, vp b6 0, Z, s42, vp b67 0, s7, s10, s42, vi (((List.length l41 : Nat) : Int)), vb true, s42, va (slAt s42 6 (Int.toNat 0)), TNode.val x66, y1, TNode.val x66, vb c74, vb c78, g54, g55, g56, g57, g58, g59, g60], []⟩ w76 (fun K => by subst hc78; kernel_rfl) ?_
        refine WPI.done rfl ?_
        refine then_n ?_
        cases c78 with
        | false =>
          replace h := br_f h
          refine WP.condF (by kernel_rfl) ?_
          refine WP.skip ?_
          refine then_n ?_
          refine WP.region ?_
          refine WPI.run 2 ⟨#[y1, vp b6 0, Z, s42, vp b67 0, s7, s10, s42, vi (((List.length l41 : Nat) : Int)), vb true, s42, va (slAt s42 6 (Int.toNat 0)), TNode.val x66, y1, TNode.val x66, vb c74, vb false, g54, s42, vp b67 0, g57, g58, g59, g60], []⟩ w76 (fun K => by kernel_rfl) ?_
          refine WPI.value (v := vi x66.Acct) rfl (by kernel_rfl) (ev_loadBox H77 1 rfl 3 (.tmp 19) 0 (vi x66.Acct) rfl (by kernel_rfl) (by kernel_rfl)) ?_
          obtain ⟨t79, ht79, h⟩ := bd_some h
          refine WPI.run 0 ⟨#[y1, vp b6 0, Z, s42, vp b67 0, s7, s10, s42, vi (((List.length l41 : Nat) : Int)), vb true, s42, va (slAt s42 6 (Int.toNat 0)), TNode.val x66, y1, TNode.val x66, vb c74, vb false, g54, s42, vp b67 0, vi x66.Acct, g58, g59, g60], []⟩ w76 (fun K => by kernel_rfl) ?_
          refine WPI.op rfl (Op1.call (by kernel_rfl) (by kernel_rfl) (g_heap_Drop_w fuel s42 l41 x66.Acct t79 ht79 _ (St.rd H77 2 rfl)) ?_)
          rintro _ w83 ⟨s80, rfl, Hc84⟩
          have H85 := St.call0 H77 Hc84
          clear H77 Hc84
          have sf82 := Own.isSl (St.get H85 0 rfl)
          refine WPI.run 4 ⟨#[y1, vp b6 0, Z, s80, vp b67 0, s7, s10, s42, vi (((List.length l41 : Nat) : Int)), vb true, s42, va (slAt s42 6 (Int.toNat 0)), TNode.val x66, y1, TNode.val x66, vb c74, vb false, .tuple #[s80, vi t79.2], s42, vp b67 0, vi x66.Acct, .tuple #[s80, vi t79.2], s80, vi t79.2], []⟩ w83 (fun K => by kernel_rfl) ?_
          refine WPI.done rfl ?_
          exact inb_n (then_n ⟨n, Nat.lt_succ_self n, z73, t79.1, t75, s80, _, _, _, _, _, _, _, _, _, _, _, _, _, _, _, _, _, _, rfl, St.sel H85 [1, 0] (by decide) rfl, h⟩)
        | true =>
          replace h := br_t h
          refine WP.condT (by kernel_rfl) ?_
          refine WP.ret ?_
          obtain rfl := Option.some.inj h
          exact then_r (inb_r (then_r (inb_r (then_r (post_r (.tuple #[]) rfl (by kernel_rfl) ⟨t75, rfl, St.sel H77 [0] (by decide) rfl⟩)))))
  · rintro a w ⟨l16, s17, g18, g19, g20, g21, g22, g23, g24, g25, g26, g27, g28, g29, g30, g31, g32, g33, g34, g35, g36, rfl, H, h⟩
    subst hK37
    obtain ⟨w86, rfl⟩ : ∃ x, x = w := ⟨_, rfl⟩
    have H87 := H; clear H
    obtain rfl := Option.some.inj h
    exact post_n (.tuple #[]) rfl (by kernel_rfl) ⟨s17, rfl, St.sel H87 [0] (by decide) rfl⟩
/- tarn/heap.Order$1 -/
def g_heap_Order_1 (fuel : Nat) {σ : Type} (q2 : TNode → σ → Option (σ × Bool)) (z3 : σ) : Option σ :=
  some z3
theorem g_heap_Order_1_w (fuel : Nat) {σ τ : Type} (Zs : σ → τ → Res) (q2 : TNode → σ → Option (σ × Bool)) (hh : Hp) (y1 : Value) (z3 : σ) (t4 : τ) (r : σ) (h : g_heap_Order_1 fuel q2 z3 = some r) (w0 : World) (hy : YOk Try.prog (AR1 fTNode) hh y1 Zs q2) (hhl : hh.le w0) (hhd : ∀ k o, hh k = some o → ¬ (Zs z3 t4).fp k) (hz : (Zs z3 t4).holds w0) :
    Ret Try.prog 49 #[y1] w0 (fun v w' => ∃ (t' : τ), v = .tuple #[] ∧ St (Zs z3 t4).fp w0 w' [Zs r t']) := by
  unfold g_heap_Order_1 at h
  refine ret_of_wp Try.func49 rfl #[y1, Z] (by kernel_rfl) ?_
  have H0 := St.start1 hz
  refine WP.skip ?_
  obtain rfl := Option.some.inj h
  exact post_n (.tuple #[]) rfl (by kernel_rfl) ⟨t4, rfl, St.sel H0 [0] (by decide) rfl⟩
/- tarn/heap.Order -/
inductive It_heap_Order where
  | c50 (x0 : List TNode)
  | c49
def It_heap_Order.ap (fuel : Nat) (it : It_heap_Order) (σ : Type) (q : TNode → σ → Option (σ × Bool)) (s : σ) : Option σ := match it with
  | .c50 x0 => g_heap_Order_2 fuel q s x0
  | .c49 => g_heap_Order_1 fuel q s
def g_heap_Order (fuel : Nat) (l2 : List TNode) : Option It_heap_Order :=
  bd (g_heap_Check fuel l2) fun t3 => lt (t3 != 0) fun c7 => br c7 (some It_heap_Order.c49) (bd (g_slices_Clone_api_Node_api_Node fuel l2) fun t8 => some (It_heap_Order.c50 t8))
theorem g_heap_Order_w (fuel : Nat) (s1 : Value) (l2 : List TNode) (r : It_heap_Order) (h : g_heap_Order fuel l2 = some r) (w0 : World) (hs1 : Rd fTNode (hp no w0) s1 l2) :
    Ret Try.prog 36 #[s1] w0 (fun v w' => ∃ (q0 : Value) (C0 : Res), v = q0 ∧ ItOk Try.prog (AR1 fTNode) q0 (fun σ q s => It_heap_Order.ap fuel r σ q s) C0 ∧ St no w0 w' [C0]) := by
  unfold g_heap_Order at h
  refine ret_of_wp Try.func36 rfl #[s1, Z, Z, Z, Z, Z, Z, Z, Z, Z] (by kernel_rfl) ?_
  have H0 := St.start w0
  refine WP.seq ?_
  refine WP.region ?_
  refine WPI.run 1 ⟨#[s1, Z, Value.nilFunc, Z, Z, Z, Z, Z, Z, Z], []⟩ w0 (fun K => by kernel_rfl) ?_
  refine WPI.done rfl ?_
  refine then_n ?_
  refine WP.seq ?_
  refine WP.seq ?_
  refine WP.region ?_
  obtain ⟨t3, ht3, h⟩ := bd_some h
  refine WPI.run 1 ⟨#[s1, Z, Value.nilFunc, Z, s1, Z, Z, Z, Z, Z], []⟩ w0 (fun K => by kernel_rfl) ?_
  refine WPI.op rfl (Op1.call (by kernel_rfl) (by kernel_rfl) (g_heap_Check_w fuel s1 l2 t3 ht3 _ (Rd.arg0 hs1 H0)) ?_)
  rintro _ w4 ⟨rfl, Hc5⟩
  have H6 := St.call0' H0 Hc5
  clear Hc5
  obtain ⟨c7, hc7, h⟩ := lt_some h
  refine WPI.run 1 ⟨#[s1, Z, Value.nilFunc, Z, s1, vi t3, vb c7, Z, Z, Z], []⟩ w4 (fun K => by subst hc7; kernel_rfl) ?_
  refine WPI.done rfl ?_
  refine then_n ?_
  cases c7 with
  | false =>
    replace h := br_f h
    refine WP.condF (by kernel_rfl) ?_
    refine WP.skip ?_
    refine then_n ?_
    refine WP.seq ?_
    refine WP.region ?_
    obtain ⟨t8, ht8, h⟩ := bd_some h
    refine WPI.run 1 ⟨#[s1, Z, Value.nilFunc, Z, s1, vi t3, vb false, s1, Z, Z], []⟩ w4 (fun K => by kernel_rfl) ?_
    refine WPI.op rfl (Op1.call (by kernel_rfl) (by kernel_rfl) (g_slices_Clone_api_Node_api_Node_w fuel s1 l2 t8 ht8 _ (Rd.arg0 hs1 H6)) ?_)
    rintro s9 w12 ⟨_, rfl, Hc13⟩
    have H14 := St.call0 H6 Hc13
    clear H6 Hc13
    have sf11 := Own.isSl (St.get H14 0 rfl)
    refine WPI.run 0 ⟨#[s1, Z, Value.nilFunc, Z, s1, vi t3, vb false, s1, s9, Z], []⟩ w12 (fun K => by kernel_rfl) ?_
    refine WPI.op rfl (Op1.alloc H14 #[vn] (by kernel_rfl) 22 rfl (by kernel_rfl) (fun b15 w17 H18 => ?_))
    clear H14
    refine WPI.run 0 ⟨#[s1, Z, Value.nilFunc, vp b15 0, s1, vi t3, vb false, s1, s9, Z], []⟩ w17 (fun K => by kernel_rfl) ?_
    refine WPI.op rfl (Op1.storeBoxS H18 0 rfl (by kernel_rfl) 22 (.tmp 3) (.tmp 8) 0 (s9) #[s9] sf11 rfl (by kernel_rfl) (by kernel_rfl) (by kernel_rfl) (by kernel_rfl) (by kernel_rfl) (fun w19 H20 => ?_))
    clear H18
    refine WPI.run 0 ⟨#[s1, Z, Value.nilFunc, vp b15 0, s1, vi t3, vb false, s1, s9, Z], []⟩ w19 (fun K => by kernel_rfl) ?_
    refine WPI.done rfl ?_
    refine then_n ?_
    refine WP.seq ?_
    refine WP.region ?_
    refine WPI.run 2 ⟨#[s1, Z, Value.func (.func 50) #[] #[vp b15 0], vp b15 0, s1, vi t3, vb false, s1, s9, Value.func (.func 50) #[] #[vp b15 0]], []⟩ w19 (fun K => by kernel_rfl) ?_
    refine WPI.done rfl ?_
    refine then_n ?_
    refine WP.ret ?_
    obtain rfl := Option.some.inj h
    exact post_r (Value.func (.func 50) #[] #[vp b15 0]) rfl (by kernel_rfl) ⟨(Value.func (.func 50) #[] #[vp b15 0]), _, rfl, (itOk_mk 50 (fun args w => by kernel_rfl) (fun σ τ Z q hh yv hy s t r w h hC hl hd hz hdd => (g_heap_Order_2_w fuel Z q hh yv s t b15 s9 t8 r h w hy hl hd hz (box_hp (mem_all hC 0 rfl) (mem_fp hdd 0 rfl)) (own_hp (mem_all hC 1 rfl) (mem_fp hdd 1 rfl))).mono (fun v w1 ⟨t1, _, h1⟩ => ⟨t1, h1⟩))), St.pack (St.sel (Rs' := [Box b15 #[s9] 22, Own fTNode 33 s9 t8]) H20 [0, 1] (by decide) rfl)⟩
  | true =>
    replace h := br_t h
    refine WP.condT (by kernel_rfl) ?_
    refine WP.seq ?_
    refine WP.region ?_
    refine WPI.run 1 ⟨#[s1, Z, Value.func (.func 49) #[] #[], Z, s1, vi t3, vb true, Z, Z, Z], []⟩ w4 (fun K => by kernel_rfl) ?_
    refine WPI.done rfl ?_
    refine then_n ?_
    refine WP.ret ?_
    obtain rfl := Option.some.inj h
    exact then_r (post_r (Value.func (.func 49) #[] #[]) rfl (by kernel_rfl) ⟨(Value.func (.func 49) #[] #[]), _, rfl, (itOk_mk 49 (fun args w => by kernel_rfl) (fun σ τ Z q hh yv hy s t r w h hC hl hd hz hdd => (g_heap_Order_1_w fuel Z q hh yv s t r h w hy hl hd hz ).mono (fun v w1 ⟨t1, _, h1⟩ => ⟨t1, h1⟩))), St.nores (St.sel (Rs' := []) H6 [] (by decide) rfl)⟩)
/- tarn/tarnlaw13.order -/
def g_tarnlaw13_order (fuel : Nat) (l2 : List TNode) (p3 : Int) : Option (List TNode) :=
  bd (g_heap_Order fuel l2) fun t12 => jn (fun (l25 : List TNode) => some l25) fun K38 => jn (fun (l42 : List TNode) => K38 l42) fun K54 => bd2 (It_heap_Order.ap fuel t12 ((List TNode) × Nat) (rq (fun (x66 : TNode) (l57 : List TNode) => lt ((((List.length l57 : Nat) : Int)) == p3) fun c87 => br c87 (some ((l57, 1), false)) (gd ((List.length l57 + List.length (([x66] : List TNode))) * 48 ≤ 140737488355328) <| lt (l57 ++ (([x66] : List TNode))) fun l94 => some ((l94, 0), true)))) (([]), 0)) fun z61 j62 => sw j62 0 (K54 z61) (sw j62 1 (K54 z61) (none))
theorem g_tarnlaw13_order_w (fuel : Nat) (s1 : Value) (l2 : List TNode) (p3 : Int) (r : List TNode) (h : g_tarnlaw13_order fuel l2 p3 = some r) (w0 : World) (hs1 : Rd fTNode (hp no w0) s1 l2) :
    Ret Try.prog 24 #[s1, vi p3] w0 (fun v w' => ∃ (q0 : Value), v = q0 ∧ St no w0 w' [Own fTNode 33 q0 r]) := by
  unfold g_tarnlaw13_order at h
  refine ret_of_wpM Try.func24 rfl #[s1, vi p3, Z, Z, Z, Z, Z, Z, Z, Z, Z, Z, Z, Z, Z, Z, Z, Z, Z, Z, Z, Z, Z] (by kernel_rfl) ?_
  have H0 := St.start w0
  refine WP.seq ?_
  refine WP.region ?_
  refine WPI.op rfl (Op1.box H0 #[vi p3] (by kernel_rfl) 3 (.tmp 1) rfl (by kernel_rfl) (fun b4 w6 H7 => ?_))
  refine WPI.run 1 ⟨#[s1, vi p3, Z, vp b4 0, vn, Z, Z, Z, Z, Z, Z, Z, Z, Z, Z, Z, Z, Z, Z, Z, Z, Z, Z], []⟩ w6 (fun K => by kernel_rfl) ?_
  refine WPI.done rfl ?_
  refine then_n ?_
  refine WP.seq ?_
  refine WP.region ?_
  refine WPI.op rfl (Op1.alloc H7 #[vn] (by kernel_rfl) 22 rfl (by kernel_rfl) (fun b8 w10 H11 => ?_))
  clear H7
  refine WPI.run 0 ⟨#[s1, vi p3, Z, vp b4 0, vn, vp b8 0, Z, Z, Z, Z, Z, Z, Z, Z, Z, Z, Z, Z, Z, Z, Z, Z, Z], []⟩ w10 (fun K => by kernel_rfl) ?_
  refine WPI.done rfl ?_
  refine then_n ?_
  refine WP.seq ?_
  refine WP.region ?_
  obtain ⟨t12, ht12, h⟩ := bd_some h
  refine WPI.run 1 ⟨#[s1, vi p3, Z, vp b4 0, vn, vp b8 0, Z, Z, s1, Z, Z, Z, Z, Z, Z, Z, Z, Z, Z, Z, Z, Z, Z], []⟩ w10 (fun K => by kernel_rfl) ?_
  refine WPI.op rfl (Op1.call (by kernel_rfl) (by kernel_rfl) (g_heap_Order_w fuel s1 l2 t12 ht12 _ (Rd.arg0 hs1 H11)) ?_)
  rintro _ w17 ⟨q13, C14, rfl, hit16, Hc18⟩
  have H19 := St.call0 H11 Hc18
  clear H11 Hc18
  obtain ⟨k20, cap21, rfl⟩ := ItOk.form hit16
  refine WPI.run 1 ⟨#[s1, vi p3, Z, vp b4 0, vn, vp b8 0, Value.func (.func k20) #[] cap21, Z, s1, Value.func (.func k20) #[] cap21, Z, Z, Z, Z, Z, Z, Z, Z, Z, Z, Z, Z, Z], []⟩ w17 (fun K => by kernel_rfl) ?_
  refine WPI.done rfl ?_
  refine then_n ?_
  refine WP.seq ?_
  refine WP.seq ?_
  refine WP.region ?_
  refine WPI.run 2 ⟨#[s1, vi p3, Z, vp b4 0, vn, vp b8 0, Value.func (.func k20) #[] cap21, Z, s1, Value.func (.func k20) #[] cap21, Value.func (.func k20) #[] cap21, vb false, Z, Z, Z, Z, Z, Z, Z, Z, Z, Z, Z], []⟩ w17 (fun K => by kernel_rfl) ?_
  refine WPI.done rfl ?_
  refine then_n ?_
  refine WP.condF (by kernel_rfl) ?_
  refine WP.skip ?_
  refine then_n ?_
  obtain ⟨K38, hK38, h⟩ := jn_some h
  refine WP.seqJ (fun a w => ∃ (l25 : List TNode) (D22 : Nat) (s26 : Value) (g27 : Value) (g28 : Value) (g29 : Value) (g30 : Value) (g31 : Value) (g32 : Value) (g33 : Value) (g34 : Value) (g35 : Value) (g36 : Value) (g37 : Value), a = ⟨#[s1, vi p3, Z, vp b4 0, vn, vp b8 0, Value.func (.func k20) #[] cap21, g27, s1, Value.func (.func k20) #[] cap21, Value.func (.func k20) #[] cap21, vb false, g28, g29, g30, g31, g32, g33, g34, g35, g36, g37, Z], [mk D22]⟩ ∧ St no w0 w [C14, DMark D22, Box b8 #[s26] 22, Box b4 #[vi p3] 3, Own fTNode 33 s26 l25] ∧ K38 l25 = some r) ?_ ?_
  · skip
    refine WP.seq ?_
    refine WP.region ?_
    refine WPI.run 1 ⟨#[s1, vi p3, Z, vp b4 0, vn, vp b8 0, Value.func (.func k20) #[] cap21, Z, s1, Value.func (.func k20) #[] cap21, Value.func (.func k20) #[] cap21, vb false, Value.func (.func k20) #[] cap21, Z, Z, Z, Z, Z, Z, Z, Z, Z, Z], []⟩ w17 (fun K => by kernel_rfl) ?_
    refine WPI.done rfl ?_
    refine then_n ?_
    obtain ⟨K54, hK54, h⟩ := jn_some h
    refine WP.blockJ (fun a w => ∃ (l42 : List TNode) (D39 : Nat) (s43 : Value) (g44 : Value) (g45 : Value) (g46 : Value) (g47 : Value) (g48 : Value) (g49 : Value) (g50 : Value) (g51 : Value) (g52 : Value) (g53 : Value), a = ⟨#[s1, vi p3, Z, vp b4 0, vn, vp b8 0, Value.func (.func k20) #[] cap21, g44, s1, Value.func (.func k20) #[] cap21, Value.func (.func k20) #[] cap21, vb false, Value.func (.func k20) #[] cap21, g45, g46, g47, g48, g49, g50, g51, g52, g53, Z], [mk D39]⟩ ∧ St no w0 w [C14, DMark D39, Box b8 #[s43] 22, Box b4 #[vi p3] 3, Own fTNode 33 s43 l42] ∧ K54 l42 = some r) ?_ ?_
    · skip
      have H59 := St.sel (Rs' := [C14, Box b8 #[vn] 22, Box b4 #[vi p3] 3, Own fTNode 33 vn []]) (St.nil H19 fTNode 33) [1, 2, 3, 0] (by decide) rfl
      have hO60 := St.outer (St.sel (Rs' := [Box b8 #[vn] 22, Box b4 #[vi p3] 3, Own fTNode 33 vn []]) H59 [1, 2, 3] (by decide) rfl)
      obtain ⟨z61, j62, hz63, h⟩ := bd2_some h
      refine WP.range H59 hit16 (by kernel_rfl) (outer no w17 [Box b8 #[vn] 22, Box b4 #[vi p3] 3, Own fTNode 33 vn []]) outer_le outer_dis (fun (s : List TNode) (t : Value) => [Box b8 #[t] 22, Box b4 #[vi p3] 3, Own fTNode 33 t s]) (jmp [.exit 0]) _ ([]) vn rfl rfl (z61, j62) hz63 (fun w vs x hv => by rw [show vs = _ from hv]; rfl) ?_ (rq_stop _ _) (jmp_none _) ?_
      · rintro L64 rc65 _ x66 l57 s58 z76 M68 w67 hr69 hp70 rfl hq72 hL73 hD74 H75
        have h := rq_get hq72
        try dsimp only at h
        have H77 : St M68 w67 w67 [Thing L64 (.loop rc65), Box b8 #[s58] 22, Box b4 #[vi p3] 3, Own fTNode 33 s58 l57] := H75
        clear H75
        have sf78 := Own.isSl (St.get H77 3 rfl)
        refine WP.frame (a' := ⟨#[s1, vi p3, Z, vp b4 0, vn, vp b8 0, Value.func (.func k20) #[] cap21, Z, s1, Value.func (.func k20) #[] cap21, Value.func (.func k20) #[] cap21, vb false, Value.func (.func k20) #[] cap21, TNode.val x66, Z, Z, Z, Z, Z, Z, Z, Z, Z], []⟩) (by kernel_rfl) ?_
        refine WP.region ?_
        refine WPI.op rfl (Op1.alloc H77 #[vi 0, vi 0, vu 0, vu 0, vu 0, vu 0] (by kernel_rfl) 33 rfl (by kernel_rfl) (fun b79 w81 H82 => ?_))
        clear H77
        refine WPI.run 0 ⟨#[s1, vi p3, Z, vp b4 0, vn, vp b8 0, Value.func (.func k20) #[] cap21, vp b79 0, s1, Value.func (.func k20) #[] cap21, Value.func (.func k20) #[] cap21, vb false, Value.func (.func k20) #[] cap21, TNode.val x66, Z, Z, Z, Z, Z, Z, Z, Z, Z], []⟩ w81 (fun K => by kernel_rfl) ?_
        refine WPI.op rfl (Op1.storeBox H82 0 rfl (by kernel_rfl) 33 (.tmp 7) (.tmp 13) 0 (TNode.val x66) (TNode.cs x66).toArray true rfl (by kernel_rfl) (by kernel_rfl) (by kernel_rfl) (by kernel_rfl) (by kernel_rfl) (flat_one1 fTNode x66) (fun w83 H84 => ?_))
        clear H82
        refine WPI.run 0 ⟨#[s1, vi p3, Z, vp b4 0, vn, vp b8 0, Value.func (.func k20) #[] cap21, vp b79 0, s1, Value.func (.func k20) #[] cap21, Value.func (.func k20) #[] cap21, vb false, Value.func (.func k20) #[] cap21, TNode.val x66, Z, Z, Z, Z, Z, Z, Z, Z, Z], []⟩ w83 (fun K => by kernel_rfl) ?_
        refine WPI.done rfl ?_
        refine (rbegun H84 1 rfl hr69 hp70 (fun w85 H86 => ?_))
        clear H84
        refine WP.block ?_
        refine WP.seq ?_
        refine WP.seq ?_
        refine WP.region ?_
        refine WPI.value (v := s58) rfl (by kernel_rfl) (ev_loadBox H86 2 rfl 22 (.tmp 5) 0 (s58) rfl (by kernel_rfl) (by kernel_rfl)) ?_
        refine WPI.run 0 ⟨#[s1, vi p3, Z, vp b4 0, vn, vp b8 0, Value.func (.func k20) #[] cap21, vp b79 0, s1, Value.func (.func k20) #[] cap21, Value.func (.func k20) #[] cap21, vb false, Value.func (.func k20) #[] cap21, TNode.val x66, s58, Z, Z, Z, Z, Z, Z, Z, Z], []⟩ w85 (fun K => by kernel_rfl) ?_
        refine WPI.value (v := vi (((List.length l57 : Nat) : Int))) rfl (by kernel_rfl) (ev_len sf78 22 (.tmp 14) 33 6 48 rfl (by kernel_rfl) (by kernel_rfl)) ?_
        refine WPI.run 0 ⟨#[s1, vi p3, Z, vp b4 0, vn, vp b8 0, Value.func (.func k20) #[] cap21, vp b79 0, s1, Value.func (.func k20) #[] cap21, Value.func (.func k20) #[] cap21, vb false, Value.func (.func k20) #[] cap21, TNode.val x66, s58, vi (((List.length l57 : Nat) : Int)), Z, Z, Z, Z, Z, Z, Z], []⟩ w85 (fun K => by kernel_rfl) ?_
        refine WPI.value (v := vi p3) rfl (by kernel_rfl) (ev_loadBox H86 3 rfl 3 (.tmp 3) 0 (vi p3) rfl (by kernel_rfl) (by kernel_rfl)) ?_
        obtain ⟨c87, hc87, h⟩ := lt_some h
        refine WPI.run 1 ⟨#[s1, vi p3, Z, vp b4 0, vn, vp b8 0, Value.func (.func k20) #[] cap21, vp b79 0, s1, Value.func (.func k20) #[] cap21, Value.func (.func k20) #[] cap21, vb false, Value.func (.func k20) #[] cap21, TNode.val x66, s58, vi (((List.length l57 : Nat) : Int)), vi p3, vb c87, Z, Z, Z, Z, Z], []⟩ w85 (fun K => by subst hc87; kernel_rfl) ?_
        refine WPI.done rfl ?_
        refine then_n ?_
        cases c87 with
        | false =>
          replace h := br_f h
          refine WP.condF (by kernel_rfl) ?_
          refine WP.skip ?_
          refine then_n ?_
          refine WP.region ?_
          refine WPI.value (v := s58) rfl (by kernel_rfl) (ev_loadBox H86 2 rfl 22 (.tmp 5) 0 (s58) rfl (by kernel_rfl) (by kernel_rfl)) ?_
          refine WPI.run 0 ⟨#[s1, vi p3, Z, vp b4 0, vn, vp b8 0, Value.func (.func k20) #[] cap21, vp b79 0, s1, Value.func (.func k20) #[] cap21, Value.func (.func k20) #[] cap21, vb false, Value.func (.func k20) #[] cap21, TNode.val x66, s58, vi (((List.length l57 : Nat) : Int)), vi p3, vb false, s58, Z, Z, Z, Z], []⟩ w85 (fun K => by kernel_rfl) ?_
          refine WPI.value (v := TNode.val x66) rfl (by kernel_rfl) (ev_loadBox H86 1 rfl 33 (.tmp 7) 0 (TNode.val x66) rfl (by kernel_rfl) (by kernel_rfl)) ?_
          refine WPI.run 0 ⟨#[s1, vi p3, Z, vp b4 0, vn, vp b8 0, Value.func (.func k20) #[] cap21, vp b79 0, s1, Value.func (.func k20) #[] cap21, Value.func (.func k20) #[] cap21, vb false, Value.func (.func k20) #[] cap21, TNode.val x66, s58, vi (((List.length l57 : Nat) : Int)), vi p3, vb false, s58, TNode.val x66, Z, Z, Z], []⟩ w85 (fun K => by kernel_rfl) ?_
          refine WPI.op rfl (Op1.lit (F := fTNode) (E := 33) H86 (by kernel_rfl) ([x66] : List TNode) (fun w => by kernel_rfl) (by simp [maxLen]) (fun s89 w91 H92 => ?_))
          clear H86
          have sf90 := Own.isSl (St.get H92 0 rfl)
          obtain ⟨hg93, h⟩ := gd_some h
          obtain ⟨l94, hl94, h⟩ := lt_some h
          refine WPI.run 0 ⟨#[s1, vi p3, Z, vp b4 0, vn, vp b8 0, Value.func (.func k20) #[] cap21, vp b79 0, s1, Value.func (.func k20) #[] cap21, Value.func (.func k20) #[] cap21, vb false, Value.func (.func k20) #[] cap21, TNode.val x66, s58, vi (((List.length l57 : Nat) : Int)), vi p3, vb false, s58, TNode.val x66, s89, Z, Z], []⟩ w91 (fun K => by kernel_rfl) ?_
          refine WPI.op rfl (Op1.append (F := fTNode) H92 5 rfl (by kernel_rfl) 22 (.tmp 18) (.tmp 20) 48 rfl (by kernel_rfl) (by kernel_rfl) s89 (([x66] : List TNode)) (St.rd H92 0 rfl) (hp_no_le _) (by kernel_rfl) (app_len hg93 (by decide)) (fun s95 w97 H98 => ?_))
          rw [← hl94] at H98
          clear H92
          have sf96 := Own.isSl (St.get H98 0 rfl)
          refine WPI.run 0 ⟨#[s1, vi p3, Z, vp b4 0, vn, vp b8 0, Value.func (.func k20) #[] cap21, vp b79 0, s1, Value.func (.func k20) #[] cap21, Value.func (.func k20) #[] cap21, vb false, Value.func (.func k20) #[] cap21, TNode.val x66, s58, vi (((List.length l57 : Nat) : Int)), vi p3, vb false, s58, TNode.val x66, s89, s95, Z], []⟩ w97 (fun K => by kernel_rfl) ?_
          refine WPI.op rfl (Op1.storeBoxS H98 4 rfl (by kernel_rfl) 22 (.tmp 5) (.tmp 21) 0 (s95) #[s95] sf96 rfl (by kernel_rfl) (by kernel_rfl) (by kernel_rfl) (by kernel_rfl) (by kernel_rfl) (fun w99 H100 => ?_))
          clear H98
          refine WPI.run 0 ⟨#[s1, vi p3, Z, vp b4 0, vn, vp b8 0, Value.func (.func k20) #[] cap21, vp b79 0, s1, Value.func (.func k20) #[] cap21, Value.func (.func k20) #[] cap21, vb false, Value.func (.func k20) #[] cap21, TNode.val x66, s58, vi (((List.length l57 : Nat) : Int)), vi p3, vb false, s58, TNode.val x66, s89, s95, Z], []⟩ w99 (fun K => by kernel_rfl) ?_
          refine WPI.done rfl ?_
          exact inb_n ⟨0, rfl, l94, s95, (Option.some.inj h).symm, St.sel H100 [3, 0, 5, 1] (by decide) rfl⟩
        | true =>
          replace h := br_t h
          refine WP.condT (by kernel_rfl) ?_
          refine WP.exit ?_
          exact then_e (inb_x (by decide) ⟨1, rfl, l57, s58, (Option.some.inj h).symm, St.sel H86 [0, 2, 3, 4] (by decide) rfl⟩)
      · rintro D101 s58 w102 H103
        obtain ⟨l57, rfl⟩ : ∃ y, y = z61 := ⟨_, rfl⟩
        have H105 : St no w0 w102 [DMark D101, C14, Box b8 #[s58] 22, Box b4 #[vi p3] 3, Own fTNode 33 s58 l57] := H103
        clear H103
        have sf106 := Own.isSl (St.get H105 4 rfl)
        cases j62 with
        | zero =>
          replace h := sw_t h
          refine aft_n rfl ?_
          exact inb_n (then_n ⟨l57, D101, s58, _, _, _, _, _, _, _, _, _, _, rfl, St.sel H105 [1, 0, 2, 3, 4] (by decide) rfl, h⟩)
        | succ j62 =>
          replace h := sw_f rfl h
          cases j62 with
          | zero =>
            replace h := sw_t h
            refine aft_c (.exit 0) rfl ?_
            refine WP.exit ?_
            exact inb_e (then_n ⟨l57, D101, s58, _, _, _, _, _, _, _, _, _, _, rfl, St.sel H105 [1, 0, 2, 3, 4] (by decide) rfl, h⟩)
          | succ j62 =>
            replace h := sw_f rfl h
            cases h
    · rintro a w ⟨l42, D39, s43, g44, g45, g46, g47, g48, g49, g50, g51, g52, g53, rfl, H, h⟩
      subst hK54
      obtain ⟨w107, rfl⟩ : ∃ x, x = w := ⟨_, rfl⟩
      have H108 := H; clear H
      have sf109 := Own.isSl (St.get H108 4 rfl)
      exact then_n ⟨l42, D39, s43, _, _, _, _, _, _, _, _, _, _, _, rfl, St.sel H108 [0, 1, 2, 3, 4] (by decide) rfl, h⟩
  · rintro a w ⟨l25, D22, s26, g27, g28, g29, g30, g31, g32, g33, g34, g35, g36, g37, rfl, H, h⟩
    subst hK38
    obtain ⟨w110, rfl⟩ : ∃ x, x = w := ⟨_, rfl⟩
    have H111 := H; clear H
    have sf112 := Own.isSl (St.get H111 4 rfl)
    refine WP.seq ?_
    refine WP.region ?_
    refine WPI.value (v := s26) rfl (by kernel_rfl) (ev_loadBox H111 2 rfl 22 (.tmp 5) 0 (s26) rfl (by kernel_rfl) (by kernel_rfl)) ?_
    refine WPI.run 1 ⟨#[s1, vi p3, Z, vp b4 0, s26, vp b8 0, Value.func (.func k20) #[] cap21, g27, s1, Value.func (.func k20) #[] cap21, Value.func (.func k20) #[] cap21, vb false, g28, g29, g30, g31, g32, g33, g34, g35, g36, g37, s26], [mk D22]⟩ w110 (fun K => by kernel_rfl) ?_
    refine WPI.done rfl ?_
    refine then_n ?_
    refine WP.ret ?_
    refine (postM (.inl rfl) [D22] rfl ?_)
    refine Unw.mark H111 1 rfl (fun w113 H114 => ?_)
    obtain rfl := Option.some.inj h
    exact ⟨s26, (by kernel_rfl), ⟨s26, rfl, St.sel H114 [3] (by decide) rfl⟩⟩
/- tarn/tarnlaw13.HeapOrders -/
def g_tarnlaw13_HeapOrders_l1 (l14 : List TNode) (fuel : Nat) (l2 : List TNode) (K54 : Option Bool) : Nat → Int → Option Bool
  | 0, _ => none
  | n + 1, x56 => lt (decide (x56 ≤ (((List.length l14 : Nat) : Int)))) fun c75 => br c75 (jn (fun (c84 : Bool) => br c84 (some false) (lt (wr .i64 (x56 + 1)) fun x103 => g_tarnlaw13_HeapOrders_l1 l14 fuel l2 K54 n x103)) fun K85 => bd (g_tarnlaw13_order fuel l2 x56) fun t87 => gd ((0 : Int) ≤ 0 ∧ 0 ≤ x56 ∧ x56 ≤ ((List.length l14 : Nat) : Int)) <| bd (g_tarnref0_EqNodes fuel t87 ((List.take (Int.toNat x56) l14))) fun t92 => lt (!t92) fun c93 => K85 c93) (K54)
def g_tarnlaw13_HeapOrders_l2 (l14 : List TNode) (fuel : Nat) (K126 : Option Bool) : Nat → Int → Option Bool
  | 0, _ => none
  | n + 1, x128 => lt (decide (x128 < (((List.length l14 : Nat) : Int)))) fun c149 => br c149 (lt (wr .i64 (x128 - 1)) fun x150 => gd ((0 : Int) ≤ x150 ∧ x150 < ((List.length l14 : Nat) : Int)) <| bd (l14[Int.toNat x150]?) fun x152 => gd ((0 : Int) ≤ x128 ∧ x128 < ((List.length l14 : Nat) : Int)) <| bd (l14[Int.toNat x128]?) fun x154 => bd (g_tarnref12_Below fuel x152 x154) fun t155 => lt (!t155) fun c156 => br c156 (some false) (lt (wr .i64 (x128 + 1)) fun x159 => g_tarnlaw13_HeapOrders_l2 l14 fuel K126 n x159)) (K126)
def g_tarnlaw13_HeapOrders (fuel : Nat) (l2 : List TNode) (l4 : List Ttarnlaw13_Act) : Option Bool :=
  bd (g_tarnlaw13_heavy fuel l2 l4) fun t9 => br t9 (some true) (jn (fun (l14 : List TNode) => jn (jn (bd (g_tarnlaw13_wakes fuel) fun t163 => some t163) fun K126 => g_tarnlaw13_HeapOrders_l2 l14 fuel K126 fuel 1) fun K54 => g_tarnlaw13_HeapOrders_l1 l14 fuel l2 K54 fuel 0) fun K22 => bd (g_tarnref12_Heap fuel l2) fun t23 => br t23 (bd (g_tarnref12_Order fuel l2) fun t27 => K22 t27) (K22 ([])))
theorem g_tarnlaw13_HeapOrders_w (fuel : Nat) (s1 : Value) (l2 : List TNode) (s3 : Value) (l4 : List Ttarnlaw13_Act) (r : Bool) (h : g_tarnlaw13_HeapOrders fuel l2 l4 = some r) (w0 : World) (hs1 : Rd fTNode (hp no w0) s1 l2) (hs3 : Rd fTtarnlaw13_Act (hp no w0) s3 l4) :
    Ret Try.prog 8 #[.agg #[s1, s3]] w0 (fun v w' => v = vb r ∧ St no w0 w' []) := by
  unfold g_tarnlaw13_HeapOrders at h
  refine ret_of_wp Try.func8 rfl #[.agg #[s1, s3], Z, Z, Z, Z, Z, Z, Z, Z, Z, Z, Z, Z, Z, Z, Z, Z, Z, Z, Z, Z, Z, Z, Z, Z, Z, Z, Z, Z, Z, Z, Z, Z, Z, Z, Z, Z, Z, Z, Z, Z, Z, Z, Z, Z, Z, Z] (by kernel_rfl) ?_
  have H0 := St.start w0
  refine WP.seq ?_
  refine WP.region ?_
  refine WPI.op rfl (Op1.box H0 #[s1, s3] (by kernel_rfl) 25 (.tmp 0) rfl (by kernel_rfl) (fun b5 w7 H8 => ?_))
  refine WPI.run 1 ⟨#[.agg #[s1, s3], vp b5 0, vb false, Z, Z, Z, Z, Z, Z, Z, Z, Z, Z, Z, Z, Z, Z, Z, Z, Z, Z, Z, Z, Z, Z, Z, Z, Z, Z, Z, Z, Z, Z, Z, Z, Z, Z, Z, Z, Z, Z, Z, Z, Z, Z, Z, Z], []⟩ w7 (fun K => by kernel_rfl) ?_
  refine WPI.done rfl ?_
  refine then_n ?_
  refine WP.seq ?_
  refine WP.seq ?_
  refine WP.region ?_
  refine WPI.value (v := .agg #[s1, s3]) rfl (by kernel_rfl) (ev_loadBox H8 0 rfl 25 (.tmp 1) 0 (.agg #[s1, s3]) rfl (by kernel_rfl) (by kernel_rfl)) ?_
  obtain ⟨t9, ht9, h⟩ := bd_some h
  refine WPI.run 0 ⟨#[.agg #[s1, s3], vp b5 0, vb false, Z, Z, Z, .agg #[s1, s3], Z, Z, Z, Z, Z, Z, Z, Z, Z, Z, Z, Z, Z, Z, Z, Z, Z, Z, Z, Z, Z, Z, Z, Z, Z, Z, Z, Z, Z, Z, Z, Z, Z, Z, Z, Z, Z, Z, Z, Z], []⟩ w7 (fun K => by kernel_rfl) ?_
  refine WPI.op rfl (Op1.call (by kernel_rfl) (by kernel_rfl) (g_tarnlaw13_heavy_w fuel s1 l2 s3 l4 t9 ht9 _ (Rd.arg0 hs1 H8) (Rd.arg0 hs3 H8)) ?_)
  rintro _ w10 ⟨rfl, Hc11⟩
  have H12 := St.call0' H8 Hc11
  clear H8 Hc11
  refine WPI.run 0 ⟨#[.agg #[s1, s3], vp b5 0, vb false, Z, Z, Z, .agg #[s1, s3], vb t9, Z, Z, Z, Z, Z, Z, Z, Z, Z, Z, Z, Z, Z, Z, Z, Z, Z, Z, Z, Z, Z, Z, Z, Z, Z, Z, Z, Z, Z, Z, Z, Z, Z, Z, Z, Z, Z, Z, Z], []⟩ w10 (fun K => by kernel_rfl) ?_
  refine WPI.done rfl ?_
  refine then_n ?_
  cases t9 with
  | false =>
    replace h := br_f h
    refine WP.condF (by kernel_rfl) ?_
    refine WP.skip ?_
    refine then_n ?_
    refine WP.seq ?_
    refine WP.region ?_
    refine WPI.run 1 ⟨#[.agg #[s1, s3], vp b5 0, vb false, vn, Z, Z, .agg #[s1, s3], vb false, Z, Z, Z, Z, Z, Z, Z, Z, Z, Z, Z, Z, Z, Z, Z, Z, Z, Z, Z, Z, Z, Z, Z, Z, Z, Z, Z, Z, Z, Z, Z, Z, Z, Z, Z, Z, Z, Z, Z], []⟩ w10 (fun K => by kernel_rfl) ?_
    refine WPI.done rfl ?_
    refine then_n ?_
    obtain ⟨K22, hK22, h⟩ := jn_some h
    refine WP.seqJ (fun a w => ∃ (l14 : List TNode) (s15 : Value) (g16 : Value) (g17 : Value) (g18 : Value) (g19 : Value) (g20 : Value) (g21 : Value), a = ⟨#[.agg #[s1, s3], vp b5 0, vb false, s15, Z, Z, .agg #[s1, s3], vb false, g16, g17, g18, g19, g20, g21, Z, Z, Z, Z, Z, Z, Z, Z, Z, Z, Z, Z, Z, Z, Z, Z, Z, Z, Z, Z, Z, Z, Z, Z, Z, Z, Z, Z, Z, Z, Z, Z, Z], []⟩ ∧ St no w0 w [Box b5 #[s1, s3] 25, Own fTNode 33 s15 l14] ∧ K22 l14 = some r) ?_ ?_
    · skip
      refine WP.seq ?_
      refine WP.region ?_
      refine WPI.run 1 ⟨#[.agg #[s1, s3], vp b5 0, vb false, vn, Z, Z, .agg #[s1, s3], vb false, vp b5 0, Z, Z, Z, Z, Z, Z, Z, Z, Z, Z, Z, Z, Z, Z, Z, Z, Z, Z, Z, Z, Z, Z, Z, Z, Z, Z, Z, Z, Z, Z, Z, Z, Z, Z, Z, Z, Z, Z], []⟩ w10 (fun K => by kernel_rfl) ?_
      refine WPI.value (v := s1) rfl (by kernel_rfl) (ev_loadBox H12 0 rfl 22 (.tmp 8) 0 (s1) rfl (by kernel_rfl) (by kernel_rfl)) ?_
      obtain ⟨t23, ht23, h⟩ := bd_some h
      refine WPI.run 0 ⟨#[.agg #[s1, s3], vp b5 0, vb false, vn, Z, Z, .agg #[s1, s3], vb false, vp b5 0, s1, Z, Z, Z, Z, Z, Z, Z, Z, Z, Z, Z, Z, Z, Z, Z, Z, Z, Z, Z, Z, Z, Z, Z, Z, Z, Z, Z, Z, Z, Z, Z, Z, Z, Z, Z, Z, Z], []⟩ w10 (fun K => by kernel_rfl) ?_
      refine WPI.op rfl (Op1.call (by kernel_rfl) (by kernel_rfl) (g_tarnref12_Heap_w fuel s1 l2 t23 ht23 _ (Rd.arg0 hs1 H12)) ?_)
      rintro _ w24 ⟨rfl, Hc25⟩
      have H26 := St.call0' H12 Hc25
      clear H12 Hc25
      refine WPI.run 0 ⟨#[.agg #[s1, s3], vp b5 0, vb false, vn, Z, Z, .agg #[s1, s3], vb false, vp b5 0, s1, vb t23, Z, Z, Z, Z, Z, Z, Z, Z, Z, Z, Z, Z, Z, Z, Z, Z, Z, Z, Z, Z, Z, Z, Z, Z, Z, Z, Z, Z, Z, Z, Z, Z, Z, Z, Z, Z], []⟩ w24 (fun K => by kernel_rfl) ?_
      refine WPI.done rfl ?_
      refine then_n ?_
      cases t23 with
      | false =>
        replace h := br_f h
        refine WP.condF (by kernel_rfl) ?_
        refine WP.skip ?_
        exact then_n ⟨([]), vn, _, _, _, _, _, _, rfl, St.sel (St.nil H26 fTNode 33) [1, 0] (by decide) rfl, h⟩
      | true =>
        replace h := br_t h
        refine WP.condT (by kernel_rfl) ?_
        refine WP.region ?_
        refine WPI.run 1 ⟨#[.agg #[s1, s3], vp b5 0, vb false, vn, Z, Z, .agg #[s1, s3], vb false, vp b5 0, s1, vb true, vp b5 0, Z, Z, Z, Z, Z, Z, Z, Z, Z, Z, Z, Z, Z, Z, Z, Z, Z, Z, Z, Z, Z, Z, Z, Z, Z, Z, Z, Z, Z, Z, Z, Z, Z, Z, Z], []⟩ w24 (fun K => by kernel_rfl) ?_
        refine WPI.value (v := s1) rfl (by kernel_rfl) (ev_loadBox H26 0 rfl 22 (.tmp 11) 0 (s1) rfl (by kernel_rfl) (by kernel_rfl)) ?_
        obtain ⟨t27, ht27, h⟩ := bd_some h
        refine WPI.run 0 ⟨#[.agg #[s1, s3], vp b5 0, vb false, vn, Z, Z, .agg #[s1, s3], vb false, vp b5 0, s1, vb true, vp b5 0, s1, Z, Z, Z, Z, Z, Z, Z, Z, Z, Z, Z, Z, Z, Z, Z, Z, Z, Z, Z, Z, Z, Z, Z, Z, Z, Z, Z, Z, Z, Z, Z, Z, Z, Z], []⟩ w24 (fun K => by kernel_rfl) ?_
        refine WPI.op rfl (Op1.call (by kernel_rfl) (by kernel_rfl) (g_tarnref12_Order_w fuel s1 l2 t27 ht27 _ (Rd.arg0 hs1 H26)) ?_)
        rintro s28 w31 ⟨_, rfl, Hc32⟩
        have H33 := St.call0 H26 Hc32
        clear H26 Hc32
        have sf30 := Own.isSl (St.get H33 0 rfl)
        refine WPI.run 1 ⟨#[.agg #[s1, s3], vp b5 0, vb false, s28, Z, Z, .agg #[s1, s3], vb false, vp b5 0, s1, vb true, vp b5 0, s1, s28, Z, Z, Z, Z, Z, Z, Z, Z, Z, Z, Z, Z, Z, Z, Z, Z, Z, Z, Z, Z, Z, Z, Z, Z, Z, Z, Z, Z, Z, Z, Z, Z, Z], []⟩ w31 (fun K => by kernel_rfl) ?_
        refine WPI.done rfl ?_
        exact then_n ⟨t27, s28, _, _, _, _, _, _, rfl, St.sel H33 [1, 0] (by decide) rfl, h⟩
    · rintro a w ⟨l14, s15, g16, g17, g18, g19, g20, g21, rfl, H, h⟩
      subst hK22
      obtain ⟨w34, rfl⟩ : ∃ x, x = w := ⟨_, rfl⟩
      have H35 := H; clear H
      have sf36 := Own.isSl (St.get H35 1 rfl)
      refine WP.seq ?_
      refine WP.seq ?_
      refine WP.region ?_
      refine WPI.run 1 ⟨#[.agg #[s1, s3], vp b5 0, vb false, s15, vi 0, Z, .agg #[s1, s3], vb false, g16, g17, g18, g19, g20, g21, Z, Z, Z, Z, Z, Z, Z, Z, Z, Z, Z, Z, Z, Z, Z, Z, Z, Z, Z, Z, Z, Z, Z, Z, Z, Z, Z, Z, Z, Z, Z, Z, Z], []⟩ w34 (fun K => by kernel_rfl) ?_
      refine WPI.done rfl ?_
      refine then_n ?_
      obtain ⟨K54, hK54, h⟩ := jn_some h
      refine WP.blockJ (fun a w => ∃ (g37 : Value) (g38 : Value) (g39 : Value) (g40 : Value) (g41 : Value) (g42 : Value) (g43 : Value) (g44 : Value) (g45 : Value) (g46 : Value) (g47 : Value) (g48 : Value) (g49 : Value) (g50 : Value) (g51 : Value) (g52 : Value) (g53 : Value), a = ⟨#[.agg #[s1, s3], vp b5 0, g37, s15, g38, Z, .agg #[s1, s3], vb false, g16, g17, g18, g19, g20, g21, g39, g40, g41, g42, g43, g44, g45, g46, g47, g48, g49, g50, g51, g52, g53, Z, Z, Z, Z, Z, Z, Z, Z, Z, Z, Z, Z, Z, Z, Z, Z, Z, Z], []⟩ ∧ St no w0 w [Box b5 #[s1, s3] 25, Own fTNode 33 s15 l14] ∧ K54 = some r) ?_ ?_
      · skip
        refine WP.loop (fun n a w => ∃ (x56 : Int) (g55 : Value) (g57 : Value) (g58 : Value) (g59 : Value) (g60 : Value) (g61 : Value) (g62 : Value) (g63 : Value) (g64 : Value) (g65 : Value) (g66 : Value) (g67 : Value) (g68 : Value) (g69 : Value) (g70 : Value) (g71 : Value), a = ⟨#[.agg #[s1, s3], vp b5 0, g55, s15, vi x56, Z, .agg #[s1, s3], vb false, g16, g17, g18, g19, g20, g21, g57, g58, g59, g60, g61, g62, g63, g64, g65, g66, g67, g68, g69, g70, g71, Z, Z, Z, Z, Z, Z, Z, Z, Z, Z, Z, Z, Z, Z, Z, Z, Z, Z], []⟩ ∧ St no w0 w [Box b5 #[s1, s3] 25, Own fTNode 33 s15 l14] ∧ g_tarnlaw13_HeapOrders_l1 l14 fuel l2 K54 n x56 = some r) fuel ⟨0, _, _, _, _, _, _, _, _, _, _, _, _, _, _, _, _, rfl, St.sel H35 [0, 1] (by decide) rfl, h⟩ ?_
        rintro n a w ⟨x56, g55, g57, g58, g59, g60, g61, g62, g63, g64, g65, g66, g67, g68, g69, g70, g71, rfl, H, h⟩
        cases n with
        | zero => rw [g_tarnlaw13_HeapOrders_l1] at h; cases h
        | succ n =>
          rw [g_tarnlaw13_HeapOrders_l1] at h
          obtain ⟨w72, rfl⟩ : ∃ x, x = w := ⟨_, rfl⟩
          have H73 := H; clear H
          have sf74 := Own.isSl (St.get H73 1 rfl)
          refine WP.seq ?_
          refine WP.seq ?_
          refine WP.region ?_
          refine WPI.run 2 ⟨#[.agg #[s1, s3], vp b5 0, g55, s15, vi x56, Z, .agg #[s1, s3], vb false, g16, g17, g18, g19, g20, g21, vi x56, s15, g59, g60, g61, g62, g63, g64, g65, g66, g67, g68, g69, g70, g71, Z, Z, Z, Z, Z, Z, Z, Z, Z, Z, Z, Z, Z, Z, Z, Z, Z, Z], []⟩ w72 (fun K => by kernel_rfl) ?_
          refine WPI.value (v := vi (((List.length l14 : Nat) : Int))) rfl (by kernel_rfl) (ev_len sf74 22 (.tmp 15) 33 6 48 rfl (by kernel_rfl) (by kernel_rfl)) ?_
          obtain ⟨c75, hc75, h⟩ := lt_some h
          refine WPI.run 1 ⟨#[.agg #[s1, s3], vp b5 0, g55, s15, vi x56, Z, .agg #[s1, s3], vb false, g16, g17, g18, g19, g20, g21, vi x56, s15, vi (((List.length l14 : Nat) : Int)), vb c75, g61, g62, g63, g64, g65, g66, g67, g68, g69, g70, g71, Z, Z, Z, Z, Z, Z, Z, Z, Z, Z, Z, Z, Z, Z, Z, Z, Z, Z], []⟩ w72 (fun K => by subst hc75; kernel_rfl) ?_
          refine WPI.done rfl ?_
          refine then_n ?_
          cases c75 with
          | false =>
            replace h := br_f h
            refine WP.condF (by kernel_rfl) ?_
            refine WP.exit ?_
            exact then_e (then_e (inb_e (then_n ⟨_, _, _, _, _, _, _, _, _, _, _, _, _, _, _, _, _, rfl, St.sel H73 [0, 1] (by decide) rfl, h⟩)))
          | true =>
            replace h := br_t h
            refine WP.condT (by kernel_rfl) ?_
            refine WP.skip ?_
            refine then_n ?_
            refine WP.seq ?_
            refine WP.block ?_
            refine WP.seq ?_
            obtain ⟨K85, hK85, h⟩ := jn_some h
            refine WP.draw (by kernel_rfl) (by kernel_rfl) (fun a w => ∃ (c84 : Bool) (g76 : Value) (g77 : Value) (g78 : Value) (g79 : Value) (g80 : Value) (g81 : Value) (g82 : Value) (g83 : Value), a = ⟨#[.agg #[s1, s3], vp b5 0, g55, s15, vi x56, Z, .agg #[s1, s3], vb false, g16, g17, g18, g19, g20, g21, vi x56, s15, vi (((List.length l14 : Nat) : Int)), vb true, g61, g62, g76, g77, g78, g79, g80, g81, g82, g83, vb c84, Z, Z, Z, Z, Z, Z, Z, Z, Z, Z, Z, Z, Z, Z, Z, Z, Z, Z], []⟩ ∧ St no w0 w [Box b5 #[s1, s3] 25, Own fTNode 33 s15 l14] ∧ K85 c84 = some r) 9 #[false, false, false, false, false, false, false, false, false] (by kernel_rfl) (by kernel_rfl) ?_ ?_
            · skip
              have H86 := St.drew H73
              obtain ⟨t87, ht87, h⟩ := bd_some h
              obtain ⟨hg91, h⟩ := gd_some h
              obtain ⟨t92, ht92, h⟩ := bd_some h
              obtain ⟨c93, hc93, h⟩ := lt_some h
              refine WA.take 0 (v := vp b5 0) rfl (by kernel_rfl) (by kernel_rfl) (fun w => by kernel_rfl) (fun w => by kernel_rfl) (l' := #[true, false, false, false, false, false, false, false, false]) (by kernel_rfl) ?_
              refine WA.take 2 (v := vi x56) rfl (by kernel_rfl) (by kernel_rfl) (fun w => by kernel_rfl) (fun w => by kernel_rfl) (l' := #[true, false, true, false, false, false, false, false, false]) (by kernel_rfl) ?_
              refine WA.take 4 (v := s15) rfl (by kernel_rfl) (by kernel_rfl) (fun w => by kernel_rfl) (fun w => by kernel_rfl) (l' := #[true, false, true, false, true, false, false, false, false]) (by kernel_rfl) ?_
              refine WA.take 5 (v := vi x56) rfl (by kernel_rfl) (by kernel_rfl) (fun w => by kernel_rfl) (fun w => by kernel_rfl) (l' := #[true, false, true, false, true, true, false, false, false]) (by kernel_rfl) ?_
              refine WA.take 6 (v := (slSub s15 6 0 (Int.toNat x56))) rfl (by kernel_rfl) (by kernel_rfl) (fun w => ev_slice sf74 22 (.tmp 24) none (some (.tmp 25)) 33 6 48 0 x56 rfl (by kernel_rfl) (by kernel_rfl) (.inl ⟨rfl, rfl⟩) (.inr ⟨(.tmp 25), .i64, rfl, by kernel_rfl⟩) hg91) (fun w => by kernel_rfl) (l' := #[true, false, true, false, true, true, true, false, false]) (by kernel_rfl) ?_
              refine WA.any [1] (by kernel_rfl) (by simp) ?_
              simp only [List.mem_singleton, forall_eq]
              refine WO.op rfl (Op1.val (v := s1) (by kernel_rfl) (ev_loadBox H86 0 rfl 22 (.tmp 20) 0 (s1) rfl (by kernel_rfl) (by kernel_rfl)) ?_)
              refine WA.lst (l := #[true, true, true, false, true, true, true, false, false]) (by kernel_rfl) ?_
              refine WA.any [3] (by kernel_rfl) (by simp) ?_
              simp only [List.mem_singleton, forall_eq]
              refine WO.op rfl (Op1.call (by kernel_rfl) (by kernel_rfl) (g_tarnlaw13_order_w fuel s1 l2 x56 t87 ht87 _ (Rd.arg0 hs1 H86)) ?_)
              rintro s88 w94 ⟨_, rfl, Hc95⟩
              have H96 := St.call0 H86 Hc95
              clear H86 Hc95
              have sf90 := Own.isSl (St.get H96 0 rfl)
              refine WA.lst (l := #[true, true, true, true, true, true, true, false, false]) (by kernel_rfl) ?_
              refine WA.any [7] (by kernel_rfl) (by simp) ?_
              simp only [List.mem_singleton, forall_eq]
              refine WO.op rfl (Op1.call (by kernel_rfl) (by kernel_rfl) (g_tarnref0_EqNodes_w fuel s88 t87 (slSub s15 6 0 (Int.toNat x56)) ((List.take (Int.toNat x56) l14)) t92 ht92 _ (St.rd H96 0 rfl) (Rd.sub (lo := Int.toNat 0) (hi := Int.toNat x56) (St.rd H96 2 rfl) (piece_lo hg91) (piece_hi hg91))) ?_)
              rintro _ w97 ⟨rfl, Hc98⟩
              have H99 := St.call0' H96 Hc98
              clear H96 Hc98
              refine WA.lst (l := #[true, true, true, true, true, true, true, true, false]) (by kernel_rfl) ?_
              refine WA.take 8 (v := vb c93) rfl (by kernel_rfl) (by kernel_rfl) (fun w => by subst hc93; kernel_rfl) (fun w => by kernel_rfl) (l' := #[true, true, true, true, true, true, true, true, true]) (by kernel_rfl) ?_
              refine WA.done (by kernel_rfl) ?_
              exact ⟨c93, (vp b5 0), s1, (vi x56), s88, s15, (vi x56), ((slSub s15 6 0 (Int.toNat x56))), (vb t92), (by kernel_rfl), St.sel H99 [1, 2] (by decide) rfl, h⟩
            · rintro a w ⟨c84, g76, g77, g78, g79, g80, g81, g82, g83, rfl, H, h⟩
              subst hK85
              obtain ⟨w100, rfl⟩ : ∃ x, x = w := ⟨_, rfl⟩
              have H101 := H; clear H
              have sf102 := Own.isSl (St.get H101 1 rfl)
              refine then_n ?_
              cases c84 with
              | false =>
                replace h := br_f h
                refine WP.condF (by kernel_rfl) ?_
                refine WP.skip ?_
                refine inb_n (then_n ?_)
                refine WP.region ?_
                obtain ⟨x103, hx103, h⟩ := lt_some h
                refine WPI.run 3 ⟨#[.agg #[s1, s3], vp b5 0, g55, s15, vi x103, Z, .agg #[s1, s3], vb false, g16, g17, g18, g19, g20, g21, vi x56, s15, vi (((List.length l14 : Nat) : Int)), vb true, vi x56, vi x103, g76, g77, g78, g79, g80, g81, g82, g83, vb false, Z, Z, Z, Z, Z, Z, Z, Z, Z, Z, Z, Z, Z, Z, Z, Z, Z, Z], []⟩ w100 (fun K => by subst hx103; kernel_rfl) ?_
                refine WPI.done rfl ?_
                exact then_n ⟨n, Nat.lt_succ_self n, x103, _, _, _, _, _, _, _, _, _, _, _, _, _, _, _, _, rfl, St.sel H101 [0, 1] (by decide) rfl, h⟩
              | true =>
                replace h := br_t h
                refine WP.condT (by kernel_rfl) ?_
                refine WP.seq ?_
                refine WP.region ?_
                refine WPI.run 1 ⟨#[.agg #[s1, s3], vp b5 0, vb false, s15, vi x56, Z, .agg #[s1, s3], vb false, g16, g17, g18, g19, g20, g21, vi x56, s15, vi (((List.length l14 : Nat) : Int)), vb true, g61, g62, g76, g77, g78, g79, g80, g81, g82, g83, vb true, Z, Z, Z, Z, Z, Z, Z, Z, Z, Z, Z, Z, Z, Z, Z, Z, Z, Z], []⟩ w100 (fun K => by kernel_rfl) ?_
                refine WPI.done rfl ?_
                refine then_n ?_
                refine WP.ret ?_
                obtain rfl := Option.some.inj h
                exact inb_r (then_r (then_r (inb_r (then_r (then_r (post_r (vb false) rfl (by kernel_rfl) ⟨rfl, St.sel H101 [] (by decide) rfl⟩))))))
      · rintro a w ⟨g37, g38, g39, g40, g41, g42, g43, g44, g45, g46, g47, g48, g49, g50, g51, g52, g53, rfl, H, h⟩
        subst hK54
        obtain ⟨w104, rfl⟩ : ∃ x, x = w := ⟨_, rfl⟩
        have H105 := H; clear H
        have sf106 := Own.isSl (St.get H105 1 rfl)
        refine then_n ?_
        refine WP.seq ?_
        refine WP.seq ?_
        refine WP.region ?_
        refine WPI.run 1 ⟨#[.agg #[s1, s3], vp b5 0, g37, s15, g38, vi 1, .agg #[s1, s3], vb false, g16, g17, g18, g19, g20, g21, g39, g40, g41, g42, g43, g44, g45, g46, g47, g48, g49, g50, g51, g52, g53, Z, Z, Z, Z, Z, Z, Z, Z, Z, Z, Z, Z, Z, Z, Z, Z, Z, Z], []⟩ w104 (fun K => by kernel_rfl) ?_
        refine WPI.done rfl ?_
        refine then_n ?_
        obtain ⟨K126, hK126, h⟩ := jn_some h
        refine WP.blockJ (fun a w => ∃ (g107 : Value) (g108 : Value) (g109 : Value) (g110 : Value) (g111 : Value) (g112 : Value) (g113 : Value) (g114 : Value) (g115 : Value) (g116 : Value) (g117 : Value) (g118 : Value) (g119 : Value) (g120 : Value) (g121 : Value) (g122 : Value) (g123 : Value) (g124 : Value) (g125 : Value), a = ⟨#[.agg #[s1, s3], vp b5 0, g107, s15, g38, g108, .agg #[s1, s3], vb false, g16, g17, g18, g19, g20, g21, g39, g40, g41, g42, g43, g44, g45, g46, g47, g48, g49, g50, g51, g52, g53, g109, g110, g111, g112, g113, g114, g115, g116, g117, g118, g119, g120, g121, g122, g123, g124, g125, Z], []⟩ ∧ St no w0 w [Box b5 #[s1, s3] 25, Own fTNode 33 s15 l14] ∧ K126 = some r) ?_ ?_
        · skip
          refine WP.loop (fun n a w => ∃ (x128 : Int) (g127 : Value) (g129 : Value) (g130 : Value) (g131 : Value) (g132 : Value) (g133 : Value) (g134 : Value) (g135 : Value) (g136 : Value) (g137 : Value) (g138 : Value) (g139 : Value) (g140 : Value) (g141 : Value) (g142 : Value) (g143 : Value) (g144 : Value) (g145 : Value), a = ⟨#[.agg #[s1, s3], vp b5 0, g127, s15, g38, vi x128, .agg #[s1, s3], vb false, g16, g17, g18, g19, g20, g21, g39, g40, g41, g42, g43, g44, g45, g46, g47, g48, g49, g50, g51, g52, g53, g129, g130, g131, g132, g133, g134, g135, g136, g137, g138, g139, g140, g141, g142, g143, g144, g145, Z], []⟩ ∧ St no w0 w [Box b5 #[s1, s3] 25, Own fTNode 33 s15 l14] ∧ g_tarnlaw13_HeapOrders_l2 l14 fuel K126 n x128 = some r) fuel ⟨1, _, _, _, _, _, _, _, _, _, _, _, _, _, _, _, _, _, _, rfl, St.sel H105 [0, 1] (by decide) rfl, h⟩ ?_
          rintro n a w ⟨x128, g127, g129, g130, g131, g132, g133, g134, g135, g136, g137, g138, g139, g140, g141, g142, g143, g144, g145, rfl, H, h⟩
          cases n with
          | zero => rw [g_tarnlaw13_HeapOrders_l2] at h; cases h
          | succ n =>
            rw [g_tarnlaw13_HeapOrders_l2] at h
            obtain ⟨w146, rfl⟩ : ∃ x, x = w := ⟨_, rfl⟩
            have H147 := H; clear H
            have sf148 := Own.isSl (St.get H147 1 rfl)
            refine WP.seq ?_
            refine WP.seq ?_
            refine WP.region ?_
            refine WPI.run 2 ⟨#[.agg #[s1, s3], vp b5 0, g127, s15, g38, vi x128, .agg #[s1, s3], vb false, g16, g17, g18, g19, g20, g21, g39, g40, g41, g42, g43, g44, g45, g46, g47, g48, g49, g50, g51, g52, g53, vi x128, s15, g131, g132, g133, g134, g135, g136, g137, g138, g139, g140, g141, g142, g143, g144, g145, Z], []⟩ w146 (fun K => by kernel_rfl) ?_
            refine WPI.value (v := vi (((List.length l14 : Nat) : Int))) rfl (by kernel_rfl) (ev_len sf148 22 (.tmp 30) 33 6 48 rfl (by kernel_rfl) (by kernel_rfl)) ?_
            obtain ⟨c149, hc149, h⟩ := lt_some h
            refine WPI.run 1 ⟨#[.agg #[s1, s3], vp b5 0, g127, s15, g38, vi x128, .agg #[s1, s3], vb false, g16, g17, g18, g19, g20, g21, g39, g40, g41, g42, g43, g44, g45, g46, g47, g48, g49, g50, g51, g52, g53, vi x128, s15, vi (((List.length l14 : Nat) : Int)), vb c149, g133, g134, g135, g136, g137, g138, g139, g140, g141, g142, g143, g144, g145, Z], []⟩ w146 (fun K => by subst hc149; kernel_rfl) ?_
            refine WPI.done rfl ?_
            refine then_n ?_
            cases c149 with
            | false =>
              replace h := br_f h
              refine WP.condF (by kernel_rfl) ?_
              refine WP.exit ?_
              exact then_e (then_e (inb_e (then_n ⟨_, _, _, _, _, _, _, _, _, _, _, _, _, _, _, _, _, _, _, rfl, St.sel H147 [0, 1] (by decide) rfl, h⟩)))
            | true =>
              replace h := br_t h
              refine WP.condT (by kernel_rfl) ?_
              refine WP.skip ?_
              refine then_n ?_
              refine WP.seq ?_
              refine WP.block ?_
              refine WP.seq ?_
              refine WP.quiet (by kernel_rfl) (by kernel_rfl) (by kernel_rfl) (fun w => St no w0 w [Box b5 #[s1, s3] 25, Own fTNode 33 s15 l14]) (St.drew H147) ?_
              refine WQ.value (v := s15) rfl (by kernel_rfl) (fun w _ => by kernel_rfl) ?_
              refine WQ.value (v := vi x128) rfl (by kernel_rfl) (fun w _ => by kernel_rfl) ?_
              obtain ⟨x150, hx150, h⟩ := lt_some h
              refine WQ.value (v := vi x150) rfl (by kernel_rfl) (fun w _ => by subst hx150; kernel_rfl) ?_
              obtain ⟨hg151, h⟩ := gd_some h
              refine WQ.value (v := va (slAt s15 6 (Int.toNat x150))) rfl (by kernel_rfl) (fun w H => ev_index sf148 22 (.tmp 35) (.tmp 37) 33 6 48 .i64 x150 rfl (by kernel_rfl) (by kernel_rfl) (by kernel_rfl) hg151) ?_
              obtain ⟨x152, hx152, h⟩ := bd_some h
              refine WQ.value (v := TNode.val x152) rfl (by kernel_rfl) (fun w H => ev_loadEl (F := fTNode) (St.rd H 1 rfl) (hp_no_le _) hx152 33 (.tmp 38) 0 (TNode.val x152) rfl (by kernel_rfl) (by kernel_rfl)) ?_
              refine WQ.value (v := s15) rfl (by kernel_rfl) (fun w _ => by kernel_rfl) ?_
              refine WQ.value (v := vi x128) rfl (by kernel_rfl) (fun w _ => by kernel_rfl) ?_
              obtain ⟨hg153, h⟩ := gd_some h
              refine WQ.value (v := va (slAt s15 6 (Int.toNat x128))) rfl (by kernel_rfl) (fun w H => ev_index sf148 22 (.tmp 40) (.tmp 41) 33 6 48 .i64 x128 rfl (by kernel_rfl) (by kernel_rfl) (by kernel_rfl) hg153) ?_
              obtain ⟨x154, hx154, h⟩ := bd_some h
              refine WQ.value (v := TNode.val x154) rfl (by kernel_rfl) (fun w H => ev_loadEl (F := fTNode) (St.rd H 1 rfl) (hp_no_le _) hx154 33 (.tmp 42) 0 (TNode.val x154) rfl (by kernel_rfl) (by kernel_rfl)) ?_
              obtain ⟨t155, ht155, h⟩ := bd_some h
              refine WQ.call (v := vb t155) rfl (by kernel_rfl) (fun w => by kernel_rfl) (fun w H => Ret.mono (g_tarnref12_Below_w fuel x152 x154 t155 ht155 _) fun u w1 hu => ⟨hu.1, St.call0' H hu.2⟩) ?_
              obtain ⟨c156, hc156, h⟩ := lt_some h
              refine WQ.value (v := vb c156) rfl (by kernel_rfl) (fun w _ => by subst hc156; kernel_rfl) ?_
              refine WQ.frame (a' := ⟨#[.agg #[s1, s3], vp b5 0, g127, s15, g38, vi x128, .agg #[s1, s3], vb false, g16, g17, g18, g19, g20, g21, g39, g40, g41, g42, g43, g44, g45, g46, g47, g48, g49, g50, g51, g52, g53, vi x128, s15, vi (((List.length l14 : Nat) : Int)), vb true, g133, g134, s15, vi x128, vi x150, va (slAt s15 6 (Int.toNat x150)), TNode.val x152, s15, vi x128, va (slAt s15 6 (Int.toNat x128)), TNode.val x154, vb t155, vb c156, Z], []⟩) (by kernel_rfl) ?_
              refine WQ.done rfl ?_
              refine (fun w157 H158 => ?_)
              refine then_n ?_
              cases c156 with
              | false =>
                replace h := br_f h
                refine WP.condF (by kernel_rfl) ?_
                refine WP.skip ?_
                refine inb_n (then_n ?_)
                refine WP.region ?_
                obtain ⟨x159, hx159, h⟩ := lt_some h
                refine WPI.run 3 ⟨#[.agg #[s1, s3], vp b5 0, g127, s15, g38, vi x159, .agg #[s1, s3], vb false, g16, g17, g18, g19, g20, g21, g39, g40, g41, g42, g43, g44, g45, g46, g47, g48, g49, g50, g51, g52, g53, vi x128, s15, vi (((List.length l14 : Nat) : Int)), vb true, vi x128, vi x159, s15, vi x128, vi x150, va (slAt s15 6 (Int.toNat x150)), TNode.val x152, s15, vi x128, va (slAt s15 6 (Int.toNat x128)), TNode.val x154, vb t155, vb false, Z], []⟩ w157 (fun K => by subst hx159; kernel_rfl) ?_
                refine WPI.done rfl ?_
                exact then_n ⟨n, Nat.lt_succ_self n, x159, _, _, _, _, _, _, _, _, _, _, _, _, _, _, _, _, _, _, rfl, St.sel H158 [0, 1] (by decide) rfl, h⟩
              | true =>
                replace h := br_t h
                refine WP.condT (by kernel_rfl) ?_
                refine WP.seq ?_
                refine WP.region ?_
                refine WPI.run 1 ⟨#[.agg #[s1, s3], vp b5 0, vb false, s15, g38, vi x128, .agg #[s1, s3], vb false, g16, g17, g18, g19, g20, g21, g39, g40, g41, g42, g43, g44, g45, g46, g47, g48, g49, g50, g51, g52, g53, vi x128, s15, vi (((List.length l14 : Nat) : Int)), vb true, g133, g134, s15, vi x128, vi x150, va (slAt s15 6 (Int.toNat x150)), TNode.val x152, s15, vi x128, va (slAt s15 6 (Int.toNat x128)), TNode.val x154, vb t155, vb true, Z], []⟩ w157 (fun K => by kernel_rfl) ?_
                refine WPI.done rfl ?_
                refine then_n ?_
                refine WP.ret ?_
                obtain rfl := Option.some.inj h
                exact inb_r (then_r (then_r (inb_r (then_r (then_r (post_r (vb false) rfl (by kernel_rfl) ⟨rfl, St.sel H158 [] (by decide) rfl⟩))))))
        · rintro a w ⟨g107, g108, g109, g110, g111, g112, g113, g114, g115, g116, g117, g118, g119, g120, g121, g122, g123, g124, g125, rfl, H, h⟩
          subst hK126
          obtain ⟨w160, rfl⟩ : ∃ x, x = w := ⟨_, rfl⟩
          have H161 := H; clear H
          have sf162 := Own.isSl (St.get H161 1 rfl)
          refine then_n ?_
          refine WP.seq ?_
          refine WP.region ?_
          obtain ⟨t163, ht163, h⟩ := bd_some h
          refine WPI.op rfl (Op1.call (by kernel_rfl) (by kernel_rfl) (g_tarnlaw13_wakes_w fuel t163 ht163 _) ?_)
          rintro _ w164 ⟨rfl, Hc165⟩
          have H166 := St.call0' H161 Hc165
          clear H161 Hc165
          refine WPI.run 1 ⟨#[.agg #[s1, s3], vp b5 0, vb t163, s15, g38, g108, .agg #[s1, s3], vb false, g16, g17, g18, g19, g20, g21, g39, g40, g41, g42, g43, g44, g45, g46, g47, g48, g49, g50, g51, g52, g53, g109, g110, g111, g112, g113, g114, g115, g116, g117, g118, g119, g120, g121, g122, g123, g124, g125, vb t163], []⟩ w164 (fun K => by kernel_rfl) ?_
          refine WPI.done rfl ?_
          refine then_n ?_
          refine WP.ret ?_
          obtain rfl := Option.some.inj h
          exact post_r (vb t163) rfl (by kernel_rfl) ⟨rfl, St.sel H166 [] (by decide) rfl⟩
  | true =>
    replace h := br_t h
    refine WP.condT (by kernel_rfl) ?_
    refine WP.seq ?_
    refine WP.region ?_
    refine WPI.run 1 ⟨#[.agg #[s1, s3], vp b5 0, vb true, Z, Z, Z, .agg #[s1, s3], vb true, Z, Z, Z, Z, Z, Z, Z, Z, Z, Z, Z, Z, Z, Z, Z, Z, Z, Z, Z, Z, Z, Z, Z, Z, Z, Z, Z, Z, Z, Z, Z, Z, Z, Z, Z, Z, Z, Z, Z], []⟩ w10 (fun K => by kernel_rfl) ?_
    refine WPI.done rfl ?_
    refine then_n ?_
    refine WP.ret ?_
    obtain rfl := Option.some.inj h
    exact then_r (post_r (vb true) rfl (by kernel_rfl) ⟨rfl, St.sel H12 [] (by decide) rfl⟩)
end Go.Proofs
