import Derived.Test.YtjcagpcpbfmldaaGw
import Derived.Test.YtjcagpcpbfmldaaProg
import Derived.Test.YtjcagpcpbfmldaaT
import Derived.Test.YtjcagpcpbfmldaaW1
import Derived.Test.YtjcagpcpbfmldaaW2
import Derived.Test.YtjcagpcpbfmldaaW3
import Derived.Test.YtjcagpcpbfmldaaW4
import Derived.Test.YtjcagpcpbfmldaaW5
set_option linter.unusedVariables false
set_option linter.unusedSimpArgs false
set_option maxRecDepth 100000
set_option maxHeartbeats 4000000
namespace Go.Proofs
open Gw Go.RowKit
/- tarn/heap.Drop -/
def g_heap_Drop (fuel : Nat) (l2 : List TNode) (p3 : Int) : Option ((List TNode) × Int) :=
  bd (g_heap_Check fuel l2) fun t4 => lt (t4 != 0) fun c8 => br c8 (some ([], 1)) (bd (g_heap_place fuel l2 p3) fun t9 => lt (wr .i64 ((((List.length l2 : Nat) : Int)) - 1)) fun x13 => lt (decide (t9 < 0)) fun c14 => br c14 (some ([], 3)) (gd ((0 : Int) ≤ 0 ∧ 0 ≤ x13 ∧ x13 ≤ ((List.length l2 : Nat) : Int)) <| bd (g_slices_Clone_api_Node_api_Node fuel ((List.take (Int.toNat x13) l2))) fun t17 => jn (fun (l24 : List TNode) => some (l24, 0)) fun K38 => lt (decide (t9 < x13)) fun c39 => br c39 (gd ((0 : Int) ≤ x13 ∧ x13 < ((List.length l2 : Nat) : Int)) <| bd (l2[Int.toNat x13]?) fun x41 => gd ((0 : Int) ≤ t9 ∧ t9 < ((List.length t17 : Nat) : Int)) <| lt (List.set t17 (Int.toNat t9) x41) fun l43 => bd (g_heap_settle fuel l43 t9) fun t46 => K38 t46) (K38 t17)))
theorem g_heap_Drop_w (fuel : Nat) (s1 : Value) (l2 : List TNode) (p3 : Int) (r : (List TNode) × Int) (h : g_heap_Drop fuel l2 p3 = some r) (w0 : World) (hs1 : Rd fTNode (hp no w0) s1 l2) :
    Ret Try.prog 19 #[s1, vi p3] w0 (fun v w' => ∃ (q0 : Value), v = .tuple #[q0, vi r.2] ∧ St no w0 w' [Own fTNode 33 q0 r.1]) := by
  unfold g_heap_Drop at h
  refine ret_of_wp Try.func19 rfl #[s1, vi p3, Z, Z, Z, Z, Z, Z, Z, Z, Z, Z, Z, Z, Z, Z, Z, Z, Z, Z, Z, Z, Z, Z, Z, Z, Z, Z, Z, Z, Z, Z, Z, Z, Z, Z, Z, Z] (by kernel_rfl) ?_
  have H0 := St.start w0
  refine WP.seq ?_
  refine WP.region ?_
  refine WPI.run 2 ⟨#[s1, vi p3, Z, Z, vn, vi 0, Z, Z, Z, Z, Z, Z, Z, Z, Z, Z, Z, Z, Z, Z, Z, Z, Z, Z, Z, Z, Z, Z, Z, Z, Z, Z, Z, Z, Z, Z, Z, Z], []⟩ w0 (fun K => by kernel_rfl) ?_
  refine WPI.done rfl ?_
  refine then_n ?_
  refine WP.seq ?_
  refine WP.seq ?_
  refine WP.region ?_
  obtain ⟨t4, ht4, h⟩ := bd_some h
  refine WPI.run 1 ⟨#[s1, vi p3, Z, Z, vn, vi 0, Z, Z, Z, s1, Z, Z, Z, Z, Z, Z, Z, Z, Z, Z, Z, Z, Z, Z, Z, Z, Z, Z, Z, Z, Z, Z, Z, Z, Z, Z, Z, Z], []⟩ w0 (fun K => by kernel_rfl) ?_
  refine WPI.op rfl (Op1.call (by kernel_rfl) (by kernel_rfl) (g_heap_Check_w fuel s1 l2 t4 ht4 _ (Rd.arg0 hs1 H0)) ?_)
  rintro _ w5 ⟨rfl, Hc6⟩
  have H7 := St.call0' H0 Hc6
  clear Hc6
  obtain ⟨c8, hc8, h⟩ := lt_some h
  refine WPI.run 1 ⟨#[s1, vi p3, Z, Z, vn, vi 0, Z, Z, Z, s1, vi t4, vb c8, Z, Z, Z, Z, Z, Z, Z, Z, Z, Z, Z, Z, Z, Z, Z, Z, Z, Z, Z, Z, Z, Z, Z, Z, Z, Z], []⟩ w5 (fun K => by subst hc8; kernel_rfl) ?_
  refine WPI.done rfl ?_
  refine then_n ?_
  cases c8 with
  | false =>
    replace h := br_f h
    refine WP.condF (by kernel_rfl) ?_
    refine WP.skip ?_
    refine then_n ?_
    refine WP.seq ?_
    refine WP.region ?_
    obtain ⟨t9, ht9, h⟩ := bd_some h
    refine WPI.run 2 ⟨#[s1, vi p3, Z, Z, vn, vi 0, Z, Z, Z, s1, vi t4, vb false, s1, vi p3, Z, Z, Z, Z, Z, Z, Z, Z, Z, Z, Z, Z, Z, Z, Z, Z, Z, Z, Z, Z, Z, Z, Z, Z], []⟩ w5 (fun K => by kernel_rfl) ?_
    refine WPI.op rfl (Op1.call (by kernel_rfl) (by kernel_rfl) (g_heap_place_w fuel s1 l2 p3 t9 ht9 _ (Rd.arg0 hs1 H7)) ?_)
    rintro _ w10 ⟨rfl, Hc11⟩
    have H12 := St.call0' H7 Hc11
    clear H7 Hc11
    refine WPI.run 1 ⟨#[s1, vi p3, Z, Z, vn, vi 0, Z, Z, Z, s1, vi t4, vb false, s1, vi p3, vi t9, s1, Z, Z, Z, Z, Z, Z, Z, Z, Z, Z, Z, Z, Z, Z, Z, Z, Z, Z, Z, Z, Z, Z], []⟩ w10 (fun K => by kernel_rfl) ?_
    refine WPI.value (v := vi (((List.length l2 : Nat) : Int))) rfl (by kernel_rfl) (ev_len (Rd.sl hs1) 22 (.tmp 15) 33 6 48 rfl (by kernel_rfl) (by kernel_rfl)) ?_
    obtain ⟨x13, hx13, h⟩ := lt_some h
    refine WPI.run 3 ⟨#[s1, vi p3, Z, Z, vn, vi 0, vi t9, vi x13, Z, s1, vi t4, vb false, s1, vi p3, vi t9, s1, vi (((List.length l2 : Nat) : Int)), vi x13, Z, Z, Z, Z, Z, Z, Z, Z, Z, Z, Z, Z, Z, Z, Z, Z, Z, Z, Z, Z], []⟩ w10 (fun K => by subst hx13; kernel_rfl) ?_
    refine WPI.done rfl ?_
    refine then_n ?_
    refine WP.seq ?_
    refine WP.seq ?_
    refine WP.region ?_
    obtain ⟨c14, hc14, h⟩ := lt_some h
    refine WPI.run 2 ⟨#[s1, vi p3, Z, Z, vn, vi 0, vi t9, vi x13, Z, s1, vi t4, vb false, s1, vi p3, vi t9, s1, vi (((List.length l2 : Nat) : Int)), vi x13, vi t9, vb c14, Z, Z, Z, Z, Z, Z, Z, Z, Z, Z, Z, Z, Z, Z, Z, Z, Z, Z], []⟩ w10 (fun K => by subst hc14; kernel_rfl) ?_
    refine WPI.done rfl ?_
    refine then_n ?_
    cases c14 with
    | false =>
      replace h := br_f h
      refine WP.condF (by kernel_rfl) ?_
      refine WP.skip ?_
      refine then_n ?_
      refine WP.seq ?_
      refine WP.region ?_
      obtain ⟨hg15, h⟩ := gd_some h
      have hs16 := Rd.sub (lo := Int.toNat 0) (hi := Int.toNat x13) hs1 (piece_lo hg15) (piece_hi hg15)
      refine WPI.run 2 ⟨#[s1, vi p3, Z, Z, vn, vi 0, vi t9, vi x13, Z, s1, vi t4, vb false, s1, vi p3, vi t9, s1, vi (((List.length l2 : Nat) : Int)), vi x13, vi t9, vb false, s1, vi x13, Z, Z, Z, Z, Z, Z, Z, Z, Z, Z, Z, Z, Z, Z, Z, Z], []⟩ w10 (fun K => by kernel_rfl) ?_
      refine WPI.value (v := (slSub s1 6 0 (Int.toNat x13))) rfl (by kernel_rfl) (ev_slice (Rd.sl hs1) 22 (.tmp 20) none (some (.tmp 21)) 33 6 48 0 x13 rfl (by kernel_rfl) (by kernel_rfl) (.inl ⟨rfl, rfl⟩) (.inr ⟨(.tmp 21), .i64, rfl, by kernel_rfl⟩) hg15) ?_
      obtain ⟨t17, ht17, h⟩ := bd_some h
      refine WPI.run 0 ⟨#[s1, vi p3, Z, Z, vn, vi 0, vi t9, vi x13, Z, s1, vi t4, vb false, s1, vi p3, vi t9, s1, vi (((List.length l2 : Nat) : Int)), vi x13, vi t9, vb false, s1, vi x13, (slSub s1 6 0 (Int.toNat x13)), Z, Z, Z, Z, Z, Z, Z, Z, Z, Z, Z, Z, Z, Z, Z], []⟩ w10 (fun K => by kernel_rfl) ?_
      refine WPI.op rfl (Op1.call (by kernel_rfl) (by kernel_rfl) (g_slices_Clone_api_Node_api_Node_w fuel (slSub s1 6 0 (Int.toNat x13)) ((List.take (Int.toNat x13) l2)) t17 ht17 _ (Rd.arg0 hs16 H12)) ?_)
      rintro s18 w21 ⟨_, rfl, Hc22⟩
      have H23 := St.call0 H12 Hc22
      clear H12 Hc22
      have sf20 := Own.isSl (St.get H23 0 rfl)
      refine WPI.run 1 ⟨#[s1, vi p3, Z, Z, vn, vi 0, vi t9, vi x13, s18, s1, vi t4, vb false, s1, vi p3, vi t9, s1, vi (((List.length l2 : Nat) : Int)), vi x13, vi t9, vb false, s1, vi x13, (slSub s1 6 0 (Int.toNat x13)), s18, Z, Z, Z, Z, Z, Z, Z, Z, Z, Z, Z, Z, Z, Z], []⟩ w21 (fun K => by kernel_rfl) ?_
      refine WPI.done rfl ?_
      refine then_n ?_
      obtain ⟨K38, hK38, h⟩ := jn_some h
      refine WP.seqJ (fun a w => ∃ (l24 : List TNode) (g25 : Value) (g26 : Value) (g27 : Value) (g28 : Value) (g29 : Value) (g30 : Value) (g31 : Value) (g32 : Value) (g33 : Value) (g34 : Value) (g35 : Value) (g36 : Value) (g37 : Value), a = ⟨#[s1, vi p3, Z, Z, vn, vi 0, vi t9, vi x13, s18, s1, vi t4, vb false, s1, vi p3, vi t9, s1, vi (((List.length l2 : Nat) : Int)), vi x13, vi t9, vb false, s1, vi x13, (slSub s1 6 0 (Int.toNat x13)), s18, g25, g26, g27, g28, g29, g30, g31, g32, g33, g34, g35, g36, g37, Z], []⟩ ∧ St no w0 w [Own fTNode 33 s18 l24] ∧ K38 l24 = some r) ?_ ?_
      · skip
        refine WP.seq ?_
        refine WP.region ?_
        obtain ⟨c39, hc39, h⟩ := lt_some h
        refine WPI.run 3 ⟨#[s1, vi p3, Z, Z, vn, vi 0, vi t9, vi x13, s18, s1, vi t4, vb false, s1, vi p3, vi t9, s1, vi (((List.length l2 : Nat) : Int)), vi x13, vi t9, vb false, s1, vi x13, (slSub s1 6 0 (Int.toNat x13)), s18, vi t9, vi x13, vb c39, Z, Z, Z, Z, Z, Z, Z, Z, Z, Z, Z], []⟩ w21 (fun K => by subst hc39; kernel_rfl) ?_
        refine WPI.done rfl ?_
        refine then_n ?_
        cases c39 with
        | false =>
          replace h := br_f h
          refine WP.condF (by kernel_rfl) ?_
          refine WP.skip ?_
          exact then_n ⟨t17, _, _, _, _, _, _, _, _, _, _, _, _, _, rfl, St.sel H23 [0] (by decide) rfl, h⟩
        | true =>
          replace h := br_t h
          refine WP.condT (by kernel_rfl) ?_
          refine WP.seq ?_
          refine WP.region ?_
          obtain ⟨hg40, h⟩ := gd_some h
          refine WPI.run 4 ⟨#[s1, vi p3, Z, Z, vn, vi 0, vi t9, vi x13, s18, s1, vi t4, vb false, s1, vi p3, vi t9, s1, vi (((List.length l2 : Nat) : Int)), vi x13, vi t9, vb false, s1, vi x13, (slSub s1 6 0 (Int.toNat x13)), s18, vi t9, vi x13, vb true, s18, vi t9, s1, vi x13, Z, Z, Z, Z, Z, Z, Z], []⟩ w21 (fun K => by kernel_rfl) ?_
          refine WPI.value (v := va (slAt s1 6 (Int.toNat x13))) rfl (by kernel_rfl) (ev_index (Rd.sl hs1) 22 (.tmp 29) (.tmp 30) 33 6 48 .i64 x13 rfl (by kernel_rfl) (by kernel_rfl) (by kernel_rfl) hg40) ?_
          obtain ⟨x41, hx41, h⟩ := bd_some h
          refine WPI.run 0 ⟨#[s1, vi p3, Z, Z, vn, vi 0, vi t9, vi x13, s18, s1, vi t4, vb false, s1, vi p3, vi t9, s1, vi (((List.length l2 : Nat) : Int)), vi x13, vi t9, vb false, s1, vi x13, (slSub s1 6 0 (Int.toNat x13)), s18, vi t9, vi x13, vb true, s18, vi t9, s1, vi x13, va (slAt s1 6 (Int.toNat x13)), Z, Z, Z, Z, Z, Z], []⟩ w21 (fun K => by kernel_rfl) ?_
          refine WPI.value (v := TNode.val x41) rfl (by kernel_rfl) (ev_loadEl (F := fTNode) hs1 (St.hp_le H23) hx41 33 (.tmp 31) 0 (TNode.val x41) rfl (by kernel_rfl) (by kernel_rfl)) ?_
          obtain ⟨hg42, h⟩ := gd_some h
          refine WPI.run 0 ⟨#[s1, vi p3, Z, Z, vn, vi 0, vi t9, vi x13, s18, s1, vi t4, vb false, s1, vi p3, vi t9, s1, vi (((List.length l2 : Nat) : Int)), vi x13, vi t9, vb false, s1, vi x13, (slSub s1 6 0 (Int.toNat x13)), s18, vi t9, vi x13, vb true, s18, vi t9, s1, vi x13, va (slAt s1 6 (Int.toNat x13)), TNode.val x41, Z, Z, Z, Z, Z], []⟩ w21 (fun K => by kernel_rfl) ?_
          refine WPI.value (v := va (slAt s18 6 (Int.toNat t9))) rfl (by kernel_rfl) (ev_index sf20 22 (.tmp 27) (.tmp 28) 33 6 48 .i64 t9 rfl (by kernel_rfl) (by kernel_rfl) (by kernel_rfl) hg42) ?_
          obtain ⟨l43, hl43, h⟩ := lt_some h
          refine WPI.run 0 ⟨#[s1, vi p3, Z, Z, vn, vi 0, vi t9, vi x13, s18, s1, vi t4, vb false, s1, vi p3, vi t9, s1, vi (((List.length l2 : Nat) : Int)), vi x13, vi t9, vb false, s1, vi x13, (slSub s1 6 0 (Int.toNat x13)), s18, vi t9, vi x13, vb true, s18, vi t9, s1, vi x13, va (slAt s1 6 (Int.toNat x13)), TNode.val x41, va (slAt s18 6 (Int.toNat t9)), Z, Z, Z, Z], []⟩ w21 (fun K => by kernel_rfl) ?_
          refine WPI.op rfl (Op1.storeOwn H23 0 rfl (by kernel_rfl) 33 (.tmp 33) (.tmp 32) (Int.toNat t9) x41 true rfl (by kernel_rfl) (by kernel_rfl) (by kernel_rfl) (idx_lt hg42) (fun w44 H45 => ?_))
          rw [← hl43] at H45
          clear H23
          refine WPI.run 0 ⟨#[s1, vi p3, Z, Z, vn, vi 0, vi t9, vi x13, s18, s1, vi t4, vb false, s1, vi p3, vi t9, s1, vi (((List.length l2 : Nat) : Int)), vi x13, vi t9, vb false, s1, vi x13, (slSub s1 6 0 (Int.toNat x13)), s18, vi t9, vi x13, vb true, s18, vi t9, s1, vi x13, va (slAt s1 6 (Int.toNat x13)), TNode.val x41, va (slAt s18 6 (Int.toNat t9)), Z, Z, Z, Z], []⟩ w44 (fun K => by kernel_rfl) ?_
          refine WPI.done rfl ?_
          refine then_n ?_
          refine WP.region ?_
          obtain ⟨t46, ht46, h⟩ := bd_some h
          refine WPI.run 2 ⟨#[s1, vi p3, Z, Z, vn, vi 0, vi t9, vi x13, s18, s1, vi t4, vb false, s1, vi p3, vi t9, s1, vi (((List.length l2 : Nat) : Int)), vi x13, vi t9, vb false, s1, vi x13, (slSub s1 6 0 (Int.toNat x13)), s18, vi t9, vi x13, vb true, s18, vi t9, s1, vi x13, va (slAt s1 6 (Int.toNat x13)), TNode.val x41, va (slAt s18 6 (Int.toNat t9)), s18, vi t9, Z, Z], []⟩ w44 (fun K => by kernel_rfl) ?_
          refine WPI.op rfl (Op1.call (by kernel_rfl) (by kernel_rfl) (g_heap_settle_w fuel s18 l43 t9 t46 ht46 _ (St.get H45 0 rfl)) ?_)
          rintro _ w48 ⟨rfl, Hc49⟩
          have H50 := St.call1 H45 0 rfl Hc49
          clear H45 Hc49
          have sf47 := Own.isSl (St.get H50 0 rfl)
          refine WPI.run 0 ⟨#[s1, vi p3, Z, Z, vn, vi 0, vi t9, vi x13, s18, s1, vi t4, vb false, s1, vi p3, vi t9, s1, vi (((List.length l2 : Nat) : Int)), vi x13, vi t9, vb false, s1, vi x13, (slSub s1 6 0 (Int.toNat x13)), s18, vi t9, vi x13, vb true, s18, vi t9, s1, vi x13, va (slAt s1 6 (Int.toNat x13)), TNode.val x41, va (slAt s18 6 (Int.toNat t9)), s18, vi t9, .tuple #[], Z], []⟩ w48 (fun K => by kernel_rfl) ?_
          refine WPI.done rfl ?_
          exact then_n ⟨t46, _, _, _, _, _, _, _, _, _, _, _, _, _, rfl, St.sel H50 [0] (by decide) rfl, h⟩
      · rintro a w ⟨l24, g25, g26, g27, g28, g29, g30, g31, g32, g33, g34, g35, g36, g37, rfl, H, h⟩
        subst hK38
        obtain ⟨w51, rfl⟩ : ∃ x, x = w := ⟨_, rfl⟩
        have H52 := H; clear H
        have sf53 := Own.isSl (St.get H52 0 rfl)
        refine WP.seq ?_
        refine WP.region ?_
        refine WPI.run 3 ⟨#[s1, vi p3, Z, Z, s18, vi 0, vi t9, vi x13, s18, s1, vi t4, vb false, s1, vi p3, vi t9, s1, vi (((List.length l2 : Nat) : Int)), vi x13, vi t9, vb false, s1, vi x13, (slSub s1 6 0 (Int.toNat x13)), s18, g25, g26, g27, g28, g29, g30, g31, g32, g33, g34, g35, g36, g37, s18], []⟩ w51 (fun K => by kernel_rfl) ?_
        refine WPI.done rfl ?_
        refine then_n ?_
        refine WP.ret ?_
        obtain rfl := Option.some.inj h
        exact post_r (.tuple #[s18, vi 0]) rfl (by kernel_rfl) ⟨s18, rfl, St.sel H52 [0] (by decide) rfl⟩
    | true =>
      replace h := br_t h
      refine WP.condT (by kernel_rfl) ?_
      refine WP.seq ?_
      refine WP.region ?_
      refine WPI.run 2 ⟨#[s1, vi p3, Z, Z, vn, vi 3, vi t9, vi x13, Z, s1, vi t4, vb false, s1, vi p3, vi t9, s1, vi (((List.length l2 : Nat) : Int)), vi x13, vi t9, vb true, Z, Z, Z, Z, Z, Z, Z, Z, Z, Z, Z, Z, Z, Z, Z, Z, Z, Z], []⟩ w10 (fun K => by kernel_rfl) ?_
      refine WPI.done rfl ?_
      refine then_n ?_
      refine WP.ret ?_
      obtain rfl := Option.some.inj h
      exact then_r (post_r (.tuple #[vn, vi 3]) rfl (by kernel_rfl) ⟨vn, rfl, St.sel (St.nil H12 fTNode 33) [0] (by decide) rfl⟩)
  | true =>
    replace h := br_t h
    refine WP.condT (by kernel_rfl) ?_
    refine WP.seq ?_
    refine WP.region ?_
    refine WPI.run 2 ⟨#[s1, vi p3, Z, Z, vn, vi 1, Z, Z, Z, s1, vi t4, vb true, Z, Z, Z, Z, Z, Z, Z, Z, Z, Z, Z, Z, Z, Z, Z, Z, Z, Z, Z, Z, Z, Z, Z, Z, Z, Z], []⟩ w5 (fun K => by kernel_rfl) ?_
    refine WPI.done rfl ?_
    refine then_n ?_
    refine WP.ret ?_
    obtain rfl := Option.some.inj h
    exact then_r (post_r (.tuple #[vn, vi 1]) rfl (by kernel_rfl) ⟨vn, rfl, St.sel (St.nil H7 fTNode 33) [0] (by decide) rfl⟩)
/- tarn/tarnref12.Set -/
def g_tarnref12_Set (fuel : Nat) (l2 : List TNode) (p3 : TNode) : Option ((List TNode) × Int) :=
  bd (g_tarnref12_Find fuel l2 p3.Acct) fun t8 => lt (decide (t8 < 0)) fun c12 => br c12 (some ([], 3)) (bd (g_tarnref0_CopyNodes fuel l2) fun t13 => gd ((0 : Int) ≤ t8 ∧ t8 < ((List.length t13 : Nat) : Int)) <| lt (List.set t13 (Int.toNat t8) p3) fun l21 => bd (g_tarnref12_moves fuel l21 t8) fun t24 => some (t24, 0))
theorem g_tarnref12_Set_w (fuel : Nat) (s1 : Value) (l2 : List TNode) (p3 : TNode) (r : (List TNode) × Int) (h : g_tarnref12_Set fuel l2 p3 = some r) (w0 : World) (hs1 : Rd fTNode (hp no w0) s1 l2) :
    Ret Try.prog 39 #[s1, TNode.val p3] w0 (fun v w' => ∃ (q0 : Value), v = .tuple #[q0, vi r.2] ∧ St no w0 w' [Own fTNode 33 q0 r.1]) := by
  unfold g_tarnref12_Set at h
  refine ret_of_wp Try.func39 rfl #[s1, TNode.val p3, Z, Z, Z, Z, Z, Z, Z, Z, Z, Z, Z, Z, Z, Z, Z, Z, Z, Z, Z, Z, Z, Z] (by kernel_rfl) ?_
  have H0 := St.start w0
  refine WP.seq ?_
  refine WP.region ?_
  refine WPI.op rfl (Op1.box H0 (TNode.cs p3).toArray (by kernel_rfl) 33 (.tmp 1) rfl (by kernel_rfl) (fun b4 w6 H7 => ?_))
  refine WPI.run 2 ⟨#[s1, TNode.val p3, Z, vp b4 0, vn, vi 0, Z, Z, Z, Z, Z, Z, Z, Z, Z, Z, Z, Z, Z, Z, Z, Z, Z, Z], []⟩ w6 (fun K => by kernel_rfl) ?_
  refine WPI.done rfl ?_
  refine then_n ?_
  refine WP.seq ?_
  refine WP.region ?_
  refine WPI.run 2 ⟨#[s1, TNode.val p3, Z, vp b4 0, vn, vi 0, Z, Z, s1, vp b4 0, Z, Z, Z, Z, Z, Z, Z, Z, Z, Z, Z, Z, Z, Z], []⟩ w6 (fun K => by kernel_rfl) ?_
  refine WPI.value (v := vi p3.Acct) rfl (by kernel_rfl) (ev_loadBox H7 0 rfl 3 (.tmp 9) 0 (vi p3.Acct) rfl (by kernel_rfl) (by kernel_rfl)) ?_
  obtain ⟨t8, ht8, h⟩ := bd_some h
  refine WPI.run 0 ⟨#[s1, TNode.val p3, Z, vp b4 0, vn, vi 0, Z, Z, s1, vp b4 0, vi p3.Acct, Z, Z, Z, Z, Z, Z, Z, Z, Z, Z, Z, Z, Z], []⟩ w6 (fun K => by kernel_rfl) ?_
  refine WPI.op rfl (Op1.call (by kernel_rfl) (by kernel_rfl) (g_tarnref12_Find_w fuel s1 l2 p3.Acct t8 ht8 _ (Rd.arg0 hs1 H7)) ?_)
  rintro _ w9 ⟨rfl, Hc10⟩
  have H11 := St.call0' H7 Hc10
  clear H7 Hc10
  refine WPI.run 1 ⟨#[s1, TNode.val p3, Z, vp b4 0, vn, vi 0, vi t8, Z, s1, vp b4 0, vi p3.Acct, vi t8, Z, Z, Z, Z, Z, Z, Z, Z, Z, Z, Z, Z], []⟩ w9 (fun K => by kernel_rfl) ?_
  refine WPI.done rfl ?_
  refine then_n ?_
  refine WP.seq ?_
  refine WP.seq ?_
  refine WP.region ?_
  obtain ⟨c12, hc12, h⟩ := lt_some h
  refine WPI.run 2 ⟨#[s1, TNode.val p3, Z, vp b4 0, vn, vi 0, vi t8, Z, s1, vp b4 0, vi p3.Acct, vi t8, vi t8, vb c12, Z, Z, Z, Z, Z, Z, Z, Z, Z, Z], []⟩ w9 (fun K => by subst hc12; kernel_rfl) ?_
  refine WPI.done rfl ?_
  refine then_n ?_
  cases c12 with
  | false =>
    replace h := br_f h
    refine WP.condF (by kernel_rfl) ?_
    refine WP.skip ?_
    refine then_n ?_
    refine WP.seq ?_
    refine WP.region ?_
    obtain ⟨t13, ht13, h⟩ := bd_some h
    refine WPI.run 1 ⟨#[s1, TNode.val p3, Z, vp b4 0, vn, vi 0, vi t8, Z, s1, vp b4 0, vi p3.Acct, vi t8, vi t8, vb false, s1, Z, Z, Z, Z, Z, Z, Z, Z, Z], []⟩ w9 (fun K => by kernel_rfl) ?_
    refine WPI.op rfl (Op1.call (by kernel_rfl) (by kernel_rfl) (g_tarnref0_CopyNodes_w fuel s1 l2 t13 ht13 _ (Rd.arg0 hs1 H11)) ?_)
    rintro s14 w17 ⟨_, rfl, Hc18⟩
    have H19 := St.call0 H11 Hc18
    clear H11 Hc18
    have sf16 := Own.isSl (St.get H19 0 rfl)
    refine WPI.run 1 ⟨#[s1, TNode.val p3, Z, vp b4 0, vn, vi 0, vi t8, s14, s1, vp b4 0, vi p3.Acct, vi t8, vi t8, vb false, s1, s14, Z, Z, Z, Z, Z, Z, Z, Z], []⟩ w17 (fun K => by kernel_rfl) ?_
    refine WPI.done rfl ?_
    refine then_n ?_
    refine WP.seq ?_
    refine WP.region ?_
    refine WPI.run 2 ⟨#[s1, TNode.val p3, Z, vp b4 0, vn, vi 0, vi t8, s14, s1, vp b4 0, vi p3.Acct, vi t8, vi t8, vb false, s1, s14, s14, vi t8, Z, Z, Z, Z, Z, Z], []⟩ w17 (fun K => by kernel_rfl) ?_
    refine WPI.value (v := TNode.val p3) rfl (by kernel_rfl) (ev_loadBox H19 1 rfl 33 (.tmp 3) 0 (TNode.val p3) rfl (by kernel_rfl) (by kernel_rfl)) ?_
    obtain ⟨hg20, h⟩ := gd_some h
    refine WPI.run 0 ⟨#[s1, TNode.val p3, Z, vp b4 0, vn, vi 0, vi t8, s14, s1, vp b4 0, vi p3.Acct, vi t8, vi t8, vb false, s1, s14, s14, vi t8, TNode.val p3, Z, Z, Z, Z, Z], []⟩ w17 (fun K => by kernel_rfl) ?_
    refine WPI.value (v := va (slAt s14 6 (Int.toNat t8))) rfl (by kernel_rfl) (ev_index sf16 22 (.tmp 16) (.tmp 17) 33 6 48 .i64 t8 rfl (by kernel_rfl) (by kernel_rfl) (by kernel_rfl) hg20) ?_
    obtain ⟨l21, hl21, h⟩ := lt_some h
    refine WPI.run 0 ⟨#[s1, TNode.val p3, Z, vp b4 0, vn, vi 0, vi t8, s14, s1, vp b4 0, vi p3.Acct, vi t8, vi t8, vb false, s1, s14, s14, vi t8, TNode.val p3, va (slAt s14 6 (Int.toNat t8)), Z, Z, Z, Z], []⟩ w17 (fun K => by kernel_rfl) ?_
    refine WPI.op rfl (Op1.storeOwn H19 0 rfl (by kernel_rfl) 33 (.tmp 19) (.tmp 18) (Int.toNat t8) p3 true rfl (by kernel_rfl) (by kernel_rfl) (by kernel_rfl) (idx_lt hg20) (fun w22 H23 => ?_))
    rw [← hl21] at H23
    clear H19
    refine WPI.run 0 ⟨#[s1, TNode.val p3, Z, vp b4 0, vn, vi 0, vi t8, s14, s1, vp b4 0, vi p3.Acct, vi t8, vi t8, vb false, s1, s14, s14, vi t8, TNode.val p3, va (slAt s14 6 (Int.toNat t8)), Z, Z, Z, Z], []⟩ w22 (fun K => by kernel_rfl) ?_
    refine WPI.done rfl ?_
    refine then_n ?_
    refine WP.seq ?_
    refine WP.region ?_
    obtain ⟨t24, ht24, h⟩ := bd_some h
    refine WPI.run 2 ⟨#[s1, TNode.val p3, Z, vp b4 0, vn, vi 0, vi t8, s14, s1, vp b4 0, vi p3.Acct, vi t8, vi t8, vb false, s1, s14, s14, vi t8, TNode.val p3, va (slAt s14 6 (Int.toNat t8)), s14, vi t8, Z, Z], []⟩ w22 (fun K => by kernel_rfl) ?_
    refine WPI.op rfl (Op1.call (by kernel_rfl) (by kernel_rfl) (g_tarnref12_moves_w fuel s14 l21 t8 t24 ht24 _ (St.get H23 0 rfl)) ?_)
    rintro _ w26 ⟨rfl, Hc27⟩
    have H28 := St.call1 H23 0 rfl Hc27
    clear H23 Hc27
    have sf25 := Own.isSl (St.get H28 0 rfl)
    refine WPI.run 0 ⟨#[s1, TNode.val p3, Z, vp b4 0, vn, vi 0, vi t8, s14, s1, vp b4 0, vi p3.Acct, vi t8, vi t8, vb false, s1, s14, s14, vi t8, TNode.val p3, va (slAt s14 6 (Int.toNat t8)), s14, vi t8, .tuple #[], Z], []⟩ w26 (fun K => by kernel_rfl) ?_
    refine WPI.done rfl ?_
    refine then_n ?_
    refine WP.seq ?_
    refine WP.region ?_
    refine WPI.run 3 ⟨#[s1, TNode.val p3, Z, vp b4 0, s14, vi 0, vi t8, s14, s1, vp b4 0, vi p3.Acct, vi t8, vi t8, vb false, s1, s14, s14, vi t8, TNode.val p3, va (slAt s14 6 (Int.toNat t8)), s14, vi t8, .tuple #[], s14], []⟩ w26 (fun K => by kernel_rfl) ?_
    refine WPI.done rfl ?_
    refine then_n ?_
    refine WP.ret ?_
    obtain rfl := Option.some.inj h
    exact post_r (.tuple #[s14, vi 0]) rfl (by kernel_rfl) ⟨s14, rfl, St.sel H28 [0] (by decide) rfl⟩
  | true =>
    replace h := br_t h
    refine WP.condT (by kernel_rfl) ?_
    refine WP.seq ?_
    refine WP.region ?_
    refine WPI.run 2 ⟨#[s1, TNode.val p3, Z, vp b4 0, vn, vi 3, vi t8, Z, s1, vp b4 0, vi p3.Acct, vi t8, vi t8, vb true, Z, Z, Z, Z, Z, Z, Z, Z, Z, Z], []⟩ w9 (fun K => by kernel_rfl) ?_
    refine WPI.done rfl ?_
    refine then_n ?_
    refine WP.ret ?_
    obtain rfl := Option.some.inj h
    exact then_r (post_r (.tuple #[vn, vi 3]) rfl (by kernel_rfl) ⟨vn, rfl, St.sel (St.nil H11 fTNode 33) [0] (by decide) rfl⟩)
/- tarn/heap.Set -/
def g_heap_Set (fuel : Nat) (l2 : List TNode) (p3 : TNode) : Option ((List TNode) × Int) :=
  jn (fun (c15 : Bool) => br c15 (some ([], 1)) (bd (g_heap_place fuel l2 p3.Acct) fun t29 => lt (decide (t29 < 0)) fun c33 => br c33 (some ([], 3)) (bd (g_slices_Clone_api_Node_api_Node fuel l2) fun t34 => gd ((0 : Int) ≤ t29 ∧ t29 < ((List.length t34 : Nat) : Int)) <| lt (List.set t34 (Int.toNat t29) p3) fun l42 => bd (g_heap_settle fuel l42 t29) fun t45 => some (t45, 0)))) fun K16 => bd (g_heap_Check fuel l2) fun t17 => lt (t17 != 0) fun c21 => br c21 (K16 true) (bd (g_heap_may fuel p3) fun t22 => lt (!t22) fun c26 => K16 c26)
theorem g_heap_Set_w (fuel : Nat) (s1 : Value) (l2 : List TNode) (p3 : TNode) (r : (List TNode) × Int) (h : g_heap_Set fuel l2 p3 = some r) (w0 : World) (hs1 : Rd fTNode (hp no w0) s1 l2) :
    Ret Try.prog 20 #[s1, TNode.val p3] w0 (fun v w' => ∃ (q0 : Value), v = .tuple #[q0, vi r.2] ∧ St no w0 w' [Own fTNode 33 q0 r.1]) := by
  unfold g_heap_Set at h
  refine ret_of_wp Try.func20 rfl #[s1, TNode.val p3, Z, Z, Z, Z, Z, Z, Z, Z, Z, Z, Z, Z, Z, Z, Z, Z, Z, Z, Z, Z, Z, Z, Z, Z, Z, Z, Z, Z, Z, Z] (by kernel_rfl) ?_
  have H0 := St.start w0
  refine WP.seq ?_
  refine WP.region ?_
  refine WPI.op rfl (Op1.box H0 (TNode.cs p3).toArray (by kernel_rfl) 33 (.tmp 1) rfl (by kernel_rfl) (fun b4 w6 H7 => ?_))
  refine WPI.run 2 ⟨#[s1, TNode.val p3, Z, vp b4 0, vn, vi 0, Z, Z, Z, Z, Z, Z, Z, Z, Z, Z, Z, Z, Z, Z, Z, Z, Z, Z, Z, Z, Z, Z, Z, Z, Z, Z], []⟩ w6 (fun K => by kernel_rfl) ?_
  refine WPI.done rfl ?_
  refine then_n ?_
  refine WP.seq ?_
  refine WP.seq ?_
  obtain ⟨K16, hK16, h⟩ := jn_some h
  refine WP.onlyN (fun a w => ∃ (c15 : Bool) (g8 : Value) (g9 : Value) (g10 : Value) (g11 : Value) (g12 : Value) (g13 : Value) (g14 : Value), a = ⟨#[s1, TNode.val p3, Z, vp b4 0, vn, vi 0, Z, Z, g8, g9, g10, g11, g12, g13, g14, vb c15, Z, Z, Z, Z, Z, Z, Z, Z, Z, Z, Z, Z, Z, Z, Z, Z], []⟩ ∧ St no w0 w [Box b4 (TNode.cs p3).toArray 33] ∧ K16 c15 = some r) ?_ ?_
  · skip
    refine WP.region ?_
    obtain ⟨t17, ht17, h⟩ := bd_some h
    refine WPI.run 1 ⟨#[s1, TNode.val p3, Z, vp b4 0, vn, vi 0, Z, Z, s1, Z, Z, Z, Z, Z, Z, Z, Z, Z, Z, Z, Z, Z, Z, Z, Z, Z, Z, Z, Z, Z, Z, Z], []⟩ w6 (fun K => by kernel_rfl) ?_
    refine WPI.op rfl (Op1.call (by kernel_rfl) (by kernel_rfl) (g_heap_Check_w fuel s1 l2 t17 ht17 _ (Rd.arg0 hs1 H7)) ?_)
    rintro _ w18 ⟨rfl, Hc19⟩
    have H20 := St.call0' H7 Hc19
    clear H7 Hc19
    obtain ⟨c21, hc21, h⟩ := lt_some h
    refine WPI.run 2 ⟨#[s1, TNode.val p3, Z, vp b4 0, vn, vi 0, Z, Z, s1, vi t17, vb c21, vb c21, Z, Z, Z, Z, Z, Z, Z, Z, Z, Z, Z, Z, Z, Z, Z, Z, Z, Z, Z, Z], []⟩ w18 (fun K => by subst hc21; kernel_rfl) ?_
    cases c21 with
    | false =>
      replace h := br_f h
      refine WPI.value (v := TNode.val p3) rfl (by kernel_rfl) (ev_loadBox H20 0 rfl 33 (.tmp 3) 0 (TNode.val p3) rfl (by kernel_rfl) (by kernel_rfl)) ?_
      obtain ⟨t22, ht22, h⟩ := bd_some h
      refine WPI.run 0 ⟨#[s1, TNode.val p3, Z, vp b4 0, vn, vi 0, Z, Z, s1, vi t17, vb false, vb false, TNode.val p3, Z, Z, Z, Z, Z, Z, Z, Z, Z, Z, Z, Z, Z, Z, Z, Z, Z, Z, Z], []⟩ w18 (fun K => by kernel_rfl) ?_
      refine WPI.op rfl (Op1.call (by kernel_rfl) (by kernel_rfl) (g_heap_may_w fuel p3 t22 ht22 _) ?_)
      rintro _ w23 ⟨rfl, Hc24⟩
      have H25 := St.call0' H20 Hc24
      clear H20 Hc24
      obtain ⟨c26, hc26, h⟩ := lt_some h
      refine WPI.run 2 ⟨#[s1, TNode.val p3, Z, vp b4 0, vn, vi 0, Z, Z, s1, vi t17, vb false, vb false, TNode.val p3, vb t22, vb c26, vb c26, Z, Z, Z, Z, Z, Z, Z, Z, Z, Z, Z, Z, Z, Z, Z, Z], []⟩ w23 (fun K => by subst hc26; kernel_rfl) ?_
      refine WPI.done rfl ?_
      exact ⟨c26, _, _, _, _, _, _, _, rfl, St.sel H25 [0] (by decide) rfl, h⟩
    | true =>
      replace h := br_t h
      refine WPI.run 4 ⟨#[s1, TNode.val p3, Z, vp b4 0, vn, vi 0, Z, Z, s1, vi t17, vb true, vb true, Z, Z, Z, vb true, Z, Z, Z, Z, Z, Z, Z, Z, Z, Z, Z, Z, Z, Z, Z, Z], []⟩ w18 (fun K => by kernel_rfl) ?_
      refine WPI.done rfl ?_
      exact ⟨true, _, _, _, _, _, _, _, rfl, St.sel H20 [0] (by decide) rfl, h⟩
  · rintro a w ⟨c15, g8, g9, g10, g11, g12, g13, g14, rfl, H, h⟩
    subst hK16
    obtain ⟨w27, rfl⟩ : ∃ x, x = w := ⟨_, rfl⟩
    have H28 := H; clear H
    refine then_n ?_
    cases c15 with
    | false =>
      replace h := br_f h
      refine WP.condF (by kernel_rfl) ?_
      refine WP.skip ?_
      refine then_n ?_
      refine WP.seq ?_
      refine WP.region ?_
      refine WPI.run 2 ⟨#[s1, TNode.val p3, Z, vp b4 0, vn, vi 0, Z, Z, g8, g9, g10, g11, g12, g13, g14, vb false, s1, vp b4 0, Z, Z, Z, Z, Z, Z, Z, Z, Z, Z, Z, Z, Z, Z], []⟩ w27 (fun K => by kernel_rfl) ?_
      refine WPI.value (v := vi p3.Acct) rfl (by kernel_rfl) (ev_loadBox H28 0 rfl 3 (.tmp 17) 0 (vi p3.Acct) rfl (by kernel_rfl) (by kernel_rfl)) ?_
      obtain ⟨t29, ht29, h⟩ := bd_some h
      refine WPI.run 0 ⟨#[s1, TNode.val p3, Z, vp b4 0, vn, vi 0, Z, Z, g8, g9, g10, g11, g12, g13, g14, vb false, s1, vp b4 0, vi p3.Acct, Z, Z, Z, Z, Z, Z, Z, Z, Z, Z, Z, Z, Z], []⟩ w27 (fun K => by kernel_rfl) ?_
      refine WPI.op rfl (Op1.call (by kernel_rfl) (by kernel_rfl) (g_heap_place_w fuel s1 l2 p3.Acct t29 ht29 _ (Rd.arg0 hs1 H28)) ?_)
      rintro _ w30 ⟨rfl, Hc31⟩
      have H32 := St.call0' H28 Hc31
      clear H28 Hc31
      refine WPI.run 1 ⟨#[s1, TNode.val p3, Z, vp b4 0, vn, vi 0, vi t29, Z, g8, g9, g10, g11, g12, g13, g14, vb false, s1, vp b4 0, vi p3.Acct, vi t29, Z, Z, Z, Z, Z, Z, Z, Z, Z, Z, Z, Z], []⟩ w30 (fun K => by kernel_rfl) ?_
      refine WPI.done rfl ?_
      refine then_n ?_
      refine WP.seq ?_
      refine WP.seq ?_
      refine WP.region ?_
      obtain ⟨c33, hc33, h⟩ := lt_some h
      refine WPI.run 2 ⟨#[s1, TNode.val p3, Z, vp b4 0, vn, vi 0, vi t29, Z, g8, g9, g10, g11, g12, g13, g14, vb false, s1, vp b4 0, vi p3.Acct, vi t29, vi t29, vb c33, Z, Z, Z, Z, Z, Z, Z, Z, Z, Z], []⟩ w30 (fun K => by subst hc33; kernel_rfl) ?_
      refine WPI.done rfl ?_
      refine then_n ?_
      cases c33 with
      | false =>
        replace h := br_f h
        refine WP.condF (by kernel_rfl) ?_
        refine WP.skip ?_
        refine then_n ?_
        refine WP.seq ?_
        refine WP.region ?_
        obtain ⟨t34, ht34, h⟩ := bd_some h
        refine WPI.run 1 ⟨#[s1, TNode.val p3, Z, vp b4 0, vn, vi 0, vi t29, Z, g8, g9, g10, g11, g12, g13, g14, vb false, s1, vp b4 0, vi p3.Acct, vi t29, vi t29, vb false, s1, Z, Z, Z, Z, Z, Z, Z, Z, Z], []⟩ w30 (fun K => by kernel_rfl) ?_
        refine WPI.op rfl (Op1.call (by kernel_rfl) (by kernel_rfl) (g_slices_Clone_api_Node_api_Node_w fuel s1 l2 t34 ht34 _ (Rd.arg0 hs1 H32)) ?_)
        rintro s35 w38 ⟨_, rfl, Hc39⟩
        have H40 := St.call0 H32 Hc39
        clear H32 Hc39
        have sf37 := Own.isSl (St.get H40 0 rfl)
        refine WPI.run 1 ⟨#[s1, TNode.val p3, Z, vp b4 0, vn, vi 0, vi t29, s35, g8, g9, g10, g11, g12, g13, g14, vb false, s1, vp b4 0, vi p3.Acct, vi t29, vi t29, vb false, s1, s35, Z, Z, Z, Z, Z, Z, Z, Z], []⟩ w38 (fun K => by kernel_rfl) ?_
        refine WPI.done rfl ?_
        refine then_n ?_
        refine WP.seq ?_
        refine WP.region ?_
        refine WPI.run 2 ⟨#[s1, TNode.val p3, Z, vp b4 0, vn, vi 0, vi t29, s35, g8, g9, g10, g11, g12, g13, g14, vb false, s1, vp b4 0, vi p3.Acct, vi t29, vi t29, vb false, s1, s35, s35, vi t29, Z, Z, Z, Z, Z, Z], []⟩ w38 (fun K => by kernel_rfl) ?_
        refine WPI.value (v := TNode.val p3) rfl (by kernel_rfl) (ev_loadBox H40 1 rfl 33 (.tmp 3) 0 (TNode.val p3) rfl (by kernel_rfl) (by kernel_rfl)) ?_
        obtain ⟨hg41, h⟩ := gd_some h
        refine WPI.run 0 ⟨#[s1, TNode.val p3, Z, vp b4 0, vn, vi 0, vi t29, s35, g8, g9, g10, g11, g12, g13, g14, vb false, s1, vp b4 0, vi p3.Acct, vi t29, vi t29, vb false, s1, s35, s35, vi t29, TNode.val p3, Z, Z, Z, Z, Z], []⟩ w38 (fun K => by kernel_rfl) ?_
        refine WPI.value (v := va (slAt s35 6 (Int.toNat t29))) rfl (by kernel_rfl) (ev_index sf37 22 (.tmp 24) (.tmp 25) 33 6 48 .i64 t29 rfl (by kernel_rfl) (by kernel_rfl) (by kernel_rfl) hg41) ?_
        obtain ⟨l42, hl42, h⟩ := lt_some h
        refine WPI.run 0 ⟨#[s1, TNode.val p3, Z, vp b4 0, vn, vi 0, vi t29, s35, g8, g9, g10, g11, g12, g13, g14, vb false, s1, vp b4 0, vi p3.Acct, vi t29, vi t29, vb false, s1, s35, s35, vi t29, TNode.val p3, va (slAt s35 6 (Int.toNat t29)), Z, Z, Z, Z], []⟩ w38 (fun K => by kernel_rfl) ?_
        refine WPI.op rfl (Op1.storeOwn H40 0 rfl (by kernel_rfl) 33 (.tmp 27) (.tmp 26) (Int.toNat t29) p3 true rfl (by kernel_rfl) (by kernel_rfl) (by kernel_rfl) (idx_lt hg41) (fun w43 H44 => ?_))
        rw [← hl42] at H44
        clear H40
        refine WPI.run 0 ⟨#[s1, TNode.val p3, Z, vp b4 0, vn, vi 0, vi t29, s35, g8, g9, g10, g11, g12, g13, g14, vb false, s1, vp b4 0, vi p3.Acct, vi t29, vi t29, vb false, s1, s35, s35, vi t29, TNode.val p3, va (slAt s35 6 (Int.toNat t29)), Z, Z, Z, Z], []⟩ w43 (fun K => by kernel_rfl) ?_
        refine WPI.done rfl ?_
        refine then_n ?_
        refine WP.seq ?_
        refine WP.region ?_
        obtain ⟨t45, ht45, h⟩ := bd_some h
        refine WPI.run 2 ⟨#[s1, TNode.val p3, Z, vp b4 0, vn, vi 0, vi t29, s35, g8, g9, g10, g11, g12, g13, g14, vb false, s1, vp b4 0, vi p3.Acct, vi t29, vi t29, vb false, s1, s35, s35, vi t29, TNode.val p3, va (slAt s35 6 (Int.toNat t29)), s35, vi t29, Z, Z], []⟩ w43 (fun K => by kernel_rfl) ?_
        refine WPI.op rfl (Op1.call (by kernel_rfl) (by kernel_rfl) (g_heap_settle_w fuel s35 l42 t29 t45 ht45 _ (St.get H44 0 rfl)) ?_)
        rintro _ w47 ⟨rfl, Hc48⟩
        have H49 := St.call1 H44 0 rfl Hc48
        clear H44 Hc48
        have sf46 := Own.isSl (St.get H49 0 rfl)
        refine WPI.run 0 ⟨#[s1, TNode.val p3, Z, vp b4 0, vn, vi 0, vi t29, s35, g8, g9, g10, g11, g12, g13, g14, vb false, s1, vp b4 0, vi p3.Acct, vi t29, vi t29, vb false, s1, s35, s35, vi t29, TNode.val p3, va (slAt s35 6 (Int.toNat t29)), s35, vi t29, .tuple #[], Z], []⟩ w47 (fun K => by kernel_rfl) ?_
        refine WPI.done rfl ?_
        refine then_n ?_
        refine WP.seq ?_
        refine WP.region ?_
        refine WPI.run 3 ⟨#[s1, TNode.val p3, Z, vp b4 0, s35, vi 0, vi t29, s35, g8, g9, g10, g11, g12, g13, g14, vb false, s1, vp b4 0, vi p3.Acct, vi t29, vi t29, vb false, s1, s35, s35, vi t29, TNode.val p3, va (slAt s35 6 (Int.toNat t29)), s35, vi t29, .tuple #[], s35], []⟩ w47 (fun K => by kernel_rfl) ?_
        refine WPI.done rfl ?_
        refine then_n ?_
        refine WP.ret ?_
        obtain rfl := Option.some.inj h
        exact post_r (.tuple #[s35, vi 0]) rfl (by kernel_rfl) ⟨s35, rfl, St.sel H49 [0] (by decide) rfl⟩
      | true =>
        replace h := br_t h
        refine WP.condT (by kernel_rfl) ?_
        refine WP.seq ?_
        refine WP.region ?_
        refine WPI.run 2 ⟨#[s1, TNode.val p3, Z, vp b4 0, vn, vi 3, vi t29, Z, g8, g9, g10, g11, g12, g13, g14, vb false, s1, vp b4 0, vi p3.Acct, vi t29, vi t29, vb true, Z, Z, Z, Z, Z, Z, Z, Z, Z, Z], []⟩ w30 (fun K => by kernel_rfl) ?_
        refine WPI.done rfl ?_
        refine then_n ?_
        refine WP.ret ?_
        obtain rfl := Option.some.inj h
        exact then_r (post_r (.tuple #[vn, vi 3]) rfl (by kernel_rfl) ⟨vn, rfl, St.sel (St.nil H32 fTNode 33) [0] (by decide) rfl⟩)
    | true =>
      replace h := br_t h
      refine WP.condT (by kernel_rfl) ?_
      refine WP.seq ?_
      refine WP.region ?_
      refine WPI.run 2 ⟨#[s1, TNode.val p3, Z, vp b4 0, vn, vi 1, Z, Z, g8, g9, g10, g11, g12, g13, g14, vb true, Z, Z, Z, Z, Z, Z, Z, Z, Z, Z, Z, Z, Z, Z, Z, Z], []⟩ w27 (fun K => by kernel_rfl) ?_
      refine WPI.done rfl ?_
      refine then_n ?_
      refine WP.ret ?_
      obtain rfl := Option.some.inj h
      exact then_r (post_r (.tuple #[vn, vi 1]) rfl (by kernel_rfl) ⟨vn, rfl, St.sel (St.nil H28 fTNode 33) [0] (by decide) rfl⟩)
/- tarn/tarnref12.Push -/
def g_tarnref12_Push (fuel : Nat) (l2 : List TNode) (p3 : TNode) : Option ((List TNode) × Int) :=
  bd (g_tarnref12_Find fuel l2 p3.Acct) fun t8 => lt (decide (t8 ≥ 0)) fun c12 => br c12 (some ([], 4)) (jn (fun (l14 : List TNode) => lt (wr .i64 ((((List.length l14 : Nat) : Int)) - 1)) fun x58 => bd (g_tarnref12_rises fuel l14 x58) fun t59 => some (t59.1, 0)) fun K21 => bd (g_tarnref0_CopyNodes fuel l2) fun t23 => gd ((List.length t23 + List.length (([p3] : List TNode))) * 48 ≤ 140737488355328) <| lt (t23 ++ (([p3] : List TNode))) fun l31 => K21 l31)
theorem g_tarnref12_Push_w (fuel : Nat) (s1 : Value) (l2 : List TNode) (p3 : TNode) (r : (List TNode) × Int) (h : g_tarnref12_Push fuel l2 p3 = some r) (w0 : World) (hs1 : Rd fTNode (hp no w0) s1 l2) :
    Ret Try.prog 38 #[s1, TNode.val p3] w0 (fun v w' => ∃ (q0 : Value), v = .tuple #[q0, vi r.2] ∧ St no w0 w' [Own fTNode 33 q0 r.1]) := by
  unfold g_tarnref12_Push at h
  refine ret_of_wp Try.func38 rfl #[s1, TNode.val p3, Z, Z, Z, Z, Z, Z, Z, Z, Z, Z, Z, Z, Z, Z, Z, Z, Z, Z, Z, Z, Z] (by kernel_rfl) ?_
  have H0 := St.start w0
  refine WP.seq ?_
  refine WP.region ?_
  refine WPI.op rfl (Op1.box H0 (TNode.cs p3).toArray (by kernel_rfl) 33 (.tmp 1) rfl (by kernel_rfl) (fun b4 w6 H7 => ?_))
  refine WPI.run 2 ⟨#[s1, TNode.val p3, Z, vp b4 0, vn, vi 0, Z, Z, Z, Z, Z, Z, Z, Z, Z, Z, Z, Z, Z, Z, Z, Z, Z], []⟩ w6 (fun K => by kernel_rfl) ?_
  refine WPI.done rfl ?_
  refine then_n ?_
  refine WP.seq ?_
  refine WP.seq ?_
  refine WP.region ?_
  refine WPI.run 2 ⟨#[s1, TNode.val p3, Z, vp b4 0, vn, vi 0, Z, s1, vp b4 0, Z, Z, Z, Z, Z, Z, Z, Z, Z, Z, Z, Z, Z, Z], []⟩ w6 (fun K => by kernel_rfl) ?_
  refine WPI.value (v := vi p3.Acct) rfl (by kernel_rfl) (ev_loadBox H7 0 rfl 3 (.tmp 8) 0 (vi p3.Acct) rfl (by kernel_rfl) (by kernel_rfl)) ?_
  obtain ⟨t8, ht8, h⟩ := bd_some h
  refine WPI.run 0 ⟨#[s1, TNode.val p3, Z, vp b4 0, vn, vi 0, Z, s1, vp b4 0, vi p3.Acct, Z, Z, Z, Z, Z, Z, Z, Z, Z, Z, Z, Z, Z], []⟩ w6 (fun K => by kernel_rfl) ?_
  refine WPI.op rfl (Op1.call (by kernel_rfl) (by kernel_rfl) (g_tarnref12_Find_w fuel s1 l2 p3.Acct t8 ht8 _ (Rd.arg0 hs1 H7)) ?_)
  rintro _ w9 ⟨rfl, Hc10⟩
  have H11 := St.call0' H7 Hc10
  clear H7 Hc10
  obtain ⟨c12, hc12, h⟩ := lt_some h
  refine WPI.run 1 ⟨#[s1, TNode.val p3, Z, vp b4 0, vn, vi 0, Z, s1, vp b4 0, vi p3.Acct, vi t8, vb c12, Z, Z, Z, Z, Z, Z, Z, Z, Z, Z, Z], []⟩ w9 (fun K => by subst hc12; kernel_rfl) ?_
  refine WPI.done rfl ?_
  refine then_n ?_
  cases c12 with
  | false =>
    replace h := br_f h
    refine WP.condF (by kernel_rfl) ?_
    refine WP.skip ?_
    refine then_n ?_
    refine WP.seq ?_
    obtain ⟨K21, hK21, h⟩ := jn_some h
    refine WP.draw (by kernel_rfl) (by kernel_rfl) (fun a w => ∃ (l14 : List TNode) (s15 : Value) (g16 : Value) (g17 : Value) (g18 : Value) (g19 : Value) (g20 : Value), a = ⟨#[s1, TNode.val p3, Z, vp b4 0, vn, vi 0, s15, s1, vp b4 0, vi p3.Acct, vi t8, vb false, g16, g17, g18, g19, g20, Z, Z, Z, Z, Z, Z], []⟩ ∧ St no w0 w [Box b4 (TNode.cs p3).toArray 33, Own fTNode 33 s15 l14] ∧ K21 l14 = some r) 6 #[false, false, false, false, false, false] (by kernel_rfl) (by kernel_rfl) ?_ ?_
    · skip
      have H22 := St.drew H11
      obtain ⟨t23, ht23, h⟩ := bd_some h
      obtain ⟨hg30, h⟩ := gd_some h
      obtain ⟨l31, hl31, h⟩ := lt_some h
      refine WA.take 0 (v := s1) rfl (by kernel_rfl) (by kernel_rfl) (fun w => by kernel_rfl) (fun w => by kernel_rfl) (l' := #[true, false, false, false, false, false]) (by kernel_rfl) ?_
      refine WA.any [1, 2] (by kernel_rfl) (by simp) ?_
      simp only [List.mem_cons, List.not_mem_nil, or_false, forall_eq_or_imp, forall_eq]
      refine ⟨?_, ?_⟩
      · skip
        refine WO.op rfl (Op1.call (by kernel_rfl) (by kernel_rfl) (g_tarnref0_CopyNodes_w fuel s1 l2 t23 ht23 _ (Rd.arg0 hs1 H22)) ?_)
        rintro s24 w34 ⟨_, rfl, Hc35⟩
        have H36 := St.call0 H22 Hc35
        clear H22 Hc35
        have sf26 := Own.isSl (St.get H36 0 rfl)
        refine WA.lst (l := #[true, true, false, false, false, false]) (by kernel_rfl) ?_
        refine WA.any [2] (by kernel_rfl) (by simp) ?_
        simp only [List.mem_singleton, forall_eq]
        refine WO.op rfl (Op1.val (v := TNode.val p3) (by kernel_rfl) (ev_loadBox H36 1 rfl 33 (.tmp 3) 0 (TNode.val p3) rfl (by kernel_rfl) (by kernel_rfl)) ?_)
        refine WA.lst (l := #[true, true, true, false, false, false]) (by kernel_rfl) ?_
        refine WA.any [3] (by kernel_rfl) (by simp) ?_
        simp only [List.mem_singleton, forall_eq]
        refine WO.op rfl (Op1.lit (F := fTNode) (E := 33) H36 (by kernel_rfl) ([p3] : List TNode) (fun w => by kernel_rfl) (by simp [maxLen]) (fun s28 w37 H38 => ?_))
        clear H36
        have sf29 := Own.isSl (St.get H38 0 rfl)
        refine WA.lst (l := #[true, true, true, true, false, false]) (by kernel_rfl) ?_
        refine WA.any [4] (by kernel_rfl) (by simp) ?_
        simp only [List.mem_singleton, forall_eq]
        refine WO.op rfl (Op1.append (F := fTNode) H38 1 rfl (by kernel_rfl) 22 (.tmp 13) (.tmp 15) 48 rfl (by kernel_rfl) (by kernel_rfl) s28 (([p3] : List TNode)) (St.rd H38 0 rfl) (hp_no_le _) (by kernel_rfl) (app_len hg30 (by decide)) (fun s32 w39 H40 => ?_))
        rw [← hl31] at H40
        clear H38
        have sf33 := Own.isSl (St.get H40 0 rfl)
        refine WA.lst (l := #[true, true, true, true, true, false]) (by kernel_rfl) ?_
        refine WA.take 5 (v := s32) rfl (by kernel_rfl) (by kernel_rfl) (fun w => by kernel_rfl) (fun w => by kernel_rfl) (l' := #[true, true, true, true, true, true]) (by kernel_rfl) ?_
        refine WA.done (by kernel_rfl) ?_
        exact ⟨l31, s32, s1, s24, (TNode.val p3), s28, s32, (by kernel_rfl), St.sel H40 [2, 0] (by decide) rfl, h⟩
      · skip
        refine WO.op rfl (Op1.val (v := TNode.val p3) (by kernel_rfl) (ev_loadBox H22 0 rfl 33 (.tmp 3) 0 (TNode.val p3) rfl (by kernel_rfl) (by kernel_rfl)) ?_)
        refine WA.lst (l := #[true, false, true, false, false, false]) (by kernel_rfl) ?_
        refine WA.any [1, 3] (by kernel_rfl) (by simp) ?_
        simp only [List.mem_cons, List.not_mem_nil, or_false, forall_eq_or_imp, forall_eq]
        refine ⟨?_, ?_⟩
        · skip
          refine WO.op rfl (Op1.call (by kernel_rfl) (by kernel_rfl) (g_tarnref0_CopyNodes_w fuel s1 l2 t23 ht23 _ (Rd.arg0 hs1 H22)) ?_)
          rintro s24 w41 ⟨_, rfl, Hc42⟩
          have H43 := St.call0 H22 Hc42
          clear H22 Hc42
          have sf26 := Own.isSl (St.get H43 0 rfl)
          refine WA.lst (l := #[true, true, true, false, false, false]) (by kernel_rfl) ?_
          refine WA.any [3] (by kernel_rfl) (by simp) ?_
          simp only [List.mem_singleton, forall_eq]
          refine WO.op rfl (Op1.lit (F := fTNode) (E := 33) H43 (by kernel_rfl) ([p3] : List TNode) (fun w => by kernel_rfl) (by simp [maxLen]) (fun s28 w44 H45 => ?_))
          clear H43
          have sf29 := Own.isSl (St.get H45 0 rfl)
          refine WA.lst (l := #[true, true, true, true, false, false]) (by kernel_rfl) ?_
          refine WA.any [4] (by kernel_rfl) (by simp) ?_
          simp only [List.mem_singleton, forall_eq]
          refine WO.op rfl (Op1.append (F := fTNode) H45 1 rfl (by kernel_rfl) 22 (.tmp 13) (.tmp 15) 48 rfl (by kernel_rfl) (by kernel_rfl) s28 (([p3] : List TNode)) (St.rd H45 0 rfl) (hp_no_le _) (by kernel_rfl) (app_len hg30 (by decide)) (fun s32 w46 H47 => ?_))
          rw [← hl31] at H47
          clear H45
          have sf33 := Own.isSl (St.get H47 0 rfl)
          refine WA.lst (l := #[true, true, true, true, true, false]) (by kernel_rfl) ?_
          refine WA.take 5 (v := s32) rfl (by kernel_rfl) (by kernel_rfl) (fun w => by kernel_rfl) (fun w => by kernel_rfl) (l' := #[true, true, true, true, true, true]) (by kernel_rfl) ?_
          refine WA.done (by kernel_rfl) ?_
          exact ⟨l31, s32, s1, s24, (TNode.val p3), s28, s32, (by kernel_rfl), St.sel H47 [2, 0] (by decide) rfl, h⟩
        · skip
          refine WO.op rfl (Op1.lit (F := fTNode) (E := 33) H22 (by kernel_rfl) ([p3] : List TNode) (fun w => by kernel_rfl) (by simp [maxLen]) (fun s28 w48 H49 => ?_))
          clear H22
          have sf29 := Own.isSl (St.get H49 0 rfl)
          refine WA.lst (l := #[true, false, true, true, false, false]) (by kernel_rfl) ?_
          refine WA.any [1] (by kernel_rfl) (by simp) ?_
          simp only [List.mem_singleton, forall_eq]
          refine WO.op rfl (Op1.call (by kernel_rfl) (by kernel_rfl) (g_tarnref0_CopyNodes_w fuel s1 l2 t23 ht23 _ (Rd.arg0 hs1 H49)) ?_)
          rintro s24 w50 ⟨_, rfl, Hc51⟩
          have H52 := St.call0 H49 Hc51
          clear H49 Hc51
          have sf26 := Own.isSl (St.get H52 0 rfl)
          refine WA.lst (l := #[true, true, true, true, false, false]) (by kernel_rfl) ?_
          refine WA.any [4] (by kernel_rfl) (by simp) ?_
          simp only [List.mem_singleton, forall_eq]
          refine WO.op rfl (Op1.append (F := fTNode) H52 0 rfl (by kernel_rfl) 22 (.tmp 13) (.tmp 15) 48 rfl (by kernel_rfl) (by kernel_rfl) s28 (([p3] : List TNode)) (St.rd H52 1 rfl) (hp_no_le _) (by kernel_rfl) (app_len hg30 (by decide)) (fun s32 w53 H54 => ?_))
          rw [← hl31] at H54
          clear H52
          have sf33 := Own.isSl (St.get H54 0 rfl)
          refine WA.lst (l := #[true, true, true, true, true, false]) (by kernel_rfl) ?_
          refine WA.take 5 (v := s32) rfl (by kernel_rfl) (by kernel_rfl) (fun w => by kernel_rfl) (fun w => by kernel_rfl) (l' := #[true, true, true, true, true, true]) (by kernel_rfl) ?_
          refine WA.done (by kernel_rfl) ?_
          exact ⟨l31, s32, s1, s24, (TNode.val p3), s28, s32, (by kernel_rfl), St.sel H54 [2, 0] (by decide) rfl, h⟩
    · rintro a w ⟨l14, s15, g16, g17, g18, g19, g20, rfl, H, h⟩
      subst hK21
      obtain ⟨w55, rfl⟩ : ∃ x, x = w := ⟨_, rfl⟩
      have H56 := H; clear H
      have sf57 := Own.isSl (St.get H56 1 rfl)
      refine then_n ?_
      refine WP.seq ?_
      refine WP.region ?_
      refine WPI.run 2 ⟨#[s1, TNode.val p3, Z, vp b4 0, vn, vi 0, s15, s1, vp b4 0, vi p3.Acct, vi t8, vb false, g16, g17, g18, g19, g20, s15, s15, Z, Z, Z, Z], []⟩ w55 (fun K => by kernel_rfl) ?_
      refine WPI.value (v := vi (((List.length l14 : Nat) : Int))) rfl (by kernel_rfl) (ev_len sf57 22 (.tmp 18) 33 6 48 rfl (by kernel_rfl) (by kernel_rfl)) ?_
      obtain ⟨x58, hx58, h⟩ := lt_some h
      obtain ⟨t59, ht59, h⟩ := bd_some h
      refine WPI.run 1 ⟨#[s1, TNode.val p3, Z, vp b4 0, vn, vi 0, s15, s1, vp b4 0, vi p3.Acct, vi t8, vb false, g16, g17, g18, g19, g20, s15, s15, vi (((List.length l14 : Nat) : Int)), vi x58, Z, Z], []⟩ w55 (fun K => by subst hx58; kernel_rfl) ?_
      refine WPI.op rfl (Op1.call (by kernel_rfl) (by kernel_rfl) (g_tarnref12_rises_w fuel s15 l14 x58 t59 ht59 _ (St.get H56 1 rfl)) ?_)
      rintro _ w61 ⟨rfl, Hc62⟩
      have H63 := St.call1 H56 1 rfl Hc62
      clear H56 Hc62
      have sf60 := Own.isSl (St.get H63 0 rfl)
      refine WPI.run 0 ⟨#[s1, TNode.val p3, Z, vp b4 0, vn, vi 0, s15, s1, vp b4 0, vi p3.Acct, vi t8, vb false, g16, g17, g18, g19, g20, s15, s15, vi (((List.length l14 : Nat) : Int)), vi x58, vi t59.2, Z], []⟩ w61 (fun K => by kernel_rfl) ?_
      refine WPI.done rfl ?_
      refine then_n ?_
      refine WP.seq ?_
      refine WP.region ?_
      refine WPI.run 3 ⟨#[s1, TNode.val p3, Z, vp b4 0, s15, vi 0, s15, s1, vp b4 0, vi p3.Acct, vi t8, vb false, g16, g17, g18, g19, g20, s15, s15, vi (((List.length l14 : Nat) : Int)), vi x58, vi t59.2, s15], []⟩ w61 (fun K => by kernel_rfl) ?_
      refine WPI.done rfl ?_
      refine then_n ?_
      refine WP.ret ?_
      obtain rfl := Option.some.inj h
      exact post_r (.tuple #[s15, vi 0]) rfl (by kernel_rfl) ⟨s15, rfl, St.sel H63 [0] (by decide) rfl⟩
  | true =>
    replace h := br_t h
    refine WP.condT (by kernel_rfl) ?_
    refine WP.seq ?_
    refine WP.region ?_
    refine WPI.run 2 ⟨#[s1, TNode.val p3, Z, vp b4 0, vn, vi 4, Z, s1, vp b4 0, vi p3.Acct, vi t8, vb true, Z, Z, Z, Z, Z, Z, Z, Z, Z, Z, Z], []⟩ w9 (fun K => by kernel_rfl) ?_
    refine WPI.done rfl ?_
    refine then_n ?_
    refine WP.ret ?_
    obtain rfl := Option.some.inj h
    exact then_r (post_r (.tuple #[vn, vi 4]) rfl (by kernel_rfl) ⟨vn, rfl, St.sel (St.nil H11 fTNode 33) [0] (by decide) rfl⟩)
/- tarn/heap.Push -/
def g_heap_Push (fuel : Nat) (l2 : List TNode) (p3 : TNode) : Option ((List TNode) × Int) :=
  jn (fun (c8 : Bool) => br c8 (some ([], 1)) (bd (g_heap_place fuel l2 p3.Acct) fun t30 => lt (decide (t30 ≥ 0)) fun c34 => br c34 (some ([], 4)) (jn (fun (l36 : List TNode) => lt (wr .i64 ((((List.length l36 : Nat) : Int)) - 1)) fun x80 => bd (g_heap_rise fuel l36 x80) fun t81 => some (t81.1, 0)) fun K43 => bd (g_slices_Clone_api_Node_api_Node fuel l2) fun t45 => gd ((List.length t45 + List.length (([p3] : List TNode))) * 48 ≤ 140737488355328) <| lt (t45 ++ (([p3] : List TNode))) fun l53 => K43 l53))) fun K17 => bd (g_heap_Check fuel l2) fun t18 => lt (t18 != 0) fun c22 => br c22 (K17 true) (bd (g_heap_may fuel p3) fun t23 => lt (!t23) fun c27 => K17 c27)
theorem g_heap_Push_w (fuel : Nat) (s1 : Value) (l2 : List TNode) (p3 : TNode) (r : (List TNode) × Int) (h : g_heap_Push fuel l2 p3 = some r) (w0 : World) (hs1 : Rd fTNode (hp no w0) s1 l2) :
    Ret Try.prog 21 #[s1, TNode.val p3] w0 (fun v w' => ∃ (q0 : Value), v = .tuple #[q0, vi r.2] ∧ St no w0 w' [Own fTNode 33 q0 r.1]) := by
  unfold g_heap_Push at h
  refine ret_of_wp Try.func21 rfl #[s1, TNode.val p3, Z, Z, Z, Z, Z, Z, Z, Z, Z, Z, Z, Z, Z, Z, Z, Z, Z, Z, Z, Z, Z, Z, Z, Z, Z, Z, Z, Z, Z, Z, Z] (by kernel_rfl) ?_
  have H0 := St.start w0
  refine WP.seq ?_
  refine WP.region ?_
  refine WPI.op rfl (Op1.box H0 (TNode.cs p3).toArray (by kernel_rfl) 33 (.tmp 1) rfl (by kernel_rfl) (fun b4 w6 H7 => ?_))
  refine WPI.run 2 ⟨#[s1, TNode.val p3, Z, vp b4 0, vn, vi 0, Z, Z, Z, Z, Z, Z, Z, Z, Z, Z, Z, Z, Z, Z, Z, Z, Z, Z, Z, Z, Z, Z, Z, Z, Z, Z, Z], []⟩ w6 (fun K => by kernel_rfl) ?_
  refine WPI.done rfl ?_
  refine then_n ?_
  refine WP.seq ?_
  refine WP.block ?_
  refine WP.seq ?_
  obtain ⟨K17, hK17, h⟩ := jn_some h
  refine WP.onlyN (fun a w => ∃ (c8 : Bool) (g9 : Value) (g10 : Value) (g11 : Value) (g12 : Value) (g13 : Value) (g14 : Value) (g15 : Value) (g16 : Value), a = ⟨#[s1, TNode.val p3, Z, vp b4 0, vn, vi 0, Z, vb c8, g9, g10, g11, g12, g13, g14, g15, g16, Z, Z, Z, Z, Z, Z, Z, Z, Z, Z, Z, Z, Z, Z, Z, Z, Z], []⟩ ∧ St no w0 w [Box b4 (TNode.cs p3).toArray 33] ∧ K17 c8 = some r) ?_ ?_
  · skip
    refine WP.region ?_
    obtain ⟨t18, ht18, h⟩ := bd_some h
    refine WPI.run 1 ⟨#[s1, TNode.val p3, Z, vp b4 0, vn, vi 0, Z, Z, s1, Z, Z, Z, Z, Z, Z, Z, Z, Z, Z, Z, Z, Z, Z, Z, Z, Z, Z, Z, Z, Z, Z, Z, Z], []⟩ w6 (fun K => by kernel_rfl) ?_
    refine WPI.op rfl (Op1.call (by kernel_rfl) (by kernel_rfl) (g_heap_Check_w fuel s1 l2 t18 ht18 _ (Rd.arg0 hs1 H7)) ?_)
    rintro _ w19 ⟨rfl, Hc20⟩
    have H21 := St.call0' H7 Hc20
    clear H7 Hc20
    obtain ⟨c22, hc22, h⟩ := lt_some h
    refine WPI.run 2 ⟨#[s1, TNode.val p3, Z, vp b4 0, vn, vi 0, Z, Z, s1, vi t18, vb c22, vb c22, Z, Z, Z, Z, Z, Z, Z, Z, Z, Z, Z, Z, Z, Z, Z, Z, Z, Z, Z, Z, Z], []⟩ w19 (fun K => by subst hc22; kernel_rfl) ?_
    cases c22 with
    | false =>
      replace h := br_f h
      refine WPI.value (v := TNode.val p3) rfl (by kernel_rfl) (ev_loadBox H21 0 rfl 33 (.tmp 3) 0 (TNode.val p3) rfl (by kernel_rfl) (by kernel_rfl)) ?_
      obtain ⟨t23, ht23, h⟩ := bd_some h
      refine WPI.run 0 ⟨#[s1, TNode.val p3, Z, vp b4 0, vn, vi 0, Z, Z, s1, vi t18, vb false, vb false, TNode.val p3, Z, Z, Z, Z, Z, Z, Z, Z, Z, Z, Z, Z, Z, Z, Z, Z, Z, Z, Z, Z], []⟩ w19 (fun K => by kernel_rfl) ?_
      refine WPI.op rfl (Op1.call (by kernel_rfl) (by kernel_rfl) (g_heap_may_w fuel p3 t23 ht23 _) ?_)
      rintro _ w24 ⟨rfl, Hc25⟩
      have H26 := St.call0' H21 Hc25
      clear H21 Hc25
      obtain ⟨c27, hc27, h⟩ := lt_some h
      refine WPI.run 3 ⟨#[s1, TNode.val p3, Z, vp b4 0, vn, vi 0, Z, vb c27, s1, vi t18, vb false, vb false, TNode.val p3, vb t23, vb c27, vb c27, Z, Z, Z, Z, Z, Z, Z, Z, Z, Z, Z, Z, Z, Z, Z, Z, Z], []⟩ w24 (fun K => by subst hc27; kernel_rfl) ?_
      refine WPI.done rfl ?_
      exact ⟨c27, _, _, _, _, _, _, _, _, rfl, St.sel H26 [0] (by decide) rfl, h⟩
    | true =>
      replace h := br_t h
      refine WPI.run 5 ⟨#[s1, TNode.val p3, Z, vp b4 0, vn, vi 0, Z, vb true, s1, vi t18, vb true, vb true, Z, Z, Z, vb true, Z, Z, Z, Z, Z, Z, Z, Z, Z, Z, Z, Z, Z, Z, Z, Z, Z], []⟩ w19 (fun K => by kernel_rfl) ?_
      refine WPI.done rfl ?_
      exact ⟨true, _, _, _, _, _, _, _, _, rfl, St.sel H21 [0] (by decide) rfl, h⟩
  · rintro a w ⟨c8, g9, g10, g11, g12, g13, g14, g15, g16, rfl, H, h⟩
    subst hK17
    obtain ⟨w28, rfl⟩ : ∃ x, x = w := ⟨_, rfl⟩
    have H29 := H; clear H
    refine then_n ?_
    cases c8 with
    | false =>
      replace h := br_f h
      refine WP.condF (by kernel_rfl) ?_
      refine WP.seq ?_
      refine WP.region ?_
      refine WPI.run 2 ⟨#[s1, TNode.val p3, Z, vp b4 0, vn, vi 0, Z, vb false, g9, g10, g11, g12, g13, g14, g15, g16, Z, s1, vp b4 0, Z, Z, Z, Z, Z, Z, Z, Z, Z, Z, Z, Z, Z, Z], []⟩ w28 (fun K => by kernel_rfl) ?_
      refine WPI.value (v := vi p3.Acct) rfl (by kernel_rfl) (ev_loadBox H29 0 rfl 3 (.tmp 18) 0 (vi p3.Acct) rfl (by kernel_rfl) (by kernel_rfl)) ?_
      obtain ⟨t30, ht30, h⟩ := bd_some h
      refine WPI.run 0 ⟨#[s1, TNode.val p3, Z, vp b4 0, vn, vi 0, Z, vb false, g9, g10, g11, g12, g13, g14, g15, g16, Z, s1, vp b4 0, vi p3.Acct, Z, Z, Z, Z, Z, Z, Z, Z, Z, Z, Z, Z, Z], []⟩ w28 (fun K => by kernel_rfl) ?_
      refine WPI.op rfl (Op1.call (by kernel_rfl) (by kernel_rfl) (g_heap_place_w fuel s1 l2 p3.Acct t30 ht30 _ (Rd.arg0 hs1 H29)) ?_)
      rintro _ w31 ⟨rfl, Hc32⟩
      have H33 := St.call0' H29 Hc32
      clear H29 Hc32
      obtain ⟨c34, hc34, h⟩ := lt_some h
      refine WPI.run 2 ⟨#[s1, TNode.val p3, Z, vp b4 0, vn, vi 0, Z, vb false, g9, g10, g11, g12, g13, g14, g15, g16, vb c34, s1, vp b4 0, vi p3.Acct, vi t30, vb c34, Z, Z, Z, Z, Z, Z, Z, Z, Z, Z, Z], []⟩ w31 (fun K => by subst hc34; kernel_rfl) ?_
      refine WPI.done rfl ?_
      refine then_n ?_
      cases c34 with
      | false =>
        replace h := br_f h
        refine WP.condF (by kernel_rfl) ?_
        refine WP.skip ?_
        refine inb_n (then_n ?_)
        refine WP.seq ?_
        obtain ⟨K43, hK43, h⟩ := jn_some h
        refine WP.draw (by kernel_rfl) (by kernel_rfl) (fun a w => ∃ (l36 : List TNode) (s37 : Value) (g38 : Value) (g39 : Value) (g40 : Value) (g41 : Value) (g42 : Value), a = ⟨#[s1, TNode.val p3, Z, vp b4 0, vn, vi 0, s37, vb false, g9, g10, g11, g12, g13, g14, g15, g16, vb false, s1, vp b4 0, vi p3.Acct, vi t30, vb false, g38, g39, g40, g41, g42, Z, Z, Z, Z, Z, Z], []⟩ ∧ St no w0 w [Box b4 (TNode.cs p3).toArray 33, Own fTNode 33 s37 l36] ∧ K43 l36 = some r) 6 #[false, false, false, false, false, false] (by kernel_rfl) (by kernel_rfl) ?_ ?_
        · skip
          have H44 := St.drew H33
          obtain ⟨t45, ht45, h⟩ := bd_some h
          obtain ⟨hg52, h⟩ := gd_some h
          obtain ⟨l53, hl53, h⟩ := lt_some h
          refine WA.take 0 (v := s1) rfl (by kernel_rfl) (by kernel_rfl) (fun w => by kernel_rfl) (fun w => by kernel_rfl) (l' := #[true, false, false, false, false, false]) (by kernel_rfl) ?_
          refine WA.any [1, 2] (by kernel_rfl) (by simp) ?_
          simp only [List.mem_cons, List.not_mem_nil, or_false, forall_eq_or_imp, forall_eq]
          refine ⟨?_, ?_⟩
          · skip
            refine WO.op rfl (Op1.call (by kernel_rfl) (by kernel_rfl) (g_slices_Clone_api_Node_api_Node_w fuel s1 l2 t45 ht45 _ (Rd.arg0 hs1 H44)) ?_)
            rintro s46 w56 ⟨_, rfl, Hc57⟩
            have H58 := St.call0 H44 Hc57
            clear H44 Hc57
            have sf48 := Own.isSl (St.get H58 0 rfl)
            refine WA.lst (l := #[true, true, false, false, false, false]) (by kernel_rfl) ?_
            refine WA.any [2] (by kernel_rfl) (by simp) ?_
            simp only [List.mem_singleton, forall_eq]
            refine WO.op rfl (Op1.val (v := TNode.val p3) (by kernel_rfl) (ev_loadBox H58 1 rfl 33 (.tmp 3) 0 (TNode.val p3) rfl (by kernel_rfl) (by kernel_rfl)) ?_)
            refine WA.lst (l := #[true, true, true, false, false, false]) (by kernel_rfl) ?_
            refine WA.any [3] (by kernel_rfl) (by simp) ?_
            simp only [List.mem_singleton, forall_eq]
            refine WO.op rfl (Op1.lit (F := fTNode) (E := 33) H58 (by kernel_rfl) ([p3] : List TNode) (fun w => by kernel_rfl) (by simp [maxLen]) (fun s50 w59 H60 => ?_))
            clear H58
            have sf51 := Own.isSl (St.get H60 0 rfl)
            refine WA.lst (l := #[true, true, true, true, false, false]) (by kernel_rfl) ?_
            refine WA.any [4] (by kernel_rfl) (by simp) ?_
            simp only [List.mem_singleton, forall_eq]
            refine WO.op rfl (Op1.append (F := fTNode) H60 1 rfl (by kernel_rfl) 22 (.tmp 23) (.tmp 25) 48 rfl (by kernel_rfl) (by kernel_rfl) s50 (([p3] : List TNode)) (St.rd H60 0 rfl) (hp_no_le _) (by kernel_rfl) (app_len hg52 (by decide)) (fun s54 w61 H62 => ?_))
            rw [← hl53] at H62
            clear H60
            have sf55 := Own.isSl (St.get H62 0 rfl)
            refine WA.lst (l := #[true, true, true, true, true, false]) (by kernel_rfl) ?_
            refine WA.take 5 (v := s54) rfl (by kernel_rfl) (by kernel_rfl) (fun w => by kernel_rfl) (fun w => by kernel_rfl) (l' := #[true, true, true, true, true, true]) (by kernel_rfl) ?_
            refine WA.done (by kernel_rfl) ?_
            exact ⟨l53, s54, s1, s46, (TNode.val p3), s50, s54, (by kernel_rfl), St.sel H62 [2, 0] (by decide) rfl, h⟩
          · skip
            refine WO.op rfl (Op1.val (v := TNode.val p3) (by kernel_rfl) (ev_loadBox H44 0 rfl 33 (.tmp 3) 0 (TNode.val p3) rfl (by kernel_rfl) (by kernel_rfl)) ?_)
            refine WA.lst (l := #[true, false, true, false, false, false]) (by kernel_rfl) ?_
            refine WA.any [1, 3] (by kernel_rfl) (by simp) ?_
            simp only [List.mem_cons, List.not_mem_nil, or_false, forall_eq_or_imp, forall_eq]
            refine ⟨?_, ?_⟩
            · skip
              refine WO.op rfl (Op1.call (by kernel_rfl) (by kernel_rfl) (g_slices_Clone_api_Node_api_Node_w fuel s1 l2 t45 ht45 _ (Rd.arg0 hs1 H44)) ?_)
              rintro s46 w63 ⟨_, rfl, Hc64⟩
              have H65 := St.call0 H44 Hc64
              clear H44 Hc64
              have sf48 := Own.isSl (St.get H65 0 rfl)
              refine WA.lst (l := #[true, true, true, false, false, false]) (by kernel_rfl) ?_
              refine WA.any [3] (by kernel_rfl) (by simp) ?_
              simp only [List.mem_singleton, forall_eq]
              refine WO.op rfl (Op1.lit (F := fTNode) (E := 33) H65 (by kernel_rfl) ([p3] : List TNode) (fun w => by kernel_rfl) (by simp [maxLen]) (fun s50 w66 H67 => ?_))
              clear H65
              have sf51 := Own.isSl (St.get H67 0 rfl)
              refine WA.lst (l := #[true, true, true, true, false, false]) (by kernel_rfl) ?_
              refine WA.any [4] (by kernel_rfl) (by simp) ?_
              simp only [List.mem_singleton, forall_eq]
              refine WO.op rfl (Op1.append (F := fTNode) H67 1 rfl (by kernel_rfl) 22 (.tmp 23) (.tmp 25) 48 rfl (by kernel_rfl) (by kernel_rfl) s50 (([p3] : List TNode)) (St.rd H67 0 rfl) (hp_no_le _) (by kernel_rfl) (app_len hg52 (by decide)) (fun s54 w68 H69 => ?_))
              rw [← hl53] at H69
              clear H67
              have sf55 := Own.isSl (St.get H69 0 rfl)
              refine WA.lst (l := #[true, true, true, true, true, false]) (by kernel_rfl) ?_
              refine WA.take 5 (v := s54) rfl (by kernel_rfl) (by kernel_rfl) (fun w => by kernel_rfl) (fun w => by kernel_rfl) (l' := #[true, true, true, true, true, true]) (by kernel_rfl) ?_
              refine WA.done (by kernel_rfl) ?_
              exact ⟨l53, s54, s1, s46, (TNode.val p3), s50, s54, (by kernel_rfl), St.sel H69 [2, 0] (by decide) rfl, h⟩
            · skip
              refine WO.op rfl (Op1.lit (F := fTNode) (E := 33) H44 (by kernel_rfl) ([p3] : List TNode) (fun w => by kernel_rfl) (by simp [maxLen]) (fun s50 w70 H71 => ?_))
              clear H44
              have sf51 := Own.isSl (St.get H71 0 rfl)
              refine WA.lst (l := #[true, false, true, true, false, false]) (by kernel_rfl) ?_
              refine WA.any [1] (by kernel_rfl) (by simp) ?_
              simp only [List.mem_singleton, forall_eq]
              refine WO.op rfl (Op1.call (by kernel_rfl) (by kernel_rfl) (g_slices_Clone_api_Node_api_Node_w fuel s1 l2 t45 ht45 _ (Rd.arg0 hs1 H71)) ?_)
              rintro s46 w72 ⟨_, rfl, Hc73⟩
              have H74 := St.call0 H71 Hc73
              clear H71 Hc73
              have sf48 := Own.isSl (St.get H74 0 rfl)
              refine WA.lst (l := #[true, true, true, true, false, false]) (by kernel_rfl) ?_
              refine WA.any [4] (by kernel_rfl) (by simp) ?_
              simp only [List.mem_singleton, forall_eq]
              refine WO.op rfl (Op1.append (F := fTNode) H74 0 rfl (by kernel_rfl) 22 (.tmp 23) (.tmp 25) 48 rfl (by kernel_rfl) (by kernel_rfl) s50 (([p3] : List TNode)) (St.rd H74 1 rfl) (hp_no_le _) (by kernel_rfl) (app_len hg52 (by decide)) (fun s54 w75 H76 => ?_))
              rw [← hl53] at H76
              clear H74
              have sf55 := Own.isSl (St.get H76 0 rfl)
              refine WA.lst (l := #[true, true, true, true, true, false]) (by kernel_rfl) ?_
              refine WA.take 5 (v := s54) rfl (by kernel_rfl) (by kernel_rfl) (fun w => by kernel_rfl) (fun w => by kernel_rfl) (l' := #[true, true, true, true, true, true]) (by kernel_rfl) ?_
              refine WA.done (by kernel_rfl) ?_
              exact ⟨l53, s54, s1, s46, (TNode.val p3), s50, s54, (by kernel_rfl), St.sel H76 [2, 0] (by decide) rfl, h⟩
        · rintro a w ⟨l36, s37, g38, g39, g40, g41, g42, rfl, H, h⟩
          subst hK43
          obtain ⟨w77, rfl⟩ : ∃ x, x = w := ⟨_, rfl⟩
          have H78 := H; clear H
          have sf79 := Own.isSl (St.get H78 1 rfl)
          refine then_n ?_
          refine WP.seq ?_
          refine WP.region ?_
          refine WPI.run 2 ⟨#[s1, TNode.val p3, Z, vp b4 0, vn, vi 0, s37, vb false, g9, g10, g11, g12, g13, g14, g15, g16, vb false, s1, vp b4 0, vi p3.Acct, vi t30, vb false, g38, g39, g40, g41, g42, s37, s37, Z, Z, Z, Z], []⟩ w77 (fun K => by kernel_rfl) ?_
          refine WPI.value (v := vi (((List.length l36 : Nat) : Int))) rfl (by kernel_rfl) (ev_len sf79 22 (.tmp 28) 33 6 48 rfl (by kernel_rfl) (by kernel_rfl)) ?_
          obtain ⟨x80, hx80, h⟩ := lt_some h
          obtain ⟨t81, ht81, h⟩ := bd_some h
          refine WPI.run 1 ⟨#[s1, TNode.val p3, Z, vp b4 0, vn, vi 0, s37, vb false, g9, g10, g11, g12, g13, g14, g15, g16, vb false, s1, vp b4 0, vi p3.Acct, vi t30, vb false, g38, g39, g40, g41, g42, s37, s37, vi (((List.length l36 : Nat) : Int)), vi x80, Z, Z], []⟩ w77 (fun K => by subst hx80; kernel_rfl) ?_
          refine WPI.op rfl (Op1.call (by kernel_rfl) (by kernel_rfl) (g_heap_rise_w fuel s37 l36 x80 t81 ht81 _ (St.get H78 1 rfl)) ?_)
          rintro _ w83 ⟨rfl, Hc84⟩
          have H85 := St.call1 H78 1 rfl Hc84
          clear H78 Hc84
          have sf82 := Own.isSl (St.get H85 0 rfl)
          refine WPI.run 0 ⟨#[s1, TNode.val p3, Z, vp b4 0, vn, vi 0, s37, vb false, g9, g10, g11, g12, g13, g14, g15, g16, vb false, s1, vp b4 0, vi p3.Acct, vi t30, vb false, g38, g39, g40, g41, g42, s37, s37, vi (((List.length l36 : Nat) : Int)), vi x80, vi t81.2, Z], []⟩ w83 (fun K => by kernel_rfl) ?_
          refine WPI.done rfl ?_
          refine then_n ?_
          refine WP.seq ?_
          refine WP.region ?_
          refine WPI.run 3 ⟨#[s1, TNode.val p3, Z, vp b4 0, s37, vi 0, s37, vb false, g9, g10, g11, g12, g13, g14, g15, g16, vb false, s1, vp b4 0, vi p3.Acct, vi t30, vb false, g38, g39, g40, g41, g42, s37, s37, vi (((List.length l36 : Nat) : Int)), vi x80, vi t81.2, s37], []⟩ w83 (fun K => by kernel_rfl) ?_
          refine WPI.done rfl ?_
          refine then_n ?_
          refine WP.ret ?_
          obtain rfl := Option.some.inj h
          exact post_r (.tuple #[s37, vi 0]) rfl (by kernel_rfl) ⟨s37, rfl, St.sel H85 [0] (by decide) rfl⟩
      | true =>
        replace h := br_t h
        refine WP.condT (by kernel_rfl) ?_
        refine WP.seq ?_
        refine WP.region ?_
        refine WPI.run 2 ⟨#[s1, TNode.val p3, Z, vp b4 0, vn, vi 4, Z, vb false, g9, g10, g11, g12, g13, g14, g15, g16, vb true, s1, vp b4 0, vi p3.Acct, vi t30, vb true, Z, Z, Z, Z, Z, Z, Z, Z, Z, Z, Z], []⟩ w31 (fun K => by kernel_rfl) ?_
        refine WPI.done rfl ?_
        refine then_n ?_
        refine WP.ret ?_
        obtain rfl := Option.some.inj h
        exact inb_r (then_r (post_r (.tuple #[vn, vi 4]) rfl (by kernel_rfl) ⟨vn, rfl, St.sel (St.nil H33 fTNode 33) [0] (by decide) rfl⟩))
    | true =>
      replace h := br_t h
      refine WP.condT (by kernel_rfl) ?_
      refine WP.seq ?_
      refine WP.region ?_
      refine WPI.run 2 ⟨#[s1, TNode.val p3, Z, vp b4 0, vn, vi 1, Z, vb true, g9, g10, g11, g12, g13, g14, g15, g16, Z, Z, Z, Z, Z, Z, Z, Z, Z, Z, Z, Z, Z, Z, Z, Z, Z], []⟩ w28 (fun K => by kernel_rfl) ?_
      refine WPI.done rfl ?_
      refine then_n ?_
      refine WP.ret ?_
      obtain rfl := Option.some.inj h
      exact inb_r (then_r (post_r (.tuple #[vn, vi 1]) rfl (by kernel_rfl) ⟨vn, rfl, St.sel (St.nil H29 fTNode 33) [0] (by decide) rfl⟩))
/- tarn/tarnlaw13.num -/
def g_tarnlaw13_num (fuel : Nat) (p1 : Int) : Option Int :=
  some p1
theorem g_tarnlaw13_num_w (fuel : Nat) (p1 : Int) (r : Int) (h : g_tarnlaw13_num fuel p1 = some r) (w0 : World) :
    Ret Try.prog 15 #[vi p1] w0 (fun v w' => v = vi r ∧ St no w0 w' []) := by
  unfold g_tarnlaw13_num at h
  refine ret_of_wp Try.func15 rfl #[vi p1, Z, Z, Z] (by kernel_rfl) ?_
  have H0 := St.start w0
  refine WP.seq ?_
  refine WP.region ?_
  refine WPI.run 1 ⟨#[vi p1, Z, vi 0, Z], []⟩ w0 (fun K => by kernel_rfl) ?_
  refine WPI.done rfl ?_
  refine then_n ?_
  refine WP.seq ?_
  refine WP.region ?_
  refine WPI.run 2 ⟨#[vi p1, Z, vi p1, vi p1], []⟩ w0 (fun K => by kernel_rfl) ?_
  refine WPI.done rfl ?_
  refine then_n ?_
  refine WP.ret ?_
  obtain rfl := Option.some.inj h
  exact post_r (vi p1) rfl (by kernel_rfl) ⟨rfl, St.sel H0 [] (by decide) rfl⟩
end Go.Proofs
