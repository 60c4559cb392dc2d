import Derived.Test.YtjcagpcpbfmldaaGw
import Derived.Test.YtjcagpcpbfmldaaProg
import Derived.Test.YtjcagpcpbfmldaaT
import Derived.Test.YtjcagpcpbfmldaaF26
import Derived.Test.YtjcagpcpbfmldaaF30
import Derived.Test.YtjcagpcpbfmldaaF31
import Derived.Test.YtjcagpcpbfmldaaF32
set_option linter.unusedVariables false
set_option linter.unusedSimpArgs false
set_option maxRecDepth 100000
set_option maxHeartbeats 4000000
namespace Go.Proofs
open Gw Go.RowKit
/- tarn/heap.Drop -/
def g_heap_Drop (fuel : Nat) (l2 : List TNode) (p3 : Int) : Option ((List TNode) × Int) :=
  bd (g_heap_Check fuel l2) fun t4 => lt (t4 != 0) fun c8 => br c8 (some ([], 1)) (bd (g_heap_place fuel l2 p3) fun t9 => lt (wr .i64 ((((List.length l2 : Nat) : Int)) - 1)) fun x13 => lt (decide (t9 < 0)) fun c14 => br c14 (some ([], 3)) (gd ((0 : Int) ≤ 0 ∧ 0 ≤ x13 ∧ x13 ≤ ((List.length l2 : Nat) : Int)) <| bd (g_slices_Clone_api_Node_api_Node fuel ((List.take (Int.toNat x13) l2))) fun t17 => jn (fun (l24 : List TNode) => some (l24, 0)) fun K38 => lt (decide (t9 < x13)) fun c39 => br c39 (gd ((0 : Int) ≤ x13 ∧ x13 < ((List.length l2 : Nat) : Int)) <| bd (l2[Int.toNat x13]?) fun x41 => gd ((0 : Int) ≤ t9 ∧ t9 < ((List.length t17 : Nat) : Int)) <| lt (List.set t17 (Int.toNat t9) x41) fun l43 => bd (g_heap_settle fuel l43 t9) fun t46 => K38 t46) (K38 t17)))
theorem g_heap_Drop_w (fuel : Nat) (s1 : Value) (l2 : List TNode) (p3 : Int) (r : (List TNode) × Int) (h : g_heap_Drop fuel l2 p3 = some r) (w0 : World) (hs1 : Rd fTNode (hp no w0) s1 l2) :
    Ret Try.prog 19 #[s1, vi p3] w0 (fun v w' => ∃ q0 : Value, v = .tuple #[q0, vi r.2] ∧ St no w0 w' [Own fTNode 33 q0 r.1]) := by
  unfold g_heap_Drop at h
  refine ret_of_wp Try.func19 rfl #[s1, vi p3, Z, Z, Z, Z, Z, Z, Z, Z, Z, Z, Z, Z, Z, Z, Z, Z, Z, Z, Z, Z, Z, Z, Z, Z, Z, Z, Z, Z, Z, Z, Z, Z, Z, Z, Z, Z] (by kernel_rfl) ?_
  have H0 := St.start w0
  refine WP.seq ?_
  refine WP.region ?_
  refine WPI.run 2 ⟨#[s1, vi p3, Z, Z, vn, vi 0, Z, Z, Z, Z, Z, Z, Z, Z, Z, Z, Z, Z, Z, Z, Z, Z, Z, Z, Z, Z, Z, Z, Z, Z, Z, Z, Z, Z, Z, Z, Z, Z], []⟩ w0 (fun K => by kernel_rfl) ?_
  refine WPI.done rfl ?_
  refine then_n ?_
  refine WP.seq ?_
  refine WP.seq ?_
  refine WP.region ?_
  obtain ⟨t4, ht4, h⟩ := bd_some h
  refine WPI.run 1 ⟨#[s1, vi p3, Z, Z, vn, vi 0, Z, Z, Z, s1, Z, Z, Z, Z, Z, Z, Z, Z, Z, Z, Z, Z, Z, Z, Z, Z, Z, Z, Z, Z, Z, Z, Z, Z, Z, Z, Z, Z], []⟩ w0 (fun K => by kernel_rfl) ?_
  refine WPI.op rfl (Op1.call (by kernel_rfl) (by kernel_rfl) (g_heap_Check_w fuel s1 l2 t4 ht4 _ (Rd.arg0 hs1 H0)) ?_)
  rintro _ w5 ⟨rfl, Hc6⟩
  have H7 := St.call0' H0 Hc6
  clear Hc6
  obtain ⟨c8, hc8, h⟩ := lt_some h
  refine WPI.run 1 ⟨#[s1, vi p3, Z, Z, vn, vi 0, Z, Z, Z, s1, vi t4, vb c8, Z, Z, Z, Z, Z, Z, Z, Z, Z, Z, Z, Z, Z, Z, Z, Z, Z, Z, Z, Z, Z, Z, Z, Z, Z, Z], []⟩ w5 (fun K => by subst hc8; kernel_rfl) ?_
  refine WPI.done rfl ?_
  refine then_n ?_
  cases c8 with
  | false =>
    replace h := br_f h
    refine WP.condF (by kernel_rfl) ?_
    refine WP.skip ?_
    refine then_n ?_
    refine WP.seq ?_
    refine WP.region ?_
    obtain ⟨t9, ht9, h⟩ := bd_some h
    refine WPI.run 2 ⟨#[s1, vi p3, Z, Z, vn, vi 0, Z, Z, Z, s1, vi t4, vb false, s1, vi p3, Z, Z, Z, Z, Z, Z, Z, Z, Z, Z, Z, Z, Z, Z, Z, Z, Z, Z, Z, Z, Z, Z, Z, Z], []⟩ w5 (fun K => by kernel_rfl) ?_
    refine WPI.op rfl (Op1.call (by kernel_rfl) (by kernel_rfl) (g_heap_place_w fuel s1 l2 p3 t9 ht9 _ (Rd.arg0 hs1 H7)) ?_)
    rintro _ w10 ⟨rfl, Hc11⟩
    have H12 := St.call0' H7 Hc11
    clear H7 Hc11
    refine WPI.run 1 ⟨#[s1, vi p3, Z, Z, vn, vi 0, Z, Z, Z, s1, vi t4, vb false, s1, vi p3, vi t9, s1, Z, Z, Z, Z, Z, Z, Z, Z, Z, Z, Z, Z, Z, Z, Z, Z, Z, Z, Z, Z, Z, Z], []⟩ w10 (fun K => by kernel_rfl) ?_
    refine WPI.value (v := vi (((List.length l2 : Nat) : Int))) rfl (by kernel_rfl) (ev_len (Rd.sl hs1) 22 (.tmp 15) 33 6 48 rfl (by kernel_rfl) (by kernel_rfl)) ?_
    obtain ⟨x13, hx13, h⟩ := lt_some h
    refine WPI.run 3 ⟨#[s1, vi p3, Z, Z, vn, vi 0, vi t9, vi x13, Z, s1, vi t4, vb false, s1, vi p3, vi t9, s1, vi (((List.length l2 : Nat) : Int)), vi x13, Z, Z, Z, Z, Z, Z, Z, Z, Z, Z, Z, Z, Z, Z, Z, Z, Z, Z, Z, Z], []⟩ w10 (fun K => by subst hx13; kernel_rfl) ?_
    refine WPI.done rfl ?_
    refine then_n ?_
    refine WP.seq ?_
    refine WP.seq ?_
    refine WP.region ?_
    obtain ⟨c14, hc14, h⟩ := lt_some h
    refine WPI.run 2 ⟨#[s1, vi p3, Z, Z, vn, vi 0, vi t9, vi x13, Z, s1, vi t4, vb false, s1, vi p3, vi t9, s1, vi (((List.length l2 : Nat) : Int)), vi x13, vi t9, vb c14, Z, Z, Z, Z, Z, Z, Z, Z, Z, Z, Z, Z, Z, Z, Z, Z, Z, Z], []⟩ w10 (fun K => by subst hc14; kernel_rfl) ?_
    refine WPI.done rfl ?_
    refine then_n ?_
    cases c14 with
    | false =>
      replace h := br_f h
      refine WP.condF (by kernel_rfl) ?_
      refine WP.skip ?_
      refine then_n ?_
      refine WP.seq ?_
      refine WP.region ?_
      obtain ⟨hg15, h⟩ := gd_some h
      have hs16 := Rd.sub (lo := Int.toNat 0) (hi := Int.toNat x13) hs1 (piece_lo hg15) (piece_hi hg15)
      refine WPI.run 2 ⟨#[s1, vi p3, Z, Z, vn, vi 0, vi t9, vi x13, Z, s1, vi t4, vb false, s1, vi p3, vi t9, s1, vi (((List.length l2 : Nat) : Int)), vi x13, vi t9, vb false, s1, vi x13, Z, Z, Z, Z, Z, Z, Z, Z, Z, Z, Z, Z, Z, Z, Z, Z], []⟩ w10 (fun K => by kernel_rfl) ?_
      refine WPI.value (v := (slSub s1 6 0 (Int.toNat x13))) rfl (by kernel_rfl) (ev_slice (Rd.sl hs1) 22 (.tmp 20) none (some (.tmp 21)) 33 6 48 0 x13 rfl (by kernel_rfl) (by kernel_rfl) (.inl ⟨rfl, rfl⟩) (.inr ⟨(.tmp 21), .i64, rfl, by kernel_rfl⟩) hg15) ?_
      obtain ⟨t17, ht17, h⟩ := bd_some h
      refine WPI.run 0 ⟨#[s1, vi p3, Z, Z, vn, vi 0, vi t9, vi x13, Z, s1, vi t4, vb false, s1, vi p3, vi t9, s1, vi (((List.length l2 : Nat) : Int)), vi x13, vi t9, vb false, s1, vi x13, (slSub s1 6 0 (Int.toNat x13)), Z, Z, Z, Z, Z, Z, Z, Z, Z, Z, Z, Z, Z, Z, Z], []⟩ w10 (fun K => by kernel_rfl) ?_
      refine WPI.op rfl (Op1.call (by kernel_rfl) (by kernel_rfl) (g_slices_Clone_api_Node_api_Node_w fuel (slSub s1 6 0 (Int.toNat x13)) ((List.take (Int.toNat x13) l2)) t17 ht17 _ (Rd.arg0 hs16 H12)) ?_)
      rintro s18 w21 ⟨_, rfl, Hc22⟩
      have H23 := St.call0 H12 Hc22
      clear H12 Hc22
      have sf20 := Own.isSl (St.get H23 0 rfl)
      refine WPI.run 1 ⟨#[s1, vi p3, Z, Z, vn, vi 0, vi t9, vi x13, s18, s1, vi t4, vb false, s1, vi p3, vi t9, s1, vi (((List.length l2 : Nat) : Int)), vi x13, vi t9, vb false, s1, vi x13, (slSub s1 6 0 (Int.toNat x13)), s18, Z, Z, Z, Z, Z, Z, Z, Z, Z, Z, Z, Z, Z, Z], []⟩ w21 (fun K => by kernel_rfl) ?_
      refine WPI.done rfl ?_
      refine then_n ?_
      obtain ⟨K38, hK38, h⟩ := jn_some h
      refine WP.seqJ (fun a w => ∃ (l24 : List TNode) (g25 g26 g27 g28 g29 g30 g31 g32 g33 g34 g35 g36 g37 : Value), a = ⟨#[s1, vi p3, Z, Z, vn, vi 0, vi t9, vi x13, s18, s1, vi t4, vb false, s1, vi p3, vi t9, s1, vi (((List.length l2 : Nat) : Int)), vi x13, vi t9, vb false, s1, vi x13, (slSub s1 6 0 (Int.toNat x13)), s18, g25, g26, g27, g28, g29, g30, g31, g32, g33, g34, g35, g36, g37, Z], []⟩ ∧ St no w0 w [Own fTNode 33 s18 l24] ∧ K38 l24 = some r) ?_ ?_
      · skip
        refine WP.seq ?_
        refine WP.region ?_
        obtain ⟨c39, hc39, h⟩ := lt_some h
        refine WPI.run 3 ⟨#[s1, vi p3, Z, Z, vn, vi 0, vi t9, vi x13, s18, s1, vi t4, vb false, s1, vi p3, vi t9, s1, vi (((List.length l2 : Nat) : Int)), vi x13, vi t9, vb false, s1, vi x13, (slSub s1 6 0 (Int.toNat x13)), s18, vi t9, vi x13, vb c39, Z, Z, Z, Z, Z, Z, Z, Z, Z, Z, Z], []⟩ w21 (fun K => by subst hc39; kernel_rfl) ?_
        refine WPI.done rfl ?_
        refine then_n ?_
        cases c39 with
        | false =>
          replace h := br_f h
          refine WP.condF (by kernel_rfl) ?_
          refine WP.skip ?_
          exact then_n ⟨t17, _, _, _, _, _, _, _, _, _, _, _, _, _, rfl, St.sel H23 [0] (by decide) rfl, h⟩
        | true =>
          replace h := br_t h
          refine WP.condT (by kernel_rfl) ?_
          refine WP.seq ?_
          refine WP.region ?_
          obtain ⟨hg40, h⟩ := gd_some h
          refine WPI.run 4 ⟨#[s1, vi p3, Z, Z, vn, vi 0, vi t9, vi x13, s18, s1, vi t4, vb false, s1, vi p3, vi t9, s1, vi (((List.length l2 : Nat) : Int)), vi x13, vi t9, vb false, s1, vi x13, (slSub s1 6 0 (Int.toNat x13)), s18, vi t9, vi x13, vb true, s18, vi t9, s1, vi x13, Z, Z, Z, Z, Z, Z, Z], []⟩ w21 (fun K => by kernel_rfl) ?_
          refine WPI.value (v := va (slAt s1 6 (Int.toNat x13))) rfl (by kernel_rfl) (ev_index (Rd.sl hs1) 22 (.tmp 29) (.tmp 30) 33 6 48 .i64 x13 rfl (by kernel_rfl) (by kernel_rfl) (by kernel_rfl) hg40) ?_
          obtain ⟨x41, hx41, h⟩ := bd_some h
          refine WPI.run 0 ⟨#[s1, vi p3, Z, Z, vn, vi 0, vi t9, vi x13, s18, s1, vi t4, vb false, s1, vi p3, vi t9, s1, vi (((List.length l2 : Nat) : Int)), vi x13, vi t9, vb false, s1, vi x13, (slSub s1 6 0 (Int.toNat x13)), s18, vi t9, vi x13, vb true, s18, vi t9, s1, vi x13, va (slAt s1 6 (Int.toNat x13)), Z, Z, Z, Z, Z, Z], []⟩ w21 (fun K => by kernel_rfl) ?_
          refine WPI.value (v := TNode.val x41) rfl (by kernel_rfl) (ev_loadEl (F := fTNode) hs1 (St.hp_le H23) hx41 33 (.tmp 31) 0 (TNode.val x41) rfl (by kernel_rfl) (by kernel_rfl)) ?_
          obtain ⟨hg42, h⟩ := gd_some h
          refine WPI.run 0 ⟨#[s1, vi p3, Z, Z, vn, vi 0, vi t9, vi x13, s18, s1, vi t4, vb false, s1, vi p3, vi t9, s1, vi (((List.length l2 : Nat) : Int)), vi x13, vi t9, vb false, s1, vi x13, (slSub s1 6 0 (Int.toNat x13)), s18, vi t9, vi x13, vb true, s18, vi t9, s1, vi x13, va (slAt s1 6 (Int.toNat x13)), TNode.val x41, Z, Z, Z, Z, Z], []⟩ w21 (fun K => by kernel_rfl) ?_
          refine WPI.value (v := va (slAt s18 6 (Int.toNat t9))) rfl (by kernel_rfl) (ev_index sf20 22 (.tmp 27) (.tmp 28) 33 6 48 .i64 t9 rfl (by kernel_rfl) (by kernel_rfl) (by kernel_rfl) hg42) ?_
          obtain ⟨l43, hl43, h⟩ := lt_some h
          refine WPI.run 0 ⟨#[s1, vi p3, Z, Z, vn, vi 0, vi t9, vi x13, s18, s1, vi t4, vb false, s1, vi p3, vi t9, s1, vi (((List.length l2 : Nat) : Int)), vi x13, vi t9, vb false, s1, vi x13, (slSub s1 6 0 (Int.toNat x13)), s18, vi t9, vi x13, vb true, s18, vi t9, s1, vi x13, va (slAt s1 6 (Int.toNat x13)), TNode.val x41, va (slAt s18 6 (Int.toNat t9)), Z, Z, Z, Z], []⟩ w21 (fun K => by kernel_rfl) ?_
          refine WPI.op rfl (Op1.storeOwn H23 0 rfl (by kernel_rfl) 33 (.tmp 33) (.tmp 32) (Int.toNat t9) x41 true rfl (by kernel_rfl) (by kernel_rfl) (by kernel_rfl) (idx_lt hg42) (fun w44 H45 => ?_))
          rw [← hl43] at H45
          clear H23
          refine WPI.run 0 ⟨#[s1, vi p3, Z, Z, vn, vi 0, vi t9, vi x13, s18, s1, vi t4, vb false, s1, vi p3, vi t9, s1, vi (((List.length l2 : Nat) : Int)), vi x13, vi t9, vb false, s1, vi x13, (slSub s1 6 0 (Int.toNat x13)), s18, vi t9, vi x13, vb true, s18, vi t9, s1, vi x13, va (slAt s1 6 (Int.toNat x13)), TNode.val x41, va (slAt s18 6 (Int.toNat t9)), Z, Z, Z, Z], []⟩ w44 (fun K => by kernel_rfl) ?_
          refine WPI.done rfl ?_
          refine then_n ?_
          refine WP.region ?_
          obtain ⟨t46, ht46, h⟩ := bd_some h
          refine WPI.run 2 ⟨#[s1, vi p3, Z, Z, vn, vi 0, vi t9, vi x13, s18, s1, vi t4, vb false, s1, vi p3, vi t9, s1, vi (((List.length l2 : Nat) : Int)), vi x13, vi t9, vb false, s1, vi x13, (slSub s1 6 0 (Int.toNat x13)), s18, vi t9, vi x13, vb true, s18, vi t9, s1, vi x13, va (slAt s1 6 (Int.toNat x13)), TNode.val x41, va (slAt s18 6 (Int.toNat t9)), s18, vi t9, Z, Z], []⟩ w44 (fun K => by kernel_rfl) ?_
          refine WPI.op rfl (Op1.call (by kernel_rfl) (by kernel_rfl) (g_heap_settle_w fuel s18 l43 t9 t46 ht46 _ (St.get H45 0 rfl)) ?_)
          rintro _ w48 ⟨rfl, Hc49⟩
          have H50 := St.call1 H45 0 rfl Hc49
          clear H45 Hc49
          have sf47 := Own.isSl (St.get H50 0 rfl)
          refine WPI.run 0 ⟨#[s1, vi p3, Z, Z, vn, vi 0, vi t9, vi x13, s18, s1, vi t4, vb false, s1, vi p3, vi t9, s1, vi (((List.length l2 : Nat) : Int)), vi x13, vi t9, vb false, s1, vi x13, (slSub s1 6 0 (Int.toNat x13)), s18, vi t9, vi x13, vb true, s18, vi t9, s1, vi x13, va (slAt s1 6 (Int.toNat x13)), TNode.val x41, va (slAt s18 6 (Int.toNat t9)), s18, vi t9, .tuple #[], Z], []⟩ w48 (fun K => by kernel_rfl) ?_
          refine WPI.done rfl ?_
          exact then_n ⟨t46, _, _, _, _, _, _, _, _, _, _, _, _, _, rfl, St.sel H50 [0] (by decide) rfl, h⟩
      · rintro a w ⟨l24, g25, g26, g27, g28, g29, g30, g31, g32, g33, g34, g35, g36, g37, rfl, H, h⟩
        subst hK38
        obtain ⟨w51, rfl⟩ : ∃ x, x = w := ⟨_, rfl⟩
        have H52 := H; clear H
        have sf53 := Own.isSl (St.get H52 0 rfl)
        refine WP.seq ?_
        refine WP.region ?_
        refine WPI.run 3 ⟨#[s1, vi p3, Z, Z, s18, vi 0, vi t9, vi x13, s18, s1, vi t4, vb false, s1, vi p3, vi t9, s1, vi (((List.length l2 : Nat) : Int)), vi x13, vi t9, vb false, s1, vi x13, (slSub s1 6 0 (Int.toNat x13)), s18, g25, g26, g27, g28, g29, g30, g31, g32, g33, g34, g35, g36, g37, s18], []⟩ w51 (fun K => by kernel_rfl) ?_
        refine WPI.done rfl ?_
        refine then_n ?_
        refine WP.ret ?_
        obtain rfl := Option.some.inj h
        exact post_r (.tuple #[s18, vi 0]) rfl (by kernel_rfl) ⟨s18, rfl, St.sel H52 [0] (by decide) rfl⟩
    | true =>
      replace h := br_t h
      refine WP.condT (by kernel_rfl) ?_
      refine WP.seq ?_
      refine WP.region ?_
      refine WPI.run 2 ⟨#[s1, vi p3, Z, Z, vn, vi 3, vi t9, vi x13, Z, s1, vi t4, vb false, s1, vi p3, vi t9, s1, vi (((List.length l2 : Nat) : Int)), vi x13, vi t9, vb true, Z, Z, Z, Z, Z, Z, Z, Z, Z, Z, Z, Z, Z, Z, Z, Z, Z, Z], []⟩ w10 (fun K => by kernel_rfl) ?_
      refine WPI.done rfl ?_
      refine then_n ?_
      refine WP.ret ?_
      obtain rfl := Option.some.inj h
      exact then_r (post_r (.tuple #[vn, vi 3]) rfl (by kernel_rfl) ⟨vn, rfl, St.sel (St.nil H12 fTNode 33) [0] (by decide) rfl⟩)
  | true =>
    replace h := br_t h
    refine WP.condT (by kernel_rfl) ?_
    refine WP.seq ?_
    refine WP.region ?_
    refine WPI.run 2 ⟨#[s1, vi p3, Z, Z, vn, vi 1, Z, Z, Z, s1, vi t4, vb true, Z, Z, Z, Z, Z, Z, Z, Z, Z, Z, Z, Z, Z, Z, Z, Z, Z, Z, Z, Z, Z, Z, Z, Z, Z, Z], []⟩ w5 (fun K => by kernel_rfl) ?_
    refine WPI.done rfl ?_
    refine then_n ?_
    refine WP.ret ?_
    obtain rfl := Option.some.inj h
    exact then_r (post_r (.tuple #[vn, vi 1]) rfl (by kernel_rfl) ⟨vn, rfl, St.sel (St.nil H7 fTNode 33) [0] (by decide) rfl⟩)
end Go.Proofs
