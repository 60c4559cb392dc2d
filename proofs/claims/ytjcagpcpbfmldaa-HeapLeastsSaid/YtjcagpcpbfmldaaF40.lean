import Derived.Test.YtjcagpcpbfmldaaGw
import Derived.Test.YtjcagpcpbfmldaaProg
import Derived.Test.YtjcagpcpbfmldaaT
import Derived.Test.YtjcagpcpbfmldaaF29
import Derived.Test.YtjcagpcpbfmldaaF25
import Derived.Test.YtjcagpcpbfmldaaF53
set_option linter.unusedVariables false
set_option linter.unusedSimpArgs false
set_option maxRecDepth 100000
set_option maxHeartbeats 4000000
namespace Go.Proofs
open Gw Go.RowKit
/- tarn/tarnref12.Drop -/
def g_tarnref12_Drop (fuel : Nat) (l2 : List TNode) (p3 : Int) : Option ((List TNode) × Int) :=
  bd (g_tarnref12_Find fuel l2 p3) fun t4 => lt (decide (t4 < 0)) fun c8 => br c8 (some ([], 3)) (bd (g_tarnref0_CopyNodes fuel l2) fun t9 => lt (wr .i64 ((((List.length t9 : Nat) : Int)) - 1)) fun x16 => gd ((0 : Int) ≤ x16 ∧ x16 < ((List.length t9 : Nat) : Int)) <| bd (t9[Int.toNat x16]?) fun x18 => gd ((0 : Int) ≤ t4 ∧ t4 < ((List.length t9 : Nat) : Int)) <| lt (List.set t9 (Int.toNat t4) x18) fun l20 => lt (wr .i64 ((((List.length t9 : Nat) : Int)) - 1)) fun x23 => gd ((0 : Int) ≤ 0 ∧ 0 ≤ x23 ∧ x23 ≤ ((List.length t9 : Nat) : Int)) <| lt (List.take (Int.toNat x23) l20) fun l26 => bd (g_tarnref12_moves fuel l26 t4) fun t28 => some (t28, 0))
theorem g_tarnref12_Drop_w (fuel : Nat) (s1 : Value) (l2 : List TNode) (p3 : Int) (r : (List TNode) × Int) (h : g_tarnref12_Drop fuel l2 p3 = some r) (w0 : World) (hs1 : Rd fTNode (hp no w0) s1 l2) :
    Ret Try.prog 40 #[s1, vi p3] w0 (fun v w' => ∃ q0 : Value, v = .tuple #[q0, vi r.2] ∧ St no w0 w' [Own fTNode 33 q0 r.1]) := by
  unfold g_tarnref12_Drop at h
  refine ret_of_wp Try.func40 rfl #[s1, vi p3, Z, Z, Z, Z, Z, Z, Z, Z, Z, Z, Z, Z, Z, Z, Z, Z, Z, Z, Z, Z, Z, Z, Z, Z, Z, Z, Z, Z, Z, Z, Z] (by kernel_rfl) ?_
  have H0 := St.start w0
  refine WP.seq ?_
  refine WP.region ?_
  refine WPI.run 2 ⟨#[s1, vi p3, Z, Z, vn, vi 0, Z, Z, Z, Z, Z, Z, Z, Z, Z, Z, Z, Z, Z, Z, Z, Z, Z, Z, Z, Z, Z, Z, Z, Z, Z, Z, Z], []⟩ w0 (fun K => by kernel_rfl) ?_
  refine WPI.done rfl ?_
  refine then_n ?_
  refine WP.seq ?_
  refine WP.region ?_
  obtain ⟨t4, ht4, h⟩ := bd_some h
  refine WPI.run 2 ⟨#[s1, vi p3, Z, Z, vn, vi 0, Z, Z, s1, vi p3, Z, Z, Z, Z, Z, Z, Z, Z, Z, Z, Z, Z, Z, Z, Z, Z, Z, Z, Z, Z, Z, Z, Z], []⟩ w0 (fun K => by kernel_rfl) ?_
  refine WPI.op rfl (Op1.call (by kernel_rfl) (by kernel_rfl) (g_tarnref12_Find_w fuel s1 l2 p3 t4 ht4 _ (Rd.arg0 hs1 H0)) ?_)
  rintro _ w5 ⟨rfl, Hc6⟩
  have H7 := St.call0' H0 Hc6
  clear Hc6
  refine WPI.run 1 ⟨#[s1, vi p3, Z, Z, vn, vi 0, vi t4, Z, s1, vi p3, vi t4, Z, Z, Z, Z, Z, Z, Z, Z, Z, Z, Z, Z, Z, Z, Z, Z, Z, Z, Z, Z, Z, Z], []⟩ w5 (fun K => by kernel_rfl) ?_
  refine WPI.done rfl ?_
  refine then_n ?_
  refine WP.seq ?_
  refine WP.seq ?_
  refine WP.region ?_
  obtain ⟨c8, hc8, h⟩ := lt_some h
  refine WPI.run 2 ⟨#[s1, vi p3, Z, Z, vn, vi 0, vi t4, Z, s1, vi p3, vi t4, vi t4, vb c8, Z, Z, Z, Z, Z, Z, Z, Z, Z, Z, Z, Z, Z, Z, Z, Z, Z, Z, Z, Z], []⟩ w5 (fun K => by subst hc8; kernel_rfl) ?_
  refine WPI.done rfl ?_
  refine then_n ?_
  cases c8 with
  | false =>
    replace h := br_f h
    refine WP.condF (by kernel_rfl) ?_
    refine WP.skip ?_
    refine then_n ?_
    refine WP.seq ?_
    refine WP.region ?_
    obtain ⟨t9, ht9, h⟩ := bd_some h
    refine WPI.run 1 ⟨#[s1, vi p3, Z, Z, vn, vi 0, vi t4, Z, s1, vi p3, vi t4, vi t4, vb false, s1, Z, Z, Z, Z, Z, Z, Z, Z, Z, Z, Z, Z, Z, Z, Z, Z, Z, Z, Z], []⟩ w5 (fun K => by kernel_rfl) ?_
    refine WPI.op rfl (Op1.call (by kernel_rfl) (by kernel_rfl) (g_tarnref0_CopyNodes_w fuel s1 l2 t9 ht9 _ (Rd.arg0 hs1 H7)) ?_)
    rintro s10 w13 ⟨_, rfl, Hc14⟩
    have H15 := St.call0 H7 Hc14
    clear H7 Hc14
    have sf12 := Own.isSl (St.get H15 0 rfl)
    refine WPI.run 1 ⟨#[s1, vi p3, Z, Z, vn, vi 0, vi t4, s10, s1, vi p3, vi t4, vi t4, vb false, s1, s10, Z, Z, Z, Z, Z, Z, Z, Z, Z, Z, Z, Z, Z, Z, Z, Z, Z, Z], []⟩ w13 (fun K => by kernel_rfl) ?_
    refine WPI.done rfl ?_
    refine then_n ?_
    refine WP.seq ?_
    refine WP.region ?_
    refine WPI.run 4 ⟨#[s1, vi p3, Z, Z, vn, vi 0, vi t4, s10, s1, vi p3, vi t4, vi t4, vb false, s1, s10, s10, vi t4, s10, s10, Z, Z, Z, Z, Z, Z, Z, Z, Z, Z, Z, Z, Z, Z], []⟩ w13 (fun K => by kernel_rfl) ?_
    refine WPI.value (v := vi (((List.length t9 : Nat) : Int))) rfl (by kernel_rfl) (ev_len sf12 22 (.tmp 18) 33 6 48 rfl (by kernel_rfl) (by kernel_rfl)) ?_
    obtain ⟨x16, hx16, h⟩ := lt_some h
    obtain ⟨hg17, h⟩ := gd_some h
    refine WPI.run 1 ⟨#[s1, vi p3, Z, Z, vn, vi 0, vi t4, s10, s1, vi p3, vi t4, vi t4, vb false, s1, s10, s10, vi t4, s10, s10, vi (((List.length t9 : Nat) : Int)), vi x16, Z, Z, Z, Z, Z, Z, Z, Z, Z, Z, Z, Z], []⟩ w13 (fun K => by subst hx16; kernel_rfl) ?_
    refine WPI.value (v := va (slAt s10 6 (Int.toNat x16))) rfl (by kernel_rfl) (ev_index sf12 22 (.tmp 17) (.tmp 20) 33 6 48 .i64 x16 rfl (by kernel_rfl) (by kernel_rfl) (by kernel_rfl) hg17) ?_
    obtain ⟨x18, hx18, h⟩ := bd_some h
    refine WPI.run 0 ⟨#[s1, vi p3, Z, Z, vn, vi 0, vi t4, s10, s1, vi p3, vi t4, vi t4, vb false, s1, s10, s10, vi t4, s10, s10, vi (((List.length t9 : Nat) : Int)), vi x16, va (slAt s10 6 (Int.toNat x16)), Z, Z, Z, Z, Z, Z, Z, Z, Z, Z, Z], []⟩ w13 (fun K => by kernel_rfl) ?_
    refine WPI.value (v := TNode.val x18) rfl (by kernel_rfl) (ev_loadEl (F := fTNode) (St.rd H15 0 rfl) (hp_no_le _) hx18 33 (.tmp 21) 0 (TNode.val x18) rfl (by kernel_rfl) (by kernel_rfl)) ?_
    obtain ⟨hg19, h⟩ := gd_some h
    refine WPI.run 0 ⟨#[s1, vi p3, Z, Z, vn, vi 0, vi t4, s10, s1, vi p3, vi t4, vi t4, vb false, s1, s10, s10, vi t4, s10, s10, vi (((List.length t9 : Nat) : Int)), vi x16, va (slAt s10 6 (Int.toNat x16)), TNode.val x18, Z, Z, Z, Z, Z, Z, Z, Z, Z, Z], []⟩ w13 (fun K => by kernel_rfl) ?_
    refine WPI.value (v := va (slAt s10 6 (Int.toNat t4))) rfl (by kernel_rfl) (ev_index sf12 22 (.tmp 15) (.tmp 16) 33 6 48 .i64 t4 rfl (by kernel_rfl) (by kernel_rfl) (by kernel_rfl) hg19) ?_
    obtain ⟨l20, hl20, h⟩ := lt_some h
    refine WPI.run 0 ⟨#[s1, vi p3, Z, Z, vn, vi 0, vi t4, s10, s1, vi p3, vi t4, vi t4, vb false, s1, s10, s10, vi t4, s10, s10, vi (((List.length t9 : Nat) : Int)), vi x16, va (slAt s10 6 (Int.toNat x16)), TNode.val x18, va (slAt s10 6 (Int.toNat t4)), Z, Z, Z, Z, Z, Z, Z, Z, Z], []⟩ w13 (fun K => by kernel_rfl) ?_
    refine WPI.op rfl (Op1.storeOwn H15 0 rfl (by kernel_rfl) 33 (.tmp 23) (.tmp 22) (Int.toNat t4) x18 true rfl (by kernel_rfl) (by kernel_rfl) (by kernel_rfl) (idx_lt hg19) (fun w21 H22 => ?_))
    rw [← hl20] at H22
    clear H15
    refine WPI.run 0 ⟨#[s1, vi p3, Z, Z, vn, vi 0, vi t4, s10, s1, vi p3, vi t4, vi t4, vb false, s1, s10, s10, vi t4, s10, s10, vi (((List.length t9 : Nat) : Int)), vi x16, va (slAt s10 6 (Int.toNat x16)), TNode.val x18, va (slAt s10 6 (Int.toNat t4)), Z, Z, Z, Z, Z, Z, Z, Z, Z], []⟩ w21 (fun K => by kernel_rfl) ?_
    refine WPI.done rfl ?_
    refine then_n ?_
    refine WP.seq ?_
    refine WP.region ?_
    refine WPI.run 2 ⟨#[s1, vi p3, Z, Z, vn, vi 0, vi t4, s10, s1, vi p3, vi t4, vi t4, vb false, s1, s10, s10, vi t4, s10, s10, vi (((List.length t9 : Nat) : Int)), vi x16, va (slAt s10 6 (Int.toNat x16)), TNode.val x18, va (slAt s10 6 (Int.toNat t4)), s10, s10, Z, Z, Z, Z, Z, Z, Z], []⟩ w21 (fun K => by kernel_rfl) ?_
    refine WPI.value (v := vi (((List.length t9 : Nat) : Int))) rfl (by kernel_rfl) (ev_len sf12 22 (.tmp 25) 33 6 48 rfl (by kernel_rfl) (by kernel_rfl)) ?_
    obtain ⟨x23, hx23, h⟩ := lt_some h
    obtain ⟨hg24, h⟩ := gd_some h
    refine WPI.run 1 ⟨#[s1, vi p3, Z, Z, vn, vi 0, vi t4, s10, s1, vi p3, vi t4, vi t4, vb false, s1, s10, s10, vi t4, s10, s10, vi (((List.length t9 : Nat) : Int)), vi x16, va (slAt s10 6 (Int.toNat x16)), TNode.val x18, va (slAt s10 6 (Int.toNat t4)), s10, s10, vi (((List.length t9 : Nat) : Int)), vi x23, Z, Z, Z, Z, Z], []⟩ w21 (fun K => by subst hx23; kernel_rfl) ?_
    refine WPI.value (v := (slSub s10 6 0 (Int.toNat x23))) rfl (by kernel_rfl) (ev_slice sf12 22 (.tmp 24) none (some (.tmp 27)) 33 6 48 0 x23 rfl (by kernel_rfl) (by kernel_rfl) (.inl ⟨rfl, rfl⟩) (.inr ⟨(.tmp 27), .i64, rfl, by kernel_rfl⟩) hg24) ?_
    refine WPI.run 1 ⟨#[s1, vi p3, Z, Z, vn, vi 0, vi t4, (slSub s10 6 0 (Int.toNat x23)), s1, vi p3, vi t4, vi t4, vb false, s1, s10, s10, vi t4, s10, s10, vi (((List.length t9 : Nat) : Int)), vi x16, va (slAt s10 6 (Int.toNat x16)), TNode.val x18, va (slAt s10 6 (Int.toNat t4)), s10, s10, vi (((List.length t9 : Nat) : Int)), vi x23, (slSub s10 6 0 (Int.toNat x23)), Z, Z, Z, Z], []⟩ w21 (fun K => by kernel_rfl) ?_
    refine WPI.done rfl ?_
    refine then_n ?_
    refine WP.seq ?_
    refine WP.region ?_
    obtain ⟨l26, hl26, h⟩ := lt_some h
    have H25 := St.cut H22 0 rfl (Int.toNat x23) (by simp only [hl20, List.length_set]; exact piece_hi hg24)
    rw [← hl26] at H25
    have sf27 := Own.isSl (St.get H25 0 rfl)
    obtain ⟨t28, ht28, h⟩ := bd_some h
    refine WPI.run 2 ⟨#[s1, vi p3, Z, Z, vn, vi 0, vi t4, (slSub s10 6 0 (Int.toNat x23)), s1, vi p3, vi t4, vi t4, vb false, s1, s10, s10, vi t4, s10, s10, vi (((List.length t9 : Nat) : Int)), vi x16, va (slAt s10 6 (Int.toNat x16)), TNode.val x18, va (slAt s10 6 (Int.toNat t4)), s10, s10, vi (((List.length t9 : Nat) : Int)), vi x23, (slSub s10 6 0 (Int.toNat x23)), (slSub s10 6 0 (Int.toNat x23)), vi t4, Z, Z], []⟩ w21 (fun K => by kernel_rfl) ?_
    refine WPI.op rfl (Op1.call (by kernel_rfl) (by kernel_rfl) (g_tarnref12_moves_w fuel (slSub s10 6 0 (Int.toNat x23)) l26 t4 t28 ht28 _ (St.get H25 0 rfl)) ?_)
    rintro _ w30 ⟨rfl, Hc31⟩
    have H32 := St.call1 H25 0 rfl Hc31
    clear H25 Hc31
    have sf29 := Own.isSl (St.get H32 0 rfl)
    refine WPI.run 0 ⟨#[s1, vi p3, Z, Z, vn, vi 0, vi t4, (slSub s10 6 0 (Int.toNat x23)), s1, vi p3, vi t4, vi t4, vb false, s1, s10, s10, vi t4, s10, s10, vi (((List.length t9 : Nat) : Int)), vi x16, va (slAt s10 6 (Int.toNat x16)), TNode.val x18, va (slAt s10 6 (Int.toNat t4)), s10, s10, vi (((List.length t9 : Nat) : Int)), vi x23, (slSub s10 6 0 (Int.toNat x23)), (slSub s10 6 0 (Int.toNat x23)), vi t4, .tuple #[], Z], []⟩ w30 (fun K => by kernel_rfl) ?_
    refine WPI.done rfl ?_
    refine then_n ?_
    refine WP.seq ?_
    refine WP.region ?_
    refine WPI.run 3 ⟨#[s1, vi p3, Z, Z, (slSub s10 6 0 (Int.toNat x23)), vi 0, vi t4, (slSub s10 6 0 (Int.toNat x23)), s1, vi p3, vi t4, vi t4, vb false, s1, s10, s10, vi t4, s10, s10, vi (((List.length t9 : Nat) : Int)), vi x16, va (slAt s10 6 (Int.toNat x16)), TNode.val x18, va (slAt s10 6 (Int.toNat t4)), s10, s10, vi (((List.length t9 : Nat) : Int)), vi x23, (slSub s10 6 0 (Int.toNat x23)), (slSub s10 6 0 (Int.toNat x23)), vi t4, .tuple #[], (slSub s10 6 0 (Int.toNat x23))], []⟩ w30 (fun K => by kernel_rfl) ?_
    refine WPI.done rfl ?_
    refine then_n ?_
    refine WP.ret ?_
    obtain rfl := Option.some.inj h
    exact post_r (.tuple #[(slSub s10 6 0 (Int.toNat x23)), vi 0]) rfl (by kernel_rfl) ⟨(slSub s10 6 0 (Int.toNat x23)), rfl, St.sel H32 [0] (by decide) rfl⟩
  | true =>
    replace h := br_t h
    refine WP.condT (by kernel_rfl) ?_
    refine WP.seq ?_
    refine WP.region ?_
    refine WPI.run 2 ⟨#[s1, vi p3, Z, Z, vn, vi 3, vi t4, Z, s1, vi p3, vi t4, vi t4, vb true, Z, Z, Z, Z, Z, Z, Z, Z, Z, Z, Z, Z, Z, Z, Z, Z, Z, Z, Z, Z], []⟩ w5 (fun K => by kernel_rfl) ?_
    refine WPI.done rfl ?_
    refine then_n ?_
    refine WP.ret ?_
    obtain rfl := Option.some.inj h
    exact then_r (post_r (.tuple #[vn, vi 3]) rfl (by kernel_rfl) ⟨vn, rfl, St.sel (St.nil H7 fTNode 33) [0] (by decide) rfl⟩)
end Go.Proofs
