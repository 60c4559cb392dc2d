import Derived.Test.YtjcagpcpbfmldaaGw
import Derived.Test.YtjcagpcpbfmldaaProg
import Derived.Test.YtjcagpcpbfmldaaT
set_option linter.unusedVariables false
set_option linter.unusedSimpArgs false
set_option maxRecDepth 100000
set_option maxHeartbeats 4000000
namespace Go.Proofs
open Gw Go.RowKit
/- slices.IndexFunc[[]tarn/api.Node,tarn/api.Node] -/
def g_slices_IndexFunc_api_Node_api_Node_l1 (l2 : List TNode) (q4 : TNode → Option Bool) (K19 : Option Int) (fuel : Nat) : Nat → Int → Option Int
  | 0, _ => none
  | n + 1, x22 => lt (decide (x22 < (((List.length l2 : Nat) : Int)))) fun c35 => br c35 (gd ((0 : Int) ≤ x22 ∧ x22 < ((List.length l2 : Nat) : Int)) <| bd (l2[Int.toNat x22]?) fun x37 => bd (q4 x37) fun t38 => br t38 (some x22) (lt (wr .i64 (x22 + 1)) fun x42 => g_slices_IndexFunc_api_Node_api_Node_l1 l2 q4 K19 fuel n x42)) (K19)
def g_slices_IndexFunc_api_Node_api_Node (fuel : Nat) (l2 : List TNode) (q4 : TNode → Option Bool) : Option Int :=
  jn (some ((-1))) fun K19 => g_slices_IndexFunc_api_Node_api_Node_l1 l2 q4 K19 fuel fuel 0
theorem g_slices_IndexFunc_api_Node_api_Node_w (fuel : Nat) (s1 : Value) (l2 : List TNode) (f3 : Value) (q4 : TNode → Option Bool) (C5 : World → Prop) (r : Int) (h : g_slices_IndexFunc_api_Node_api_Node fuel l2 q4 = some r) (w0 : World) (hs1 : Rd fTNode (hp no w0) s1 l2) (hf3 : FnOk Try.prog fTNode fBool C5 f3 q4) (hcf3 : C5 w0) :
    Ret Try.prog 44 #[s1, f3] w0 (fun v w' => v = vi r ∧ St no w0 w' []) := by
  unfold g_slices_IndexFunc_api_Node_api_Node at h
  refine ret_of_wp Try.func44 rfl #[s1, f3, Z, Z, Z, Z, Z, Z, Z, Z, Z, Z, Z, Z, Z, Z, Z, Z, Z] (by kernel_rfl) ?_
  have H0 := St.start w0
  refine WP.seq ?_
  refine WP.region ?_
  refine WPI.run 1 ⟨#[s1, f3, Z, Z, vi 0, Z, Z, Z, Z, Z, Z, Z, Z, Z, Z, Z, Z, Z, Z], []⟩ w0 (fun K => by kernel_rfl) ?_
  refine WPI.done rfl ?_
  refine then_n ?_
  refine WP.seq ?_
  refine WP.seq ?_
  refine WP.region ?_
  refine WPI.run 1 ⟨#[s1, f3, Z, Z, vi 0, Z, s1, Z, Z, Z, Z, Z, Z, Z, Z, Z, Z, Z, Z], []⟩ w0 (fun K => by kernel_rfl) ?_
  refine WPI.value (v := vi (((List.length l2 : Nat) : Int))) rfl (by kernel_rfl) (ev_len (Rd.sl hs1) 22 (.tmp 6) 33 6 48 rfl (by kernel_rfl) (by kernel_rfl)) ?_
  refine WPI.run 1 ⟨#[s1, f3, Z, Z, vi 0, Z, s1, vi (((List.length l2 : Nat) : Int)), vi 0, Z, Z, Z, Z, Z, Z, Z, Z, Z, Z], []⟩ w0 (fun K => by kernel_rfl) ?_
  refine WPI.done rfl ?_
  refine then_n ?_
  obtain ⟨K19, hK19, h⟩ := jn_some h
  refine WP.blockJ (fun a w => ∃ (g6 g7 g8 g9 g10 g11 g12 g13 g14 g15 g16 g17 g18 : Value), a = ⟨#[s1, f3, Z, Z, g6, g7, s1, vi (((List.length l2 : Nat) : Int)), g8, g9, g10, g11, g12, g13, g14, g15, g16, g17, g18], []⟩ ∧ St no w0 w [] ∧ K19 = some r) ?_ ?_
  · skip
    refine WP.loop (fun n a w => ∃ (x22 : Int) (g20 g21 g23 g24 g25 g26 g27 g28 g29 g30 g31 g32 : Value), a = ⟨#[s1, f3, Z, Z, g20, g21, s1, vi (((List.length l2 : Nat) : Int)), vi x22, g23, g24, g25, g26, g27, g28, g29, g30, g31, g32], []⟩ ∧ St no w0 w [] ∧ g_slices_IndexFunc_api_Node_api_Node_l1 l2 q4 K19 fuel n x22 = some r) fuel ⟨0, _, _, _, _, _, _, _, _, _, _, _, _, rfl, St.sel H0 [] (by decide) rfl, h⟩ ?_
    rintro n a w ⟨x22, g20, g21, g23, g24, g25, g26, g27, g28, g29, g30, g31, g32, rfl, H, h⟩
    cases n with
    | zero => rw [g_slices_IndexFunc_api_Node_api_Node_l1] at h; cases h
    | succ n =>
      rw [g_slices_IndexFunc_api_Node_api_Node_l1] at h
      obtain ⟨w33, rfl⟩ : ∃ x, x = w := ⟨_, rfl⟩
      have H34 := H; clear H
      refine WP.seq ?_
      refine WP.region ?_
      obtain ⟨c35, hc35, h⟩ := lt_some h
      refine WPI.run 1 ⟨#[s1, f3, Z, Z, g20, g21, s1, vi (((List.length l2 : Nat) : Int)), vi x22, vb c35, g24, g25, g26, g27, g28, g29, g30, g31, g32], []⟩ w33 (fun K => by subst hc35; kernel_rfl) ?_
      refine WPI.done rfl ?_
      refine then_n ?_
      refine WP.seq ?_
      cases c35 with
      | false =>
        replace h := br_f h
        refine WP.condF (by kernel_rfl) ?_
        refine WP.exit ?_
        exact then_e (then_e (inb_e (then_n ⟨_, _, _, _, _, _, _, _, _, _, _, _, _, rfl, St.sel H34 [] (by decide) rfl, h⟩)))
      | true =>
        replace h := br_t h
        refine WP.condT (by kernel_rfl) ?_
        refine WP.skip ?_
        refine then_n ?_
        refine WP.seq ?_
        refine WP.block ?_
        refine WP.seq ?_
        refine WP.region ?_
        refine WPI.run 2 ⟨#[s1, f3, Z, Z, g20, vi x22, s1, vi (((List.length l2 : Nat) : Int)), vi x22, vb true, vi x22, g25, g26, g27, g28, g29, g30, g31, g32], []⟩ w33 (fun K => by kernel_rfl) ?_
        refine WPI.done rfl ?_
        refine then_n ?_
        refine WP.seq ?_
        refine WP.region ?_
        obtain ⟨hg36, h⟩ := gd_some h
        refine WPI.run 3 ⟨#[s1, f3, Z, Z, g20, vi x22, s1, vi (((List.length l2 : Nat) : Int)), vi x22, vb true, vi x22, f3, s1, vi x22, g28, g29, g30, g31, g32], []⟩ w33 (fun K => by kernel_rfl) ?_
        refine WPI.value (v := va (slAt s1 6 (Int.toNat x22))) rfl (by kernel_rfl) (ev_index (Rd.sl hs1) 22 (.tmp 12) (.tmp 13) 33 6 48 .i64 x22 rfl (by kernel_rfl) (by kernel_rfl) (by kernel_rfl) hg36) ?_
        obtain ⟨x37, hx37, h⟩ := bd_some h
        refine WPI.run 0 ⟨#[s1, f3, Z, Z, g20, vi x22, s1, vi (((List.length l2 : Nat) : Int)), vi x22, vb true, vi x22, f3, s1, vi x22, va (slAt s1 6 (Int.toNat x22)), g29, g30, g31, g32], []⟩ w33 (fun K => by kernel_rfl) ?_
        refine WPI.value (v := TNode.val x37) rfl (by kernel_rfl) (ev_loadEl (F := fTNode) hs1 (St.hp_le H34) hx37 33 (.tmp 14) 0 (TNode.val x37) rfl (by kernel_rfl) (by kernel_rfl)) ?_
        obtain ⟨t38, ht38, h⟩ := bd_some h
        refine WPI.run 0 ⟨#[s1, f3, Z, Z, g20, vi x22, s1, vi (((List.length l2 : Nat) : Int)), vi x22, vb true, vi x22, f3, s1, vi x22, va (slAt s1 6 (Int.toNat x22)), TNode.val x37, g30, g31, g32], []⟩ w33 (fun K => by kernel_rfl) ?_
        refine WPI.op rfl (FnOk.op1 hf3 hcf3 H34 ht38 (by kernel_rfl) rfl (by kernel_rfl) (by kernel_rfl) ?_)
        rintro _ w39 ⟨rfl, Hc40⟩
        have H41 := St.call0' H34 Hc40
        clear H34 Hc40
        refine WPI.run 0 ⟨#[s1, f3, Z, Z, g20, vi x22, s1, vi (((List.length l2 : Nat) : Int)), vi x22, vb true, vi x22, f3, s1, vi x22, va (slAt s1 6 (Int.toNat x22)), TNode.val x37, vb t38, g31, g32], []⟩ w39 (fun K => by kernel_rfl) ?_
        refine WPI.done rfl ?_
        refine then_n ?_
        cases t38 with
        | false =>
          replace h := br_f h
          refine WP.condF (by kernel_rfl) ?_
          refine WP.skip ?_
          refine inb_n (then_n ?_)
          refine WP.region ?_
          obtain ⟨x42, hx42, h⟩ := lt_some h
          refine WPI.run 2 ⟨#[s1, f3, Z, Z, g20, vi x22, s1, vi (((List.length l2 : Nat) : Int)), vi x42, vb true, vi x22, f3, s1, vi x22, va (slAt s1 6 (Int.toNat x22)), TNode.val x37, vb false, g31, vi x42], []⟩ w39 (fun K => by subst hx42; kernel_rfl) ?_
          refine WPI.done rfl ?_
          exact then_n ⟨n, Nat.lt_succ_self n, x42, _, _, _, _, _, _, _, _, _, _, _, _, rfl, St.sel H41 [] (by decide) rfl, h⟩
        | true =>
          replace h := br_t h
          refine WP.condT (by kernel_rfl) ?_
          refine WP.seq ?_
          refine WP.region ?_
          refine WPI.run 2 ⟨#[s1, f3, Z, Z, vi x22, vi x22, s1, vi (((List.length l2 : Nat) : Int)), vi x22, vb true, vi x22, f3, s1, vi x22, va (slAt s1 6 (Int.toNat x22)), TNode.val x37, vb true, vi x22, g32], []⟩ w39 (fun K => by kernel_rfl) ?_
          refine WPI.done rfl ?_
          refine then_n ?_
          refine WP.ret ?_
          obtain rfl := Option.some.inj h
          exact inb_r (then_r (then_r (inb_r (then_r (then_r (post_r (vi x22) rfl (by kernel_rfl) ⟨rfl, St.sel H41 [] (by decide) rfl⟩))))))
  · rintro a w ⟨g6, g7, g8, g9, g10, g11, g12, g13, g14, g15, g16, g17, g18, rfl, H, h⟩
    subst hK19
    obtain ⟨w43, rfl⟩ : ∃ x, x = w := ⟨_, rfl⟩
    have H44 := H; clear H
    refine then_n ?_
    refine WP.seq ?_
    refine WP.region ?_
    refine WPI.run 1 ⟨#[s1, f3, Z, Z, vi ((-1)), g7, s1, vi (((List.length l2 : Nat) : Int)), g8, g9, g10, g11, g12, g13, g14, g15, g16, g17, g18], []⟩ w43 (fun K => by kernel_rfl) ?_
    refine WPI.done rfl ?_
    refine then_n ?_
    refine WP.ret ?_
    obtain rfl := Option.some.inj h
    exact post_r (vi ((-1))) rfl (by kernel_rfl) ⟨rfl, St.sel H44 [] (by decide) rfl⟩
end Go.Proofs
