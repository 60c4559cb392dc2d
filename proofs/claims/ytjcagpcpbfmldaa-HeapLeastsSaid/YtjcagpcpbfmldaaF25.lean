import Derived.Test.YtjcagpcpbfmldaaGw
import Derived.Test.YtjcagpcpbfmldaaProg
import Derived.Test.YtjcagpcpbfmldaaT
set_option linter.unusedVariables false
set_option linter.unusedSimpArgs false
set_option maxRecDepth 100000
set_option maxHeartbeats 4000000
namespace Go.Proofs
open Gw Go.RowKit
/- tarn/tarnref0.CopyNodes -/
def g_tarnref0_CopyNodes_l1 (l2 : List TNode) (K20 : (List TNode) → Option (List TNode)) (fuel : Nat) : Nat → (List TNode) → Int → Option (List TNode)
  | 0, _, _ => none
  | n + 1, l22, x24 => lt (decide (x24 < (((List.length l2 : Nat) : Int)))) fun c41 => br c41 (gd ((0 : Int) ≤ x24 ∧ x24 < ((List.length l2 : Nat) : Int)) <| bd (l2[Int.toNat x24]?) fun x43 => gd ((List.length l22 + List.length (([x43] : List TNode))) * 48 ≤ 140737488355328) <| lt (l22 ++ (([x43] : List TNode))) fun l50 => lt (wr .i64 (x24 + 1)) fun x55 => g_tarnref0_CopyNodes_l1 l2 K20 fuel n l50 x55) (K20 l22)
def g_tarnref0_CopyNodes (fuel : Nat) (l2 : List TNode) : Option (List TNode) :=
  jn (fun (l4 : List TNode) => some l4) fun K20 => g_tarnref0_CopyNodes_l1 l2 K20 fuel fuel ([]) 0
theorem g_tarnref0_CopyNodes_w (fuel : Nat) (s1 : Value) (l2 : List TNode) (r : List TNode) (h : g_tarnref0_CopyNodes fuel l2 = some r) (w0 : World) (hs1 : Rd fTNode (hp no w0) s1 l2) :
    Ret Try.prog 25 #[s1] w0 (fun v w' => ∃ q0 : Value, v = q0 ∧ St no w0 w' [Own fTNode 33 q0 r]) := by
  unfold g_tarnref0_CopyNodes at h
  refine ret_of_wp Try.func25 rfl #[s1, Z, Z, Z, Z, Z, Z, Z, Z, Z, Z, Z, Z, Z, Z, Z, Z, Z, Z] (by kernel_rfl) ?_
  have H0 := St.start w0
  refine WP.seq ?_
  refine WP.region ?_
  refine WPI.run 1 ⟨#[s1, Z, vn, Z, Z, Z, Z, Z, Z, Z, Z, Z, Z, Z, Z, Z, Z, Z, Z], []⟩ w0 (fun K => by kernel_rfl) ?_
  refine WPI.done rfl ?_
  refine then_n ?_
  refine WP.seq ?_
  refine WP.region ?_
  refine WPI.run 1 ⟨#[s1, Z, vn, vn, Z, Z, Z, Z, Z, Z, Z, Z, Z, Z, Z, Z, Z, Z, Z], []⟩ w0 (fun K => by kernel_rfl) ?_
  refine WPI.done rfl ?_
  refine then_n ?_
  refine WP.seq ?_
  refine WP.seq ?_
  refine WP.region ?_
  refine WPI.run 1 ⟨#[s1, Z, vn, vn, vi 0, Z, Z, Z, Z, Z, Z, Z, Z, Z, Z, Z, Z, Z, Z], []⟩ w0 (fun K => by kernel_rfl) ?_
  refine WPI.done rfl ?_
  refine then_n ?_
  obtain ⟨K20, hK20, h⟩ := jn_some h
  refine WP.blockJ (fun a w => ∃ (l4 : List TNode) (s5 g6 g7 g8 g9 g10 g11 g12 g13 g14 g15 g16 g17 g18 g19 : Value), a = ⟨#[s1, Z, vn, s5, g6, g7, g8, g9, g10, g11, g12, g13, g14, g15, g16, g17, g18, g19, Z], []⟩ ∧ St no w0 w [Own fTNode 33 s5 l4] ∧ K20 l4 = some r) ?_ ?_
  · skip
    refine WP.loop (fun n a w => ∃ (l22 : List TNode) (x24 : Int) (s23 g25 g26 g27 g28 g29 g30 g31 g32 g33 g34 g35 g36 g37 : Value), a = ⟨#[s1, Z, vn, s23, vi x24, g25, g26, g27, g28, g29, g30, g31, g32, g33, g34, g35, g36, g37, Z], []⟩ ∧ St no w0 w [Own fTNode 33 s23 l22] ∧ g_tarnref0_CopyNodes_l1 l2 K20 fuel n l22 x24 = some r) fuel ⟨([]), 0, vn, _, _, _, _, _, _, _, _, _, _, _, _, _, rfl, St.sel (St.nil H0 fTNode 33) [0] (by decide) rfl, h⟩ ?_
    rintro n a w ⟨l22, x24, s23, g25, g26, g27, g28, g29, g30, g31, g32, g33, g34, g35, g36, g37, rfl, H, h⟩
    cases n with
    | zero => rw [g_tarnref0_CopyNodes_l1] at h; cases h
    | succ n =>
      rw [g_tarnref0_CopyNodes_l1] at h
      obtain ⟨w38, rfl⟩ : ∃ x, x = w := ⟨_, rfl⟩
      have H39 := H; clear H
      have sf40 := Own.isSl (St.get H39 0 rfl)
      refine WP.seq ?_
      refine WP.seq ?_
      refine WP.region ?_
      refine WPI.run 2 ⟨#[s1, Z, vn, s23, vi x24, vi x24, s1, g27, g28, g29, g30, g31, g32, g33, g34, g35, g36, g37, Z], []⟩ w38 (fun K => by kernel_rfl) ?_
      refine WPI.value (v := vi (((List.length l2 : Nat) : Int))) rfl (by kernel_rfl) (ev_len (Rd.sl hs1) 22 (.tmp 6) 33 6 48 rfl (by kernel_rfl) (by kernel_rfl)) ?_
      obtain ⟨c41, hc41, h⟩ := lt_some h
      refine WPI.run 1 ⟨#[s1, Z, vn, s23, vi x24, vi x24, s1, vi (((List.length l2 : Nat) : Int)), vb c41, g29, g30, g31, g32, g33, g34, g35, g36, g37, Z], []⟩ w38 (fun K => by subst hc41; kernel_rfl) ?_
      refine WPI.done rfl ?_
      refine then_n ?_
      cases c41 with
      | false =>
        replace h := br_f h
        refine WP.condF (by kernel_rfl) ?_
        refine WP.exit ?_
        exact then_e (then_e (inb_e (then_n ⟨l22, s23, _, _, _, _, _, _, _, _, _, _, _, _, _, _, rfl, St.sel H39 [0] (by decide) rfl, h⟩)))
      | true =>
        replace h := br_t h
        refine WP.condT (by kernel_rfl) ?_
        refine WP.skip ?_
        refine then_n ?_
        refine WP.seq ?_
        refine WP.block ?_
        refine WP.region ?_
        obtain ⟨hg42, h⟩ := gd_some h
        refine WPI.run 3 ⟨#[s1, Z, vn, s23, vi x24, vi x24, s1, vi (((List.length l2 : Nat) : Int)), vb true, g29, g30, s23, s1, vi x24, g34, g35, g36, g37, Z], []⟩ w38 (fun K => by kernel_rfl) ?_
        refine WPI.value (v := va (slAt s1 6 (Int.toNat x24))) rfl (by kernel_rfl) (ev_index (Rd.sl hs1) 22 (.tmp 12) (.tmp 13) 33 6 48 .i64 x24 rfl (by kernel_rfl) (by kernel_rfl) (by kernel_rfl) hg42) ?_
        obtain ⟨x43, hx43, h⟩ := bd_some h
        refine WPI.run 0 ⟨#[s1, Z, vn, s23, vi x24, vi x24, s1, vi (((List.length l2 : Nat) : Int)), vb true, g29, g30, s23, s1, vi x24, va (slAt s1 6 (Int.toNat x24)), g35, g36, g37, Z], []⟩ w38 (fun K => by kernel_rfl) ?_
        refine WPI.value (v := TNode.val x43) rfl (by kernel_rfl) (ev_loadEl (F := fTNode) hs1 (St.hp_le H39) hx43 33 (.tmp 14) 0 (TNode.val x43) rfl (by kernel_rfl) (by kernel_rfl)) ?_
        refine WPI.run 0 ⟨#[s1, Z, vn, s23, vi x24, vi x24, s1, vi (((List.length l2 : Nat) : Int)), vb true, g29, g30, s23, s1, vi x24, va (slAt s1 6 (Int.toNat x24)), TNode.val x43, g36, g37, Z], []⟩ w38 (fun K => by kernel_rfl) ?_
        refine WPI.op rfl (Op1.lit (F := fTNode) (E := 33) H39 (by kernel_rfl) ([x43] : List TNode) (fun w => by kernel_rfl) (by simp [maxLen]) (fun s45 w47 H48 => ?_))
        clear H39
        have sf46 := Own.isSl (St.get H48 0 rfl)
        obtain ⟨hg49, h⟩ := gd_some h
        obtain ⟨l50, hl50, h⟩ := lt_some h
        refine WPI.run 0 ⟨#[s1, Z, vn, s23, vi x24, vi x24, s1, vi (((List.length l2 : Nat) : Int)), vb true, g29, g30, s23, s1, vi x24, va (slAt s1 6 (Int.toNat x24)), TNode.val x43, s45, g37, Z], []⟩ w47 (fun K => by kernel_rfl) ?_
        refine WPI.op rfl (Op1.append (F := fTNode) H48 1 rfl (by kernel_rfl) 22 (.tmp 11) (.tmp 16) 48 rfl (by kernel_rfl) (by kernel_rfl) s45 (([x43] : List TNode)) (St.rd H48 0 rfl) (hp_no_le _) (by kernel_rfl) (app_len hg49 (by decide)) (fun s51 w53 H54 => ?_))
        rw [← hl50] at H54
        clear H48
        have sf52 := Own.isSl (St.get H54 0 rfl)
        refine WPI.run 1 ⟨#[s1, Z, vn, s51, vi x24, vi x24, s1, vi (((List.length l2 : Nat) : Int)), vb true, g29, g30, s23, s1, vi x24, va (slAt s1 6 (Int.toNat x24)), TNode.val x43, s45, s51, Z], []⟩ w53 (fun K => by kernel_rfl) ?_
        refine WPI.done rfl ?_
        refine inb_n (then_n ?_)
        refine WP.region ?_
        obtain ⟨x55, hx55, h⟩ := lt_some h
        refine WPI.run 3 ⟨#[s1, Z, vn, s51, vi x55, vi x24, s1, vi (((List.length l2 : Nat) : Int)), vb true, vi x24, vi x55, s23, s1, vi x24, va (slAt s1 6 (Int.toNat x24)), TNode.val x43, s45, s51, Z], []⟩ w53 (fun K => by subst hx55; kernel_rfl) ?_
        refine WPI.done rfl ?_
        exact then_n ⟨n, Nat.lt_succ_self n, l50, x55, s51, _, _, _, _, _, _, _, _, _, _, _, _, _, rfl, St.sel H54 [0] (by decide) rfl, h⟩
  · rintro a w ⟨l4, s5, g6, g7, g8, g9, g10, g11, g12, g13, g14, g15, g16, g17, g18, g19, rfl, H, h⟩
    subst hK20
    obtain ⟨w56, rfl⟩ : ∃ x, x = w := ⟨_, rfl⟩
    have H57 := H; clear H
    have sf58 := Own.isSl (St.get H57 0 rfl)
    refine then_n ?_
    refine WP.seq ?_
    refine WP.region ?_
    refine WPI.run 2 ⟨#[s1, Z, s5, s5, g6, g7, g8, g9, g10, g11, g12, g13, g14, g15, g16, g17, g18, g19, s5], []⟩ w56 (fun K => by kernel_rfl) ?_
    refine WPI.done rfl ?_
    refine then_n ?_
    refine WP.ret ?_
    obtain rfl := Option.some.inj h
    exact post_r (s5) rfl (by kernel_rfl) ⟨s5, rfl, St.sel H57 [0] (by decide) rfl⟩
end Go.Proofs
