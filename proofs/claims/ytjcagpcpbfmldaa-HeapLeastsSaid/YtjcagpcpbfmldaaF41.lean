import Derived.Test.YtjcagpcpbfmldaaGw
import Derived.Test.YtjcagpcpbfmldaaProg
import Derived.Test.YtjcagpcpbfmldaaT
set_option linter.unusedVariables false
set_option linter.unusedSimpArgs false
set_option maxRecDepth 100000
set_option maxHeartbeats 4000000
namespace Go.Proofs
open Gw Go.RowKit
/- tarn/tarnlaw0.Nodes -/
def g_tarnlaw0_Nodes_l1 (K17 : (List TNode) → Option Unit) (fuel : Nat) : Nat → (List TNode) → Int → Option Unit
  | 0, _, _ => none
  | n + 1, l18, x19 => lt (decide (x19 < (((List.length l18 : Nat) : Int)))) fun c33 => br c33 (gd ((0 : Int) ≤ x19 ∧ x19 < ((List.length l18 : Nat) : Int)) <| lt (List.set l18 (Int.toNat x19) (TNode.mk ((-9)) (TRank.mk 0 (TU256.mk 0 0 0 0)))) fun l35 => lt (wr .i64 (x19 + 1)) fun x38 => g_tarnlaw0_Nodes_l1 K17 fuel n l35 x38) (K17 l18)
def g_tarnlaw0_Nodes (fuel : Nat) (l2 : List TNode) : Option Unit :=
  jn (fun (l5 : List TNode) => gd ((List.length l5 + List.length (([TNode.mk 0 (TRank.mk 0 (TU256.mk 0 0 0 0))] : List TNode))) * 48 ≤ 140737488355328) <| lt (l5 ++ (([TNode.mk 0 (TRank.mk 0 (TU256.mk 0 0 0 0))] : List TNode))) fun l48 => some ()) fun K17 => g_tarnlaw0_Nodes_l1 K17 fuel fuel l2 0
theorem g_tarnlaw0_Nodes_w (fuel : Nat) (s1 : Value) (l2 : List TNode) (r : Unit) (h : g_tarnlaw0_Nodes fuel l2 = some r) (w0 : World) (hm : (Own fTNode 33 s1 l2).holds w0) :
    Ret Try.prog 41 #[s1] w0 (fun v w' => v = .tuple #[] ∧ St (Own fTNode 33 s1 l2).fp w0 w' []) := by
  unfold g_tarnlaw0_Nodes at h
  refine ret_of_wp Try.func41 rfl #[s1, Z, Z, Z, Z, Z, Z, Z, Z, Z, Z, Z, Z, Z, Z, Z, Z] (by kernel_rfl) ?_
  have H0 := St.start1 hm
  have sf4 := Own.isSl (St.get H0 0 rfl)
  refine WP.seq ?_
  refine WP.seq ?_
  refine WP.region ?_
  refine WPI.run 1 ⟨#[s1, Z, vi 0, Z, Z, Z, Z, Z, Z, Z, Z, Z, Z, Z, Z, Z, Z], []⟩ w0 (fun K => by kernel_rfl) ?_
  refine WPI.done rfl ?_
  refine then_n ?_
  obtain ⟨K17, hK17, h⟩ := jn_some h
  refine WP.blockJ (fun a w => ∃ (l5 : List TNode) (g6 g7 g8 g9 g10 g11 g12 g13 g14 g15 g16 : Value), a = ⟨#[s1, Z, g6, g7, g8, g9, g10, g11, g12, g13, g14, g15, g16, Z, Z, Z, Z], []⟩ ∧ St (Own fTNode 33 s1 l2).fp w0 w [Own fTNode 33 s1 l5] ∧ K17 l5 = some r) ?_ ?_
  · skip
    refine WP.loop (fun n a w => ∃ (l18 : List TNode) (x19 : Int) (g20 g21 g22 g23 g24 g25 g26 g27 g28 g29 : Value), a = ⟨#[s1, Z, vi x19, g20, g21, g22, g23, g24, g25, g26, g27, g28, g29, Z, Z, Z, Z], []⟩ ∧ St (Own fTNode 33 s1 l2).fp w0 w [Own fTNode 33 s1 l18] ∧ g_tarnlaw0_Nodes_l1 K17 fuel n l18 x19 = some r) fuel ⟨l2, 0, _, _, _, _, _, _, _, _, _, _, rfl, St.sel H0 [0] (by decide) rfl, h⟩ ?_
    rintro n a w ⟨l18, x19, g20, g21, g22, g23, g24, g25, g26, g27, g28, g29, rfl, H, h⟩
    cases n with
    | zero => rw [g_tarnlaw0_Nodes_l1] at h; cases h
    | succ n =>
      rw [g_tarnlaw0_Nodes_l1] at h
      obtain ⟨w30, rfl⟩ : ∃ x, x = w := ⟨_, rfl⟩
      have H31 := H; clear H
      have sf32 := Own.isSl (St.get H31 0 rfl)
      refine WP.seq ?_
      refine WP.seq ?_
      refine WP.region ?_
      refine WPI.run 2 ⟨#[s1, Z, vi x19, vi x19, s1, g22, g23, g24, g25, g26, g27, g28, g29, Z, Z, Z, Z], []⟩ w30 (fun K => by kernel_rfl) ?_
      refine WPI.value (v := vi (((List.length l18 : Nat) : Int))) rfl (by kernel_rfl) (ev_len sf32 22 (.tmp 4) 33 6 48 rfl (by kernel_rfl) (by kernel_rfl)) ?_
      obtain ⟨c33, hc33, h⟩ := lt_some h
      refine WPI.run 1 ⟨#[s1, Z, vi x19, vi x19, s1, vi (((List.length l18 : Nat) : Int)), vb c33, g24, g25, g26, g27, g28, g29, Z, Z, Z, Z], []⟩ w30 (fun K => by subst hc33; kernel_rfl) ?_
      refine WPI.done rfl ?_
      refine then_n ?_
      cases c33 with
      | false =>
        replace h := br_f h
        refine WP.condF (by kernel_rfl) ?_
        refine WP.exit ?_
        exact then_e (then_e (inb_e (then_n ⟨l18, _, _, _, _, _, _, _, _, _, _, _, rfl, St.sel H31 [0] (by decide) rfl, h⟩)))
      | true =>
        replace h := br_t h
        refine WP.condT (by kernel_rfl) ?_
        refine WP.skip ?_
        refine then_n ?_
        refine WP.seq ?_
        refine WP.block ?_
        refine WP.region ?_
        obtain ⟨hg34, h⟩ := gd_some h
        refine WPI.run 3 ⟨#[s1, Z, vi x19, vi x19, s1, vi (((List.length l18 : Nat) : Int)), vb true, g24, g25, s1, vi x19, .agg #[vi ((-9)), vi 0, vu 0, vu 0, vu 0, vu 0], g29, Z, Z, Z, Z], []⟩ w30 (fun K => by kernel_rfl) ?_
        refine WPI.value (v := va (slAt s1 6 (Int.toNat x19))) rfl (by kernel_rfl) (ev_index sf32 22 (.tmp 9) (.tmp 10) 33 6 48 .i64 x19 rfl (by kernel_rfl) (by kernel_rfl) (by kernel_rfl) hg34) ?_
        obtain ⟨l35, hl35, h⟩ := lt_some h
        refine WPI.run 0 ⟨#[s1, Z, vi x19, vi x19, s1, vi (((List.length l18 : Nat) : Int)), vb true, g24, g25, s1, vi x19, .agg #[vi ((-9)), vi 0, vu 0, vu 0, vu 0, vu 0], va (slAt s1 6 (Int.toNat x19)), Z, Z, Z, Z], []⟩ w30 (fun K => by kernel_rfl) ?_
        refine WPI.op rfl (Op1.storeOwn H31 0 rfl (by kernel_rfl) 33 (.tmp 12) (.tmp 11) (Int.toNat x19) (TNode.mk ((-9)) (TRank.mk 0 (TU256.mk 0 0 0 0))) true rfl (by kernel_rfl) (by kernel_rfl) (by kernel_rfl) (idx_lt hg34) (fun w36 H37 => ?_))
        rw [← hl35] at H37
        clear H31
        refine WPI.run 0 ⟨#[s1, Z, vi x19, vi x19, s1, vi (((List.length l18 : Nat) : Int)), vb true, g24, g25, s1, vi x19, .agg #[vi ((-9)), vi 0, vu 0, vu 0, vu 0, vu 0], va (slAt s1 6 (Int.toNat x19)), Z, Z, Z, Z], []⟩ w36 (fun K => by kernel_rfl) ?_
        refine WPI.done rfl ?_
        refine inb_n (then_n ?_)
        refine WP.region ?_
        obtain ⟨x38, hx38, h⟩ := lt_some h
        refine WPI.run 3 ⟨#[s1, Z, vi x38, vi x19, s1, vi (((List.length l18 : Nat) : Int)), vb true, vi x19, vi x38, s1, vi x19, .agg #[vi ((-9)), vi 0, vu 0, vu 0, vu 0, vu 0], va (slAt s1 6 (Int.toNat x19)), Z, Z, Z, Z], []⟩ w36 (fun K => by subst hx38; kernel_rfl) ?_
        refine WPI.done rfl ?_
        exact then_n ⟨n, Nat.lt_succ_self n, l35, x38, _, _, _, _, _, _, _, _, _, _, rfl, St.sel H37 [0] (by decide) rfl, h⟩
  · rintro a w ⟨l5, g6, g7, g8, g9, g10, g11, g12, g13, g14, g15, g16, rfl, H, h⟩
    subst hK17
    obtain ⟨w39, rfl⟩ : ∃ x, x = w := ⟨_, rfl⟩
    have H40 := H; clear H
    have sf41 := Own.isSl (St.get H40 0 rfl)
    refine then_n ?_
    refine WP.region ?_
    refine WPI.run 2 ⟨#[s1, Z, g6, g7, g8, g9, g10, g11, g12, g13, g14, g15, g16, s1, .agg #[vi 0, vi 0, vu 0, vu 0, vu 0, vu 0], Z, Z], []⟩ w39 (fun K => by kernel_rfl) ?_
    refine WPI.op rfl (Op1.lit (F := fTNode) (E := 33) H40 (by kernel_rfl) ([TNode.mk 0 (TRank.mk 0 (TU256.mk 0 0 0 0))] : List TNode) (fun w => by kernel_rfl) (by simp [maxLen]) (fun s43 w45 H46 => ?_))
    clear H40
    have sf44 := Own.isSl (St.get H46 0 rfl)
    obtain ⟨hg47, h⟩ := gd_some h
    obtain ⟨l48, hl48, h⟩ := lt_some h
    refine WPI.run 0 ⟨#[s1, Z, g6, g7, g8, g9, g10, g11, g12, g13, g14, g15, g16, s1, .agg #[vi 0, vi 0, vu 0, vu 0, vu 0, vu 0], s43, Z], []⟩ w45 (fun K => by kernel_rfl) ?_
    refine WPI.op rfl (Op1.append (F := fTNode) H46 1 rfl (by kernel_rfl) 22 (.tmp 13) (.tmp 15) 48 rfl (by kernel_rfl) (by kernel_rfl) s43 (([TNode.mk 0 (TRank.mk 0 (TU256.mk 0 0 0 0))] : List TNode)) (St.rd H46 0 rfl) (hp_no_le _) (by kernel_rfl) (app_len hg47 (by decide)) (fun s49 w51 H52 => ?_))
    rw [← hl48] at H52
    clear H46
    have sf50 := Own.isSl (St.get H52 0 rfl)
    refine WPI.run 1 ⟨#[s49, Z, g6, g7, g8, g9, g10, g11, g12, g13, g14, g15, g16, s1, .agg #[vi 0, vi 0, vu 0, vu 0, vu 0, vu 0], s43, s49], []⟩ w51 (fun K => by kernel_rfl) ?_
    refine WPI.done rfl ?_
    obtain rfl := Option.some.inj h
    exact post_n (.tuple #[]) rfl (by kernel_rfl) ⟨rfl, St.sel H52 [] (by decide) rfl⟩
end Go.Proofs
