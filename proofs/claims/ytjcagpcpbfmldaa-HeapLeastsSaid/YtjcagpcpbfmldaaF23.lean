import Derived.Test.YtjcagpcpbfmldaaGw
import Derived.Test.YtjcagpcpbfmldaaProg
import Derived.Test.YtjcagpcpbfmldaaT
set_option linter.unusedVariables false
set_option linter.unusedSimpArgs false
set_option maxRecDepth 100000
set_option maxHeartbeats 4000000
namespace Go.Proofs
open Gw Go.RowKit
/- tarn/tarnref0.EqNodes -/
def g_tarnref0_EqNodes_l1 (l2 : List TNode) (l4 : List TNode) (K23 : Option Bool) (fuel : Nat) : Nat → Int → Option Bool
  | 0, _ => none
  | n + 1, x25 => lt (decide (x25 < (((List.length l2 : Nat) : Int)))) fun c43 => br c43 (gd ((0 : Int) ≤ x25 ∧ x25 < ((List.length l2 : Nat) : Int)) <| bd (l2[Int.toNat x25]?) fun x45 => gd ((0 : Int) ≤ x25 ∧ x25 < ((List.length l4 : Nat) : Int)) <| bd (l4[Int.toNat x25]?) fun x47 => lt (!decide (x45 = x47)) fun c48 => br c48 (some false) (lt (wr .i64 (x25 + 1)) fun x51 => g_tarnref0_EqNodes_l1 l2 l4 K23 fuel n x51)) (K23)
def g_tarnref0_EqNodes (fuel : Nat) (l2 : List TNode) (l4 : List TNode) : Option Bool :=
  lt ((((List.length l2 : Nat) : Int)) != (((List.length l4 : Nat) : Int))) fun c5 => br c5 (some false) (jn (some true) fun K23 => g_tarnref0_EqNodes_l1 l2 l4 K23 fuel fuel 0)
theorem g_tarnref0_EqNodes_w (fuel : Nat) (s1 : Value) (l2 : List TNode) (s3 : Value) (l4 : List TNode) (r : Bool) (h : g_tarnref0_EqNodes fuel l2 l4 = some r) (w0 : World) (hs1 : Rd fTNode (hp no w0) s1 l2) (hs3 : Rd fTNode (hp no w0) s3 l4) :
    Ret Try.prog 23 #[s1, s3] w0 (fun v w' => v = vb r ∧ St no w0 w' []) := by
  unfold g_tarnref0_EqNodes at h
  refine ret_of_wp Try.func23 rfl #[s1, s3, Z, Z, Z, Z, Z, Z, Z, Z, Z, Z, Z, Z, Z, Z, Z, Z, Z, Z, Z, Z, Z, Z, Z, Z] (by kernel_rfl) ?_
  have H0 := St.start w0
  refine WP.seq ?_
  refine WP.region ?_
  refine WPI.run 1 ⟨#[s1, s3, Z, Z, vb false, Z, Z, Z, Z, Z, Z, Z, Z, Z, Z, Z, Z, Z, Z, Z, Z, Z, Z, Z, Z, Z], []⟩ w0 (fun K => by kernel_rfl) ?_
  refine WPI.done rfl ?_
  refine then_n ?_
  refine WP.seq ?_
  refine WP.seq ?_
  refine WP.region ?_
  refine WPI.run 1 ⟨#[s1, s3, Z, Z, vb false, Z, s1, Z, Z, Z, Z, Z, Z, Z, Z, Z, Z, Z, Z, Z, Z, Z, Z, Z, Z, Z], []⟩ w0 (fun K => by kernel_rfl) ?_
  refine WPI.value (v := vi (((List.length l2 : Nat) : Int))) rfl (by kernel_rfl) (ev_len (Rd.sl hs1) 22 (.tmp 6) 33 6 48 rfl (by kernel_rfl) (by kernel_rfl)) ?_
  refine WPI.run 1 ⟨#[s1, s3, Z, Z, vb false, Z, s1, vi (((List.length l2 : Nat) : Int)), s3, Z, Z, Z, Z, Z, Z, Z, Z, Z, Z, Z, Z, Z, Z, Z, Z, Z], []⟩ w0 (fun K => by kernel_rfl) ?_
  refine WPI.value (v := vi (((List.length l4 : Nat) : Int))) rfl (by kernel_rfl) (ev_len (Rd.sl hs3) 22 (.tmp 8) 33 6 48 rfl (by kernel_rfl) (by kernel_rfl)) ?_
  obtain ⟨c5, hc5, h⟩ := lt_some h
  refine WPI.run 1 ⟨#[s1, s3, Z, Z, vb false, Z, s1, vi (((List.length l2 : Nat) : Int)), s3, vi (((List.length l4 : Nat) : Int)), vb c5, Z, Z, Z, Z, Z, Z, Z, Z, Z, Z, Z, Z, Z, Z, Z], []⟩ w0 (fun K => by subst hc5; kernel_rfl) ?_
  refine WPI.done rfl ?_
  refine then_n ?_
  cases c5 with
  | false =>
    replace h := br_f h
    refine WP.condF (by kernel_rfl) ?_
    refine WP.skip ?_
    refine then_n ?_
    refine WP.seq ?_
    refine WP.seq ?_
    refine WP.region ?_
    refine WPI.run 1 ⟨#[s1, s3, Z, Z, vb false, vi 0, s1, vi (((List.length l2 : Nat) : Int)), s3, vi (((List.length l4 : Nat) : Int)), vb false, Z, Z, Z, Z, Z, Z, Z, Z, Z, Z, Z, Z, Z, Z, Z], []⟩ w0 (fun K => by kernel_rfl) ?_
    refine WPI.done rfl ?_
    refine then_n ?_
    obtain ⟨K23, hK23, h⟩ := jn_some h
    refine WP.blockJ (fun a w => ∃ (g6 g7 g8 g9 g10 g11 g12 g13 g14 g15 g16 g17 g18 g19 g20 g21 g22 : Value), a = ⟨#[s1, s3, Z, Z, g6, g7, s1, vi (((List.length l2 : Nat) : Int)), s3, vi (((List.length l4 : Nat) : Int)), vb false, g8, g9, g10, g11, g12, g13, g14, g15, g16, g17, g18, g19, g20, g21, g22], []⟩ ∧ St no w0 w [] ∧ K23 = some r) ?_ ?_
    · skip
      refine WP.loop (fun n a w => ∃ (x25 : Int) (g24 g26 g27 g28 g29 g30 g31 g32 g33 g34 g35 g36 g37 g38 g39 g40 : Value), a = ⟨#[s1, s3, Z, Z, g24, vi x25, s1, vi (((List.length l2 : Nat) : Int)), s3, vi (((List.length l4 : Nat) : Int)), vb false, g26, g27, g28, g29, g30, g31, g32, g33, g34, g35, g36, g37, g38, g39, g40], []⟩ ∧ St no w0 w [] ∧ g_tarnref0_EqNodes_l1 l2 l4 K23 fuel n x25 = some r) fuel ⟨0, _, _, _, _, _, _, _, _, _, _, _, _, _, _, _, _, rfl, St.sel H0 [] (by decide) rfl, h⟩ ?_
      rintro n a w ⟨x25, g24, g26, g27, g28, g29, g30, g31, g32, g33, g34, g35, g36, g37, g38, g39, g40, rfl, H, h⟩
      cases n with
      | zero => rw [g_tarnref0_EqNodes_l1] at h; cases h
      | succ n =>
        rw [g_tarnref0_EqNodes_l1] at h
        obtain ⟨w41, rfl⟩ : ∃ x, x = w := ⟨_, rfl⟩
        have H42 := H; clear H
        refine WP.seq ?_
        refine WP.seq ?_
        refine WP.region ?_
        refine WPI.run 2 ⟨#[s1, s3, Z, Z, g24, vi x25, s1, vi (((List.length l2 : Nat) : Int)), s3, vi (((List.length l4 : Nat) : Int)), vb false, vi x25, s1, g28, g29, g30, g31, g32, g33, g34, g35, g36, g37, g38, g39, g40], []⟩ w41 (fun K => by kernel_rfl) ?_
        refine WPI.value (v := vi (((List.length l2 : Nat) : Int))) rfl (by kernel_rfl) (ev_len (Rd.sl hs1) 22 (.tmp 12) 33 6 48 rfl (by kernel_rfl) (by kernel_rfl)) ?_
        obtain ⟨c43, hc43, h⟩ := lt_some h
        refine WPI.run 1 ⟨#[s1, s3, Z, Z, g24, vi x25, s1, vi (((List.length l2 : Nat) : Int)), s3, vi (((List.length l4 : Nat) : Int)), vb false, vi x25, s1, vi (((List.length l2 : Nat) : Int)), vb c43, g30, g31, g32, g33, g34, g35, g36, g37, g38, g39, g40], []⟩ w41 (fun K => by subst hc43; kernel_rfl) ?_
        refine WPI.done rfl ?_
        refine then_n ?_
        cases c43 with
        | false =>
          replace h := br_f h
          refine WP.condF (by kernel_rfl) ?_
          refine WP.exit ?_
          exact then_e (then_e (inb_e (then_n ⟨_, _, _, _, _, _, _, _, _, _, _, _, _, _, _, _, _, rfl, St.sel H42 [] (by decide) rfl, h⟩)))
        | true =>
          replace h := br_t h
          refine WP.condT (by kernel_rfl) ?_
          refine WP.skip ?_
          refine then_n ?_
          refine WP.seq ?_
          refine WP.block ?_
          refine WP.seq ?_
          refine WP.quiet (by kernel_rfl) (by kernel_rfl) (by kernel_rfl) (fun w => St no w0 w []) (St.drew H42) ?_
          refine WQ.value (v := s1) rfl (by kernel_rfl) (fun w _ => by kernel_rfl) ?_
          refine WQ.value (v := vi x25) rfl (by kernel_rfl) (fun w _ => by kernel_rfl) ?_
          obtain ⟨hg44, h⟩ := gd_some h
          refine WQ.value (v := va (slAt s1 6 (Int.toNat x25))) rfl (by kernel_rfl) (fun w H => ev_index (Rd.sl hs1) 22 (.tmp 17) (.tmp 18) 33 6 48 .i64 x25 rfl (by kernel_rfl) (by kernel_rfl) (by kernel_rfl) hg44) ?_
          obtain ⟨x45, hx45, h⟩ := bd_some h
          refine WQ.value (v := TNode.val x45) rfl (by kernel_rfl) (fun w H => ev_loadEl (F := fTNode) hs1 (St.hp_le H) hx45 33 (.tmp 19) 0 (TNode.val x45) rfl (by kernel_rfl) (by kernel_rfl)) ?_
          refine WQ.value (v := s3) rfl (by kernel_rfl) (fun w _ => by kernel_rfl) ?_
          refine WQ.value (v := vi x25) rfl (by kernel_rfl) (fun w _ => by kernel_rfl) ?_
          obtain ⟨hg46, h⟩ := gd_some h
          refine WQ.value (v := va (slAt s3 6 (Int.toNat x25))) rfl (by kernel_rfl) (fun w H => ev_index (Rd.sl hs3) 22 (.tmp 21) (.tmp 22) 33 6 48 .i64 x25 rfl (by kernel_rfl) (by kernel_rfl) (by kernel_rfl) hg46) ?_
          obtain ⟨x47, hx47, h⟩ := bd_some h
          refine WQ.value (v := TNode.val x47) rfl (by kernel_rfl) (fun w H => ev_loadEl (F := fTNode) hs3 (St.hp_le H) hx47 33 (.tmp 23) 0 (TNode.val x47) rfl (by kernel_rfl) (by kernel_rfl)) ?_
          obtain ⟨c48, hc48, h⟩ := lt_some h
          refine WQ.value (v := vb c48) rfl (by kernel_rfl) (fun w H => by subst hc48; exact ev_neqS (F := fTNode) 33 33 (.tmp 20) (.tmp 24) x45 x47 eqok_33 rfl (TNode.cs x45).toArray (TNode.cs x47).toArray rfl rfl (by kernel_rfl) (by kernel_rfl) (by kernel_rfl)) ?_
          refine WQ.frame (a' := ⟨#[s1, s3, Z, Z, g24, vi x25, s1, vi (((List.length l2 : Nat) : Int)), s3, vi (((List.length l4 : Nat) : Int)), vb false, vi x25, s1, vi (((List.length l2 : Nat) : Int)), vb true, g30, g31, s1, vi x25, va (slAt s1 6 (Int.toNat x25)), TNode.val x45, s3, vi x25, va (slAt s3 6 (Int.toNat x25)), TNode.val x47, vb c48], []⟩) (by kernel_rfl) ?_
          refine WQ.done rfl ?_
          refine (fun w49 H50 => ?_)
          refine then_n ?_
          cases c48 with
          | false =>
            replace h := br_f h
            refine WP.condF (by kernel_rfl) ?_
            refine WP.skip ?_
            refine inb_n (then_n ?_)
            refine WP.region ?_
            obtain ⟨x51, hx51, h⟩ := lt_some h
            refine WPI.run 3 ⟨#[s1, s3, Z, Z, g24, vi x51, s1, vi (((List.length l2 : Nat) : Int)), s3, vi (((List.length l4 : Nat) : Int)), vb false, vi x25, s1, vi (((List.length l2 : Nat) : Int)), vb true, vi x25, vi x51, s1, vi x25, va (slAt s1 6 (Int.toNat x25)), TNode.val x45, s3, vi x25, va (slAt s3 6 (Int.toNat x25)), TNode.val x47, vb false], []⟩ w49 (fun K => by subst hx51; kernel_rfl) ?_
            refine WPI.done rfl ?_
            exact then_n ⟨n, Nat.lt_succ_self n, x51, _, _, _, _, _, _, _, _, _, _, _, _, _, _, _, _, rfl, St.sel H50 [] (by decide) rfl, h⟩
          | true =>
            replace h := br_t h
            refine WP.condT (by kernel_rfl) ?_
            refine WP.seq ?_
            refine WP.region ?_
            refine WPI.run 1 ⟨#[s1, s3, Z, Z, vb false, vi x25, s1, vi (((List.length l2 : Nat) : Int)), s3, vi (((List.length l4 : Nat) : Int)), vb false, vi x25, s1, vi (((List.length l2 : Nat) : Int)), vb true, g30, g31, s1, vi x25, va (slAt s1 6 (Int.toNat x25)), TNode.val x45, s3, vi x25, va (slAt s3 6 (Int.toNat x25)), TNode.val x47, vb true], []⟩ w49 (fun K => by kernel_rfl) ?_
            refine WPI.done rfl ?_
            refine then_n ?_
            refine WP.ret ?_
            obtain rfl := Option.some.inj h
            exact inb_r (then_r (then_r (inb_r (then_r (then_r (post_r (vb false) rfl (by kernel_rfl) ⟨rfl, St.sel H50 [] (by decide) rfl⟩))))))
    · rintro a w ⟨g6, g7, g8, g9, g10, g11, g12, g13, g14, g15, g16, g17, g18, g19, g20, g21, g22, rfl, H, h⟩
      subst hK23
      obtain ⟨w52, rfl⟩ : ∃ x, x = w := ⟨_, rfl⟩
      have H53 := H; clear H
      refine then_n ?_
      refine WP.seq ?_
      refine WP.region ?_
      refine WPI.run 1 ⟨#[s1, s3, Z, Z, vb true, g7, s1, vi (((List.length l2 : Nat) : Int)), s3, vi (((List.length l4 : Nat) : Int)), vb false, g8, g9, g10, g11, g12, g13, g14, g15, g16, g17, g18, g19, g20, g21, g22], []⟩ w52 (fun K => by kernel_rfl) ?_
      refine WPI.done rfl ?_
      refine then_n ?_
      refine WP.ret ?_
      obtain rfl := Option.some.inj h
      exact post_r (vb true) rfl (by kernel_rfl) ⟨rfl, St.sel H53 [] (by decide) rfl⟩
  | true =>
    replace h := br_t h
    refine WP.condT (by kernel_rfl) ?_
    refine WP.seq ?_
    refine WP.region ?_
    refine WPI.run 1 ⟨#[s1, s3, Z, Z, vb false, Z, s1, vi (((List.length l2 : Nat) : Int)), s3, vi (((List.length l4 : Nat) : Int)), vb true, Z, Z, Z, Z, Z, Z, Z, Z, Z, Z, Z, Z, Z, Z, Z], []⟩ w0 (fun K => by kernel_rfl) ?_
    refine WPI.done rfl ?_
    refine then_n ?_
    refine WP.ret ?_
    obtain rfl := Option.some.inj h
    exact then_r (post_r (vb false) rfl (by kernel_rfl) ⟨rfl, St.sel H0 [] (by decide) rfl⟩)
end Go.Proofs
