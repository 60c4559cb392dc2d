import Derived.Test.YtjcagpcpbfmldaaGw
import Derived.Test.YtjcagpcpbfmldaaProg
import Derived.Test.YtjcagpcpbfmldaaT
set_option linter.unusedVariables false
set_option linter.unusedSimpArgs false
set_option maxRecDepth 100000
set_option maxHeartbeats 4000000
namespace Go.Proofs
open Gw Go.RowKit
/- tarn/tarnref12.Find -/
def g_tarnref12_Find_l1 (l2 : List TNode) (p3 : Int) (K20 : Option Int) (fuel : Nat) : Nat → Int → Option Int
  | 0, _ => none
  | n + 1, x22 => lt (decide (x22 < (((List.length l2 : Nat) : Int)))) fun c39 => br c39 (gd ((0 : Int) ≤ x22 ∧ x22 < ((List.length l2 : Nat) : Int)) <| bd (l2[Int.toNat x22]?) fun x41 => lt (x41.Acct == p3) fun c42 => br c42 (some x22) (lt (wr .i64 (x22 + 1)) fun x43 => g_tarnref12_Find_l1 l2 p3 K20 fuel n x43)) (K20)
def g_tarnref12_Find (fuel : Nat) (l2 : List TNode) (p3 : Int) : Option Int :=
  jn (some ((-1))) fun K20 => g_tarnref12_Find_l1 l2 p3 K20 fuel fuel 0
theorem g_tarnref12_Find_w (fuel : Nat) (s1 : Value) (l2 : List TNode) (p3 : Int) (r : Int) (h : g_tarnref12_Find fuel l2 p3 = some r) (w0 : World) (hs1 : Rd fTNode (hp no w0) s1 l2) :
    Ret Try.prog 29 #[s1, vi p3] w0 (fun v w' => v = vi r ∧ St no w0 w' []) := by
  unfold g_tarnref12_Find at h
  refine ret_of_wp Try.func29 rfl #[s1, vi p3, Z, Z, Z, Z, Z, Z, Z, Z, Z, Z, Z, Z, Z, Z, Z, Z, Z, Z] (by kernel_rfl) ?_
  have H0 := St.start w0
  refine WP.seq ?_
  refine WP.region ?_
  refine WPI.run 1 ⟨#[s1, vi p3, Z, Z, vi 0, Z, Z, Z, Z, Z, Z, Z, Z, Z, Z, Z, Z, Z, Z, Z], []⟩ w0 (fun K => by kernel_rfl) ?_
  refine WPI.done rfl ?_
  refine then_n ?_
  refine WP.seq ?_
  refine WP.seq ?_
  refine WP.region ?_
  refine WPI.run 1 ⟨#[s1, vi p3, Z, Z, vi 0, vi 0, Z, Z, Z, Z, Z, Z, Z, Z, Z, Z, Z, Z, Z, Z], []⟩ w0 (fun K => by kernel_rfl) ?_
  refine WPI.done rfl ?_
  refine then_n ?_
  obtain ⟨K20, hK20, h⟩ := jn_some h
  refine WP.blockJ (fun a w => ∃ (g4 g5 g6 g7 g8 g9 g10 g11 g12 g13 g14 g15 g16 g17 g18 g19 : Value), a = ⟨#[s1, vi p3, Z, Z, g4, g5, g6, g7, g8, g9, g10, g11, g12, g13, g14, g15, g16, g17, g18, g19], []⟩ ∧ St no w0 w [] ∧ K20 = some r) ?_ ?_
  · skip
    refine WP.loop (fun n a w => ∃ (x22 : Int) (g21 g23 g24 g25 g26 g27 g28 g29 g30 g31 g32 g33 g34 g35 g36 : Value), a = ⟨#[s1, vi p3, Z, Z, g21, vi x22, g23, g24, g25, g26, g27, g28, g29, g30, g31, g32, g33, g34, g35, g36], []⟩ ∧ St no w0 w [] ∧ g_tarnref12_Find_l1 l2 p3 K20 fuel n x22 = some r) fuel ⟨0, _, _, _, _, _, _, _, _, _, _, _, _, _, _, _, rfl, St.sel H0 [] (by decide) rfl, h⟩ ?_
    rintro n a w ⟨x22, g21, g23, g24, g25, g26, g27, g28, g29, g30, g31, g32, g33, g34, g35, g36, rfl, H, h⟩
    cases n with
    | zero => rw [g_tarnref12_Find_l1] at h; cases h
    | succ n =>
      rw [g_tarnref12_Find_l1] at h
      obtain ⟨w37, rfl⟩ : ∃ x, x = w := ⟨_, rfl⟩
      have H38 := H; clear H
      refine WP.seq ?_
      refine WP.seq ?_
      refine WP.region ?_
      refine WPI.run 2 ⟨#[s1, vi p3, Z, Z, g21, vi x22, vi x22, s1, g25, g26, g27, g28, g29, g30, g31, g32, g33, g34, g35, g36], []⟩ w37 (fun K => by kernel_rfl) ?_
      refine WPI.value (v := vi (((List.length l2 : Nat) : Int))) rfl (by kernel_rfl) (ev_len (Rd.sl hs1) 22 (.tmp 7) 33 6 48 rfl (by kernel_rfl) (by kernel_rfl)) ?_
      obtain ⟨c39, hc39, h⟩ := lt_some h
      refine WPI.run 1 ⟨#[s1, vi p3, Z, Z, g21, vi x22, vi x22, s1, vi (((List.length l2 : Nat) : Int)), vb c39, g27, g28, g29, g30, g31, g32, g33, g34, g35, g36], []⟩ w37 (fun K => by subst hc39; kernel_rfl) ?_
      refine WPI.done rfl ?_
      refine then_n ?_
      cases c39 with
      | false =>
        replace h := br_f h
        refine WP.condF (by kernel_rfl) ?_
        refine WP.exit ?_
        exact then_e (then_e (inb_e (then_n ⟨_, _, _, _, _, _, _, _, _, _, _, _, _, _, _, _, rfl, St.sel H38 [] (by decide) rfl, h⟩)))
      | true =>
        replace h := br_t h
        refine WP.condT (by kernel_rfl) ?_
        refine WP.skip ?_
        refine then_n ?_
        refine WP.seq ?_
        refine WP.block ?_
        refine WP.seq ?_
        refine WP.region ?_
        obtain ⟨hg40, h⟩ := gd_some h
        refine WPI.run 2 ⟨#[s1, vi p3, Z, Z, g21, vi x22, vi x22, s1, vi (((List.length l2 : Nat) : Int)), vb true, g27, g28, s1, vi x22, g31, g32, g33, g34, g35, g36], []⟩ w37 (fun K => by kernel_rfl) ?_
        refine WPI.value (v := va (slAt s1 6 (Int.toNat x22))) rfl (by kernel_rfl) (ev_index (Rd.sl hs1) 22 (.tmp 12) (.tmp 13) 33 6 48 .i64 x22 rfl (by kernel_rfl) (by kernel_rfl) (by kernel_rfl) hg40) ?_
        obtain ⟨x41, hx41, h⟩ := bd_some h
        refine WPI.run 1 ⟨#[s1, vi p3, Z, Z, g21, vi x22, vi x22, s1, vi (((List.length l2 : Nat) : Int)), vb true, g27, g28, s1, vi x22, va (slAt s1 6 (Int.toNat x22)), va (slAt s1 6 (Int.toNat x22)), g33, g34, g35, g36], []⟩ w37 (fun K => by kernel_rfl) ?_
        refine WPI.value (v := vi x41.Acct) rfl (by kernel_rfl) (ev_loadEl (F := fTNode) hs1 (St.hp_le H38) hx41 3 (.tmp 15) 0 (vi x41.Acct) rfl (by kernel_rfl) (by kernel_rfl)) ?_
        obtain ⟨c42, hc42, h⟩ := lt_some h
        refine WPI.run 2 ⟨#[s1, vi p3, Z, Z, g21, vi x22, vi x22, s1, vi (((List.length l2 : Nat) : Int)), vb true, g27, g28, s1, vi x22, va (slAt s1 6 (Int.toNat x22)), va (slAt s1 6 (Int.toNat x22)), vi x41.Acct, vi p3, vb c42, g36], []⟩ w37 (fun K => by subst hc42; kernel_rfl) ?_
        refine WPI.done rfl ?_
        refine then_n ?_
        cases c42 with
        | false =>
          replace h := br_f h
          refine WP.condF (by kernel_rfl) ?_
          refine WP.skip ?_
          refine inb_n (then_n ?_)
          refine WP.region ?_
          obtain ⟨x43, hx43, h⟩ := lt_some h
          refine WPI.run 3 ⟨#[s1, vi p3, Z, Z, g21, vi x43, vi x22, s1, vi (((List.length l2 : Nat) : Int)), vb true, vi x22, vi x43, s1, vi x22, va (slAt s1 6 (Int.toNat x22)), va (slAt s1 6 (Int.toNat x22)), vi x41.Acct, vi p3, vb false, g36], []⟩ w37 (fun K => by subst hx43; kernel_rfl) ?_
          refine WPI.done rfl ?_
          exact then_n ⟨n, Nat.lt_succ_self n, x43, _, _, _, _, _, _, _, _, _, _, _, _, _, _, _, rfl, St.sel H38 [] (by decide) rfl, h⟩
        | true =>
          replace h := br_t h
          refine WP.condT (by kernel_rfl) ?_
          refine WP.seq ?_
          refine WP.region ?_
          refine WPI.run 2 ⟨#[s1, vi p3, Z, Z, vi x22, vi x22, vi x22, s1, vi (((List.length l2 : Nat) : Int)), vb true, g27, g28, s1, vi x22, va (slAt s1 6 (Int.toNat x22)), va (slAt s1 6 (Int.toNat x22)), vi x41.Acct, vi p3, vb true, vi x22], []⟩ w37 (fun K => by kernel_rfl) ?_
          refine WPI.done rfl ?_
          refine then_n ?_
          refine WP.ret ?_
          obtain rfl := Option.some.inj h
          exact inb_r (then_r (then_r (inb_r (then_r (then_r (post_r (vi x22) rfl (by kernel_rfl) ⟨rfl, St.sel H38 [] (by decide) rfl⟩))))))
  · rintro a w ⟨g4, g5, g6, g7, g8, g9, g10, g11, g12, g13, g14, g15, g16, g17, g18, g19, rfl, H, h⟩
    subst hK20
    obtain ⟨w44, rfl⟩ : ∃ x, x = w := ⟨_, rfl⟩
    have H45 := H; clear H
    refine then_n ?_
    refine WP.seq ?_
    refine WP.region ?_
    refine WPI.run 1 ⟨#[s1, vi p3, Z, Z, vi ((-1)), g5, g6, g7, g8, g9, g10, g11, g12, g13, g14, g15, g16, g17, g18, g19], []⟩ w44 (fun K => by kernel_rfl) ?_
    refine WPI.done rfl ?_
    refine then_n ?_
    refine WP.ret ?_
    obtain rfl := Option.some.inj h
    exact post_r (vi ((-1))) rfl (by kernel_rfl) ⟨rfl, St.sel H45 [] (by decide) rfl⟩
end Go.Proofs
