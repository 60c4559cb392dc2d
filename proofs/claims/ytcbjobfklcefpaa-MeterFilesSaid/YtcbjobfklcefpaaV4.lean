import Derived.Test.YtcbjobfklcefpaaGwit
import Derived.Test.YtcbjobfklcefpaaProg
import Derived.Test.YtcbjobfklcefpaaT
set_option linter.unusedVariables false
set_option linter.unusedSimpArgs false
set_option maxRecDepth 100000
set_option maxHeartbeats 0
namespace Go.Proofs
open Gw Go.RowKit
attribute [local irreducible] Gw.WP Gw.WPI Gw.WPL Gw.WA Gw.WQ Gw.PX Gw.PY Gw.WI Gw.PZ Gw.Op1 Gw.Ret Go.Exit.then Go.Exit.inBlock Go.wpOpIn Gw.Rnd Gw.Aft Gw.Begun
/- tarn/tarnlaw0.CellsWeight -/
def g_tarnlaw0_CellsWeight_l1 (l2 : List (List Int)) (K5 : Int → Option Int) (fuel : Nat) : Nat → Int → Int → Option Int
  | 0, _, _ => none
  | n + 1, x6, x7 => jn (fun (c11 : Bool) => br c11 (gd ((0 : Int) ≤ x7 ∧ x7 < ((List.length l2 : Nat) : Int)) <| bd (l2[Int.toNat x7]?) fun x19 => lt (wr .i64 (x6 + (((List.length x19 : Nat) : Int)))) fun x25 => lt (wr .i64 (x7 + 1)) fun x26 => g_tarnlaw0_CellsWeight_l1 l2 K5 fuel n x25 x26) (K5 x6)) fun K13 => lt (decide (x7 < (((List.length l2 : Nat) : Int)))) fun c14 => br c14 (lt (decide (x6 < 1048576)) fun c15 => K13 c15) (K13 false)
def g_tarnlaw0_CellsWeight (fuel : Nat) (l2 : List (List Int)) : Option Int :=
  jn (fun (x3 : Int) => some x3) fun K5 => g_tarnlaw0_CellsWeight_l1 l2 K5 fuel fuel (((List.length l2 : Nat) : Int)) 0
theorem g_tarnlaw0_CellsWeight_w (fuel : Nat) (s1 : Value) (l2 : List (List Int)) (r : Int) (h : g_tarnlaw0_CellsWeight fuel l2 = some r) (w0 : World) (hs1 : RdD dS5 (hp no w0) s1 l2) :
    Ret Try.prog 4 #[s1] w0 (fun v w' => v = vi r ∧ St no w0 w' []) := by
  unfold g_tarnlaw0_CellsWeight at h
  refine ret_of_wpS Try.func4 rfl 25 rfl [(0, s1)] (by kernel_rfl) (fun G => ?_)
  have H0 := St.start w0
  refine WP.seq ?_
  refine WP.region ?_
  refine WPI.runS 1 1 [(2, vi 0)] rfl (fun K => by kernel_rfl) ?_
  refine WPI.done rfl ?_
  refine then_n ?_
  refine WP.seq ?_
  refine WP.region ?_
  refine WPI.runS 1 1 [(5, s1)] rfl (fun K => by kernel_rfl) ?_
  refine WPI.valueS (vi (((List.length l2 : Nat) : Int))) 6 rfl rfl (by kernel_rfl) (ev_len (RdD.sl hs1) 22 (.tmp 5) 25 1 24 rfl (by kernel_rfl) (by kernel_rfl)) ?_
  refine WPI.runS 1 3 [(3, vi (((List.length l2 : Nat) : Int)))] rfl (fun K => by kernel_rfl) ?_
  refine WPI.done rfl ?_
  refine then_n ?_
  refine WP.seq ?_
  refine WP.seq ?_
  refine WP.region ?_
  refine WPI.runS 1 1 [(4, vi 0)] rfl (fun K => by kernel_rfl) ?_
  refine WPI.done rfl ?_
  refine then_n ?_
  obtain ⟨K5, hK5, h⟩ := jn_some h
  refine WP.blockJ (fun a w => ∃ (x3 : Int) (G4 : Nat → Value), a = S 25 G4 [(3, vi x3)] [] ∧ St no w0 w [] ∧ K5 x3 = some r) ?_ ?_
  · skip
    refine WP.loop (fun n a w => ∃ (x6 : Int) (x7 : Int) (G8 : Nat → Value), a = S 25 G8 [(0, s1), (3, vi x6), (4, vi x7)] [] ∧ St no w0 w [] ∧ g_tarnlaw0_CellsWeight_l1 l2 K5 fuel n x6 x7 = some r) fuel ⟨(((List.length l2 : Nat) : Int)), 0, _, S.sub (by kernel_rfl), St.sel H0 [] (by decide) rfl, h⟩ ?_
    rintro n a w ⟨x6, x7, G8, rfl, H, h⟩
    cases n with
    | zero => rw [g_tarnlaw0_CellsWeight_l1] at h; cases h
    | succ n =>
      rw [g_tarnlaw0_CellsWeight_l1] at h
      obtain ⟨w9, rfl⟩ : ∃ x, x = w := ⟨_, rfl⟩
      have H10 := H; clear H
      refine WP.seq ?_
      refine WP.seq ?_
      obtain ⟨K13, hK13, h⟩ := jn_some h
      refine WP.onlyN (fun a w => ∃ (c11 : Bool) (G12 : Nat → Value), a = S 25 G12 [(0, s1), (3, vi x6), (4, vi x7), (14, vb c11)] [] ∧ St no w0 w [] ∧ K13 c11 = some r) ?_ ?_
      · skip
        refine WP.region ?_
        refine WPI.runS 2 2 [(8, s1), (7, vi x7)] rfl (fun K => by kernel_rfl) ?_
        refine WPI.valueS (vi (((List.length l2 : Nat) : Int))) 9 rfl rfl (by kernel_rfl) (ev_len (RdD.sl hs1) 22 (.tmp 8) 25 1 24 rfl (by kernel_rfl) (by kernel_rfl)) ?_
        obtain ⟨c14, hc14, h⟩ := lt_some h
        refine WPI.runS 2 5 [(11, vb c14), (10, vb c14)] rfl (fun K => by subst hc14; kernel_rfl) ?_
        cases c14 with
        | false =>
          replace h := br_f h
          refine WPI.runS 3 8 [(14, vb false), (13, Z), (12, Z)] rfl (fun K => by kernel_rfl) ?_
          refine WPI.done rfl ?_
          exact ⟨false, _, S.sub (by kernel_rfl), St.sel H10 [] (by decide) rfl, h⟩
        | true =>
          replace h := br_t h
          obtain ⟨c15, hc15, h⟩ := lt_some h
          refine WPI.runS 3 8 [(14, vb c15), (13, vb c15), (12, vi x6)] rfl (fun K => by subst hc15; kernel_rfl) ?_
          refine WPI.done rfl ?_
          exact ⟨c15, _, S.sub (by kernel_rfl), St.sel H10 [] (by decide) rfl, h⟩
      · skip
        rintro a w ⟨c11, G12, rfl, H, h⟩
        subst hK13
        obtain ⟨w16, rfl⟩ : ∃ x, x = w := ⟨_, rfl⟩
        have H17 := H; clear H
        refine then_n ?_
        cases c11 with
        | false =>
          replace h := br_f h
          refine WP.condF (by kernel_rfl) ?_
          refine WP.exit ?_
          exact then_e (then_e (inb_e (then_n ⟨x6, _, S.sub (by kernel_rfl), St.sel H17 [] (by decide) rfl, h⟩)))
        | true =>
          replace h := br_t h
          refine WP.condT (by kernel_rfl) ?_
          refine WP.skip ?_
          refine then_n ?_
          refine WP.seq ?_
          refine WP.block ?_
          refine WP.region ?_
          obtain ⟨hg18, h⟩ := gd_some h
          refine WPI.runS 3 3 [(19, vi x7), (18, s1), (17, vi x6)] rfl (fun K => by kernel_rfl) ?_
          refine WPI.valueS (va (slAt s1 1 (Int.toNat x7))) 20 rfl rfl (by kernel_rfl) (ev_index (RdD.sl hs1) 22 (.tmp 18) (.tmp 19) 25 1 24 .i64 x7 rfl (by kernel_rfl) (by kernel_rfl) (by kernel_rfl) hg18) ?_
          obtain ⟨x19, hx19, h⟩ := bd_some h
          obtain ⟨c22, hr23, hc24⟩ := RdD.at_ hs1 _ _ hx19
          obtain ⟨s20, rfl, hs21⟩ := hr23
          refine WPI.valueS (s20) 21 rfl rfl (by kernel_rfl) (ev_load 25 (.tmp 20) 0 (s20) hc24 (St.hp_le H17) rfl (by kernel_rfl) (by kernel_rfl)) ?_
          refine WPI.valueS (vi (((List.length x19 : Nat) : Int))) 22 rfl rfl (by kernel_rfl) (ev_len (Rd.sl hs21) 25 (.tmp 21) 5 1 1 rfl (by kernel_rfl) (by kernel_rfl)) ?_
          obtain ⟨x25, hx25, h⟩ := lt_some h
          refine WPI.runS 2 8 [(3, vi x25), (23, vi x25)] rfl (fun K => by subst hx25; kernel_rfl) ?_
          refine WPI.done rfl ?_
          refine inb_n (then_n ?_)
          refine WP.region ?_
          obtain ⟨x26, hx26, h⟩ := lt_some h
          refine WPI.runS 3 3 [(4, vi x26), (16, vi x26), (15, vi x7)] rfl (fun K => by subst hx26; kernel_rfl) ?_
          refine WPI.done rfl ?_
          exact then_n ⟨n, Nat.lt_succ_self n, x25, x26, _, S.sub (by kernel_rfl), St.sel H17 [] (by decide) rfl, h⟩
  · skip
    rintro a w ⟨x3, G4, rfl, H, h⟩
    subst hK5
    obtain ⟨w27, rfl⟩ : ∃ x, x = w := ⟨_, rfl⟩
    have H28 := H; clear H
    refine then_n ?_
    refine WP.seq ?_
    refine WP.region ?_
    refine WPI.runS 2 2 [(2, vi x3), (24, vi x3)] rfl (fun K => by kernel_rfl) ?_
    refine WPI.done rfl ?_
    refine then_n ?_
    refine WP.ret ?_
    obtain rfl := Option.some.inj h
    exact post_r (vi x3) rfl (by kernel_rfl) ⟨rfl, St.sel H28 [] (by decide) rfl⟩
end Go.Proofs
