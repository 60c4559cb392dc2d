import Derived.Test.YtcbjobfklcefpaaGwit
import Derived.Test.YtcbjobfklcefpaaProg
import Derived.Test.YtcbjobfklcefpaaT
set_option linter.unusedVariables false
set_option linter.unusedSimpArgs false
set_option maxRecDepth 100000
set_option maxHeartbeats 0
namespace Go.Proofs
open Gw Go.RowKit
attribute [local irreducible] Gw.WP Gw.WPI Gw.WPL Gw.WA Gw.WQ Gw.PX Gw.PY Gw.WI Gw.PZ Gw.Op1 Gw.Ret Go.Exit.then Go.Exit.inBlock Go.wpOpIn Gw.Rnd Gw.Aft Gw.Begun
/- tarn/tarnref0.EqNumbers -/
def g_tarnref0_EqNumbers_l1 (l2 : List Int) (l4 : List Int) (K7 : Option Bool) (fuel : Nat) : Nat → Int → Option Bool
  | 0, _ => none
  | n + 1, x8 => lt (decide (x8 < (((List.length l2 : Nat) : Int)))) fun c12 => br c12 (gd ((0 : Int) ≤ x8 ∧ x8 < ((List.length l2 : Nat) : Int)) <| bd (l2[Int.toNat x8]?) fun x14 => gd ((0 : Int) ≤ x8 ∧ x8 < ((List.length l4 : Nat) : Int)) <| bd (l4[Int.toNat x8]?) fun x16 => lt (x14 != x16) fun c17 => br c17 (some false) (lt (wr .i64 (x8 + 1)) fun x20 => g_tarnref0_EqNumbers_l1 l2 l4 K7 fuel n x20)) (K7)
def g_tarnref0_EqNumbers (fuel : Nat) (l2 : List Int) (l4 : List Int) : Option Bool :=
  lt ((((List.length l2 : Nat) : Int)) != (((List.length l4 : Nat) : Int))) fun c5 => br c5 (some false) (jn (some true) fun K7 => g_tarnref0_EqNumbers_l1 l2 l4 K7 fuel fuel 0)
theorem g_tarnref0_EqNumbers_w (fuel : Nat) (s1 : Value) (l2 : List Int) (s3 : Value) (l4 : List Int) (r : Bool) (h : g_tarnref0_EqNumbers fuel l2 l4 = some r) (w0 : World) (hs1 : Rd fI64 (hp no w0) s1 l2) (hs3 : Rd fI64 (hp no w0) s3 l4) :
    Ret Try.prog 9 #[s1, s3] w0 (fun v w' => v = vb r ∧ St no w0 w' []) := by
  unfold g_tarnref0_EqNumbers at h
  refine ret_of_wpS Try.func9 rfl 26 rfl [(0, s1), (1, s3)] (by kernel_rfl) (fun G => ?_)
  have H0 := St.start w0
  refine WP.seq ?_
  refine WP.region ?_
  refine WPI.runS 1 1 [(4, vb false)] rfl (fun K => by kernel_rfl) ?_
  refine WPI.done rfl ?_
  refine then_n ?_
  refine WP.seq ?_
  refine WP.seq ?_
  refine WP.region ?_
  refine WPI.runS 1 1 [(6, s1)] rfl (fun K => by kernel_rfl) ?_
  refine WPI.valueS (vi (((List.length l2 : Nat) : Int))) 7 rfl rfl (by kernel_rfl) (ev_len (Rd.sl hs1) 24 (.tmp 6) 3 1 8 rfl (by kernel_rfl) (by kernel_rfl)) ?_
  refine WPI.runS 1 3 [(8, s3)] rfl (fun K => by kernel_rfl) ?_
  refine WPI.valueS (vi (((List.length l4 : Nat) : Int))) 9 rfl rfl (by kernel_rfl) (ev_len (Rd.sl hs3) 24 (.tmp 8) 3 1 8 rfl (by kernel_rfl) (by kernel_rfl)) ?_
  obtain ⟨c5, hc5, h⟩ := lt_some h
  refine WPI.runS 1 5 [(10, vb c5)] rfl (fun K => by subst hc5; kernel_rfl) ?_
  refine WPI.done rfl ?_
  refine then_n ?_
  cases c5 with
  | false =>
    replace h := br_f h
    refine WP.condF (by kernel_rfl) ?_
    refine WP.skip ?_
    refine then_n ?_
    refine WP.seq ?_
    refine WP.seq ?_
    refine WP.region ?_
    refine WPI.runS 1 1 [(5, vi 0)] rfl (fun K => by kernel_rfl) ?_
    refine WPI.done rfl ?_
    refine then_n ?_
    obtain ⟨K7, hK7, h⟩ := jn_some h
    refine WP.blockJ (fun a w => ∃ (G6 : Nat → Value), a = S 26 G6 [] [] ∧ St no w0 w [] ∧ K7 = some r) ?_ ?_
    · skip
      refine WP.loop (fun n a w => ∃ (x8 : Int) (G9 : Nat → Value), a = S 26 G9 [(0, s1), (1, s3), (5, vi x8)] [] ∧ St no w0 w [] ∧ g_tarnref0_EqNumbers_l1 l2 l4 K7 fuel n x8 = some r) fuel ⟨0, _, S.sub (by kernel_rfl), St.sel H0 [] (by decide) rfl, h⟩ ?_
      rintro n a w ⟨x8, G9, rfl, H, h⟩
      cases n with
      | zero => rw [g_tarnref0_EqNumbers_l1] at h; cases h
      | succ n =>
        rw [g_tarnref0_EqNumbers_l1] at h
        obtain ⟨w10, rfl⟩ : ∃ x, x = w := ⟨_, rfl⟩
        have H11 := H; clear H
        refine WP.seq ?_
        refine WP.seq ?_
        refine WP.region ?_
        refine WPI.runS 2 2 [(12, s1), (11, vi x8)] rfl (fun K => by kernel_rfl) ?_
        refine WPI.valueS (vi (((List.length l2 : Nat) : Int))) 13 rfl rfl (by kernel_rfl) (ev_len (Rd.sl hs1) 24 (.tmp 12) 3 1 8 rfl (by kernel_rfl) (by kernel_rfl)) ?_
        obtain ⟨c12, hc12, h⟩ := lt_some h
        refine WPI.runS 1 4 [(14, vb c12)] rfl (fun K => by subst hc12; kernel_rfl) ?_
        refine WPI.done rfl ?_
        refine then_n ?_
        cases c12 with
        | false =>
          replace h := br_f h
          refine WP.condF (by kernel_rfl) ?_
          refine WP.exit ?_
          exact then_e (then_e (inb_e (then_n ⟨_, S.sub (by kernel_rfl), St.sel H11 [] (by decide) rfl, h⟩)))
        | true =>
          replace h := br_t h
          refine WP.condT (by kernel_rfl) ?_
          refine WP.skip ?_
          refine then_n ?_
          refine WP.seq ?_
          refine WP.block ?_
          refine WP.seq ?_
          refine WP.quiet (by kernel_rfl) (by kernel_rfl) (by kernel_rfl) (fun w => St no w0 w []) (St.drew H11) ?_
          obtain ⟨hg13, h⟩ := gd_some h
          refine WQ.runS 2 2 [(18, vi x8), (17, s1)] rfl (fun K => by kernel_rfl) ?_
          refine WQ.valueS (va (slAt s1 1 (Int.toNat x8))) 19 rfl rfl (by kernel_rfl) (fun w H => ev_index (Rd.sl hs1) 24 (.tmp 17) (.tmp 18) 3 1 8 .i64 x8 rfl (by kernel_rfl) (by kernel_rfl) (by kernel_rfl) hg13) ?_
          obtain ⟨x14, hx14, h⟩ := bd_some h
          refine WQ.valueS (vi x14) 20 rfl rfl (by kernel_rfl) (fun w H => ev_loadEl (F := fI64) hs1 (St.hp_le H) hx14 3 (.tmp 19) 0 (vi x14) rfl (by kernel_rfl) (by kernel_rfl)) ?_
          obtain ⟨hg15, h⟩ := gd_some h
          refine WQ.runS 2 6 [(22, vi x8), (21, s3)] rfl (fun K => by kernel_rfl) ?_
          refine WQ.valueS (va (slAt s3 1 (Int.toNat x8))) 23 rfl rfl (by kernel_rfl) (fun w H => ev_index (Rd.sl hs3) 24 (.tmp 21) (.tmp 22) 3 1 8 .i64 x8 rfl (by kernel_rfl) (by kernel_rfl) (by kernel_rfl) hg15) ?_
          obtain ⟨x16, hx16, h⟩ := bd_some h
          refine WQ.valueS (vi x16) 24 rfl rfl (by kernel_rfl) (fun w H => ev_loadEl (F := fI64) hs3 (St.hp_le H) hx16 3 (.tmp 23) 0 (vi x16) rfl (by kernel_rfl) (by kernel_rfl)) ?_
          obtain ⟨c17, hc17, h⟩ := lt_some h
          refine WQ.runS 1 9 [(25, vb c17)] rfl (fun K => by subst hc17; kernel_rfl) ?_
          refine WQ.done rfl ?_
          refine (fun w18 H19 => ?_)
          refine then_n ?_
          cases c17 with
          | false =>
            replace h := br_f h
            refine WP.condF (by kernel_rfl) ?_
            refine WP.skip ?_
            refine inb_n (then_n ?_)
            refine WP.region ?_
            obtain ⟨x20, hx20, h⟩ := lt_some h
            refine WPI.runS 3 3 [(5, vi x20), (16, vi x20), (15, vi x8)] rfl (fun K => by subst hx20; kernel_rfl) ?_
            refine WPI.done rfl ?_
            exact then_n ⟨n, Nat.lt_succ_self n, x20, _, S.sub (by kernel_rfl), St.sel H19 [] (by decide) rfl, h⟩
          | true =>
            replace h := br_t h
            refine WP.condT (by kernel_rfl) ?_
            refine WP.seq ?_
            refine WP.region ?_
            refine WPI.runS 1 1 [(4, vb false)] rfl (fun K => by kernel_rfl) ?_
            refine WPI.done rfl ?_
            refine then_n ?_
            refine WP.ret ?_
            obtain rfl := Option.some.inj h
            exact inb_r (then_r (then_r (inb_r (then_r (then_r (post_r (vb false) rfl (by kernel_rfl) ⟨rfl, St.sel H19 [] (by decide) rfl⟩))))))
    · skip
      rintro a w ⟨G6, rfl, H, h⟩
      subst hK7
      obtain ⟨w21, rfl⟩ : ∃ x, x = w := ⟨_, rfl⟩
      have H22 := H; clear H
      refine then_n ?_
      refine WP.seq ?_
      refine WP.region ?_
      refine WPI.runS 1 1 [(4, vb true)] rfl (fun K => by kernel_rfl) ?_
      refine WPI.done rfl ?_
      refine then_n ?_
      refine WP.ret ?_
      obtain rfl := Option.some.inj h
      exact post_r (vb true) rfl (by kernel_rfl) ⟨rfl, St.sel H22 [] (by decide) rfl⟩
  | true =>
    replace h := br_t h
    refine WP.condT (by kernel_rfl) ?_
    refine WP.seq ?_
    refine WP.region ?_
    refine WPI.runS 1 1 [(4, vb false)] rfl (fun K => by kernel_rfl) ?_
    refine WPI.done rfl ?_
    refine then_n ?_
    refine WP.ret ?_
    obtain rfl := Option.some.inj h
    exact then_r (post_r (vb false) rfl (by kernel_rfl) ⟨rfl, St.sel H0 [] (by decide) rfl⟩)
end Go.Proofs
