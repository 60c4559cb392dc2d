import Derived.Test.YtcbjobfklcefpaaGwit
import Derived.Test.YtcbjobfklcefpaaProg
import Derived.Test.YtcbjobfklcefpaaT
set_option linter.unusedVariables false
set_option linter.unusedSimpArgs false
set_option maxRecDepth 100000
set_option maxHeartbeats 0
namespace Go.Proofs
open Gw Go.RowKit
attribute [local irreducible] Gw.WP Gw.WPI Gw.WPL Gw.WA Gw.WQ Gw.PX Gw.PY Gw.WI Gw.PZ Gw.Op1 Gw.Ret Go.Exit.then Go.Exit.inBlock Go.wpOpIn Gw.Rnd Gw.Aft Gw.Begun
/- tarn/tarnref0.CopyBytes -/
def g_tarnref0_CopyBytes_l1 (l2 : List Int) (K7 : (List Int) → Option (List Int)) (fuel : Nat) : Nat → (List Int) → Int → Option (List Int)
  | 0, _, _ => none
  | n + 1, l9, x11 => lt (decide (x11 < (((List.length l2 : Nat) : Int)))) fun c16 => br c16 (gd ((0 : Int) ≤ x11 ∧ x11 < ((List.length l2 : Nat) : Int)) <| bd (l2[Int.toNat x11]?) fun x18 => gd ((List.length l9 + List.length (([x18] : List Int))) * 1 ≤ 140737488355328) <| lt (l9 ++ (([x18] : List Int))) fun l25 => lt (wr .i64 (x11 + 1)) fun x30 => g_tarnref0_CopyBytes_l1 l2 K7 fuel n l25 x30) (K7 l9)
def g_tarnref0_CopyBytes (fuel : Nat) (l2 : List Int) : Option (List Int) :=
  jn (fun (l4 : List Int) => some l4) fun K7 => g_tarnref0_CopyBytes_l1 l2 K7 fuel fuel ([]) 0
theorem g_tarnref0_CopyBytes_w (fuel : Nat) (s1 : Value) (l2 : List Int) (r : List Int) (h : g_tarnref0_CopyBytes fuel l2 = some r) (w0 : World) (hs1 : Rd fU8 (hp no w0) s1 l2) :
    Ret Try.prog 5 #[s1] w0 (fun v w' => ∃ (q0 : Value), v = q0 ∧ St no w0 w' [Own fU8 5 q0 r]) := by
  unfold g_tarnref0_CopyBytes at h
  refine ret_of_wpS Try.func5 rfl 19 rfl [(0, s1)] (by kernel_rfl) (fun G => ?_)
  have H0 := St.start w0
  refine WP.seq ?_
  refine WP.region ?_
  refine WPI.runS 1 1 [(2, vn)] rfl (fun K => by kernel_rfl) ?_
  refine WPI.done rfl ?_
  refine then_n ?_
  refine WP.seq ?_
  refine WP.region ?_
  refine WPI.runS 1 1 [(3, vn)] rfl (fun K => by kernel_rfl) ?_
  refine WPI.done rfl ?_
  refine then_n ?_
  refine WP.seq ?_
  refine WP.seq ?_
  refine WP.region ?_
  refine WPI.runS 1 1 [(4, vi 0)] rfl (fun K => by kernel_rfl) ?_
  refine WPI.done rfl ?_
  refine then_n ?_
  obtain ⟨K7, hK7, h⟩ := jn_some h
  refine WP.blockJ (fun a w => ∃ (l4 : List Int) (s5 : Value) (G6 : Nat → Value), a = S 19 G6 [(3, s5)] [] ∧ St no w0 w [Own fU8 5 s5 l4] ∧ K7 l4 = some r) ?_ ?_
  · skip
    refine WP.loop (fun n a w => ∃ (l9 : List Int) (x11 : Int) (s10 : Value) (G12 : Nat → Value), a = S 19 G12 [(0, s1), (3, s10), (4, vi x11)] [] ∧ St no w0 w [Own fU8 5 s10 l9] ∧ g_tarnref0_CopyBytes_l1 l2 K7 fuel n l9 x11 = some r) fuel ⟨([]), 0, vn, _, S.sub (by kernel_rfl), St.sel (St.nil H0 fU8 5) [0] (by decide) rfl, h⟩ ?_
    rintro n a w ⟨l9, x11, s10, G12, rfl, H, h⟩
    cases n with
    | zero => rw [g_tarnref0_CopyBytes_l1] at h; cases h
    | succ n =>
      rw [g_tarnref0_CopyBytes_l1] at h
      obtain ⟨w13, rfl⟩ : ∃ x, x = w := ⟨_, rfl⟩
      have H14 := H; clear H
      have sf15 := Own.isSl (St.get H14 0 rfl)
      refine WP.seq ?_
      refine WP.seq ?_
      refine WP.region ?_
      refine WPI.runS 2 2 [(6, s1), (5, vi x11)] rfl (fun K => by kernel_rfl) ?_
      refine WPI.valueS (vi (((List.length l2 : Nat) : Int))) 7 rfl rfl (by kernel_rfl) (ev_len (Rd.sl hs1) 25 (.tmp 6) 5 1 1 rfl (by kernel_rfl) (by kernel_rfl)) ?_
      obtain ⟨c16, hc16, h⟩ := lt_some h
      refine WPI.runS 1 4 [(8, vb c16)] rfl (fun K => by subst hc16; kernel_rfl) ?_
      refine WPI.done rfl ?_
      refine then_n ?_
      cases c16 with
      | false =>
        replace h := br_f h
        refine WP.condF (by kernel_rfl) ?_
        refine WP.exit ?_
        exact then_e (then_e (inb_e (then_n ⟨l9, s10, _, S.sub (by kernel_rfl), St.sel H14 [0] (by decide) rfl, h⟩)))
      | true =>
        replace h := br_t h
        refine WP.condT (by kernel_rfl) ?_
        refine WP.skip ?_
        refine then_n ?_
        refine WP.seq ?_
        refine WP.block ?_
        refine WP.region ?_
        obtain ⟨hg17, h⟩ := gd_some h
        refine WPI.runS 3 3 [(13, vi x11), (12, s1), (11, s10)] rfl (fun K => by kernel_rfl) ?_
        refine WPI.valueS (va (slAt s1 1 (Int.toNat x11))) 14 rfl rfl (by kernel_rfl) (ev_index (Rd.sl hs1) 25 (.tmp 12) (.tmp 13) 5 1 1 .i64 x11 rfl (by kernel_rfl) (by kernel_rfl) (by kernel_rfl) hg17) ?_
        obtain ⟨x18, hx18, h⟩ := bd_some h
        refine WPI.valueS (.int .u8 x18) 15 rfl rfl (by kernel_rfl) (ev_loadEl (F := fU8) hs1 (St.hp_le H14) hx18 5 (.tmp 14) 0 (.int .u8 x18) rfl (by kernel_rfl) (by kernel_rfl)) ?_
        refine WPI.op rfl (Op1.lit (F := fU8) (E := 5) H14 (by kernel_rfl) ([x18] : List Int) (fun w => by kernel_rfl) (by simp [maxLen]) (fun s20 w22 H23 => ?_))
        clear H14
        have sf21 := Own.isSl (St.get H23 0 rfl)
        obtain ⟨hg24, h⟩ := gd_some h
        obtain ⟨l25, hl25, h⟩ := lt_some h
        refine WPI.nS 16 rfl ?_
        refine WPI.op rfl (Op1.append (F := fU8) H23 1 rfl (by kernel_rfl) 25 (.tmp 11) (.tmp 16) 1 rfl (by kernel_rfl) (by kernel_rfl) s20 (([x18] : List Int)) (St.rd H23 0 rfl) (hp_no_le _) (by kernel_rfl) (app_len hg24 (by decide)) (fun s26 w28 H29 => ?_))
        rw [← hl25] at H29
        clear H23
        have sf27 := Own.isSl (St.get H29 0 rfl)
        refine WPI.nS 17 rfl ?_
        refine WPI.runS 1 8 [(3, s26)] rfl (fun K => by kernel_rfl) ?_
        refine WPI.done rfl ?_
        refine inb_n (then_n ?_)
        refine WP.region ?_
        obtain ⟨x30, hx30, h⟩ := lt_some h
        refine WPI.runS 3 3 [(4, vi x30), (10, vi x30), (9, vi x11)] rfl (fun K => by subst hx30; kernel_rfl) ?_
        refine WPI.done rfl ?_
        exact then_n ⟨n, Nat.lt_succ_self n, l25, x30, s26, _, S.sub (by kernel_rfl), St.sel H29 [0] (by decide) rfl, h⟩
  · skip
    rintro a w ⟨l4, s5, G6, rfl, H, h⟩
    subst hK7
    obtain ⟨w31, rfl⟩ : ∃ x, x = w := ⟨_, rfl⟩
    have H32 := H; clear H
    have sf33 := Own.isSl (St.get H32 0 rfl)
    refine then_n ?_
    refine WP.seq ?_
    refine WP.region ?_
    refine WPI.runS 2 2 [(2, s5), (18, s5)] rfl (fun K => by kernel_rfl) ?_
    refine WPI.done rfl ?_
    refine then_n ?_
    refine WP.ret ?_
    obtain rfl := Option.some.inj h
    exact post_r (s5) rfl (by kernel_rfl) ⟨s5, rfl, St.sel H32 [0] (by decide) rfl⟩
end Go.Proofs
