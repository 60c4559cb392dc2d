import Derived.Test.YtjcagpcpbfmldaaGw
import Derived.Test.YtjcagpcpbfmldaaProg
import Derived.Test.YtjcagpcpbfmldaaT
import Derived.Test.YtjcagpcpbfmldaaF27
import Derived.Test.YtjcagpcpbfmldaaF11
import Derived.Test.YtjcagpcpbfmldaaF16
set_option linter.unusedVariables false
set_option linter.unusedSimpArgs false
set_option maxRecDepth 100000
set_option maxHeartbeats 4000000
namespace Go.Proofs
open Gw Go.RowKit
/- tarn/tarnlaw13.only -/
def g_tarnlaw13_only_l1 (l4 : List Ttarnlaw13_Act) (fuel : Nat) (l2 : List TNode) (p5 : Int) (K46 : Option Bool) : Nat → Int → Option Bool
  | 0, _ => none
  | n + 1, x48 => jn (fun (c89 : Bool) => br c89 (gd ((0 : Int) ≤ x48 ∧ x48 < ((List.length l4 : Nat) : Int)) <| bd (l4[Int.toNat x48]?) fun x96 => bd (g_tarnlaw13_step fuel l2 (Ttarnlaw13_Act.mk p5 x96.N)) fun t105 => lt (!t105.2) fun c111 => br c111 (some false) (lt (wr .i64 (x48 + 1)) fun x112 => g_tarnlaw13_only_l1 l4 fuel l2 p5 K46 n x112)) (K46)) fun K90 => lt (decide (x48 < (((List.length l4 : Nat) : Int)))) fun c91 => br c91 (lt (decide (x48 < 25)) fun c92 => K90 c92) (K90 false)
def g_tarnlaw13_only (fuel : Nat) (l2 : List TNode) (l4 : List Ttarnlaw13_Act) (p5 : Int) : Option Bool :=
  bd (g_tarnlaw13_heavy fuel l2 l4) fun t10 => br t10 (some true) (jn (bd (g_tarnlaw13_wakes fuel) fun t115 => some t115) fun K46 => g_tarnlaw13_only_l1 l4 fuel l2 p5 K46 fuel 0)
theorem g_tarnlaw13_only_w (fuel : Nat) (s1 : Value) (l2 : List TNode) (s3 : Value) (l4 : List Ttarnlaw13_Act) (p5 : Int) (r : Bool) (h : g_tarnlaw13_only fuel l2 l4 p5 = some r) (w0 : World) (hs1 : Rd fTNode (hp no w0) s1 l2) (hs3 : Rd fTtarnlaw13_Act (hp no w0) s3 l4) :
    Ret Try.prog 17 #[.agg #[s1, s3], vi p5] w0 (fun v w' => v = vb r ∧ St no w0 w' []) := by
  unfold g_tarnlaw13_only at h
  refine ret_of_wp Try.func17 rfl #[.agg #[s1, s3], vi p5, Z, Z, Z, Z, Z, Z, Z, Z, Z, Z, Z, Z, Z, Z, Z, Z, Z, Z, Z, Z, Z, Z, Z, Z, Z, Z, Z, Z, Z, Z, Z, Z, Z, Z, Z, Z, Z] (by kernel_rfl) ?_
  have H0 := St.start w0
  refine WP.seq ?_
  refine WP.region ?_
  refine WPI.op rfl (Op1.box H0 #[s1, s3] (by kernel_rfl) 25 (.tmp 0) rfl (by kernel_rfl) (fun b6 w8 H9 => ?_))
  refine WPI.run 1 ⟨#[.agg #[s1, s3], vi p5, vp b6 0, Z, vb false, Z, Z, Z, Z, Z, Z, Z, Z, Z, Z, Z, Z, Z, Z, Z, Z, Z, Z, Z, Z, Z, Z, Z, Z, Z, Z, Z, Z, Z, Z, Z, Z, Z, Z], []⟩ w8 (fun K => by kernel_rfl) ?_
  refine WPI.done rfl ?_
  refine then_n ?_
  refine WP.seq ?_
  refine WP.seq ?_
  refine WP.region ?_
  refine WPI.value (v := .agg #[s1, s3]) rfl (by kernel_rfl) (ev_loadBox H9 0 rfl 25 (.tmp 2) 0 (.agg #[s1, s3]) rfl (by kernel_rfl) (by kernel_rfl)) ?_
  obtain ⟨t10, ht10, h⟩ := bd_some h
  refine WPI.run 0 ⟨#[.agg #[s1, s3], vi p5, vp b6 0, Z, vb false, Z, Z, Z, Z, .agg #[s1, s3], Z, Z, Z, Z, Z, Z, Z, Z, Z, Z, Z, Z, Z, Z, Z, Z, Z, Z, Z, Z, Z, Z, Z, Z, Z, Z, Z, Z, Z], []⟩ w8 (fun K => by kernel_rfl) ?_
  refine WPI.op rfl (Op1.call (by kernel_rfl) (by kernel_rfl) (g_tarnlaw13_heavy_w fuel s1 l2 s3 l4 t10 ht10 _ (Rd.arg0 hs1 H9) (Rd.arg0 hs3 H9)) ?_)
  rintro _ w11 ⟨rfl, Hc12⟩
  have H13 := St.call0' H9 Hc12
  clear H9 Hc12
  refine WPI.run 0 ⟨#[.agg #[s1, s3], vi p5, vp b6 0, Z, vb false, Z, Z, Z, Z, .agg #[s1, s3], vb t10, Z, Z, Z, Z, Z, Z, Z, Z, Z, Z, Z, Z, Z, Z, Z, Z, Z, Z, Z, Z, Z, Z, Z, Z, Z, Z, Z, Z], []⟩ w11 (fun K => by kernel_rfl) ?_
  refine WPI.done rfl ?_
  refine then_n ?_
  cases t10 with
  | false =>
    replace h := br_f h
    refine WP.condF (by kernel_rfl) ?_
    refine WP.skip ?_
    refine then_n ?_
    refine WP.seq ?_
    refine WP.seq ?_
    refine WP.region ?_
    refine WPI.run 1 ⟨#[.agg #[s1, s3], vi p5, vp b6 0, Z, vb false, vi 0, Z, Z, Z, .agg #[s1, s3], vb false, Z, Z, Z, Z, Z, Z, Z, Z, Z, Z, Z, Z, Z, Z, Z, Z, Z, Z, Z, Z, Z, Z, Z, Z, Z, Z, Z, Z], []⟩ w11 (fun K => by kernel_rfl) ?_
    refine WPI.done rfl ?_
    refine then_n ?_
    obtain ⟨K46, hK46, h⟩ := jn_some h
    refine WP.blockJ (fun a w => ∃ (g14 g15 g16 g17 g18 g19 g20 g21 g22 g23 g24 g25 g26 g27 g28 g29 g30 g31 g32 g33 g34 g35 g36 g37 g38 g39 g40 g41 g42 g43 g44 g45 : Value), a = ⟨#[.agg #[s1, s3], vi p5, vp b6 0, Z, g14, g15, g16, g17, g18, .agg #[s1, s3], vb false, g19, g20, g21, g22, g23, g24, g25, g26, g27, g28, g29, g30, g31, g32, g33, g34, g35, g36, g37, g38, g39, g40, g41, g42, g43, g44, g45, Z], []⟩ ∧ St no w0 w [Box b6 #[s1, s3] 25] ∧ K46 = some r) ?_ ?_
    · skip
      refine WP.loop (fun n a w => ∃ (x48 : Int) (g47 g49 g50 g51 g52 g53 g54 g55 g56 g57 g58 g59 g60 g61 g62 g63 g64 g65 g66 g67 g68 g69 g70 g71 g72 g73 g74 g75 g76 g77 g78 : Value), a = ⟨#[.agg #[s1, s3], vi p5, vp b6 0, Z, g47, vi x48, g49, g50, g51, .agg #[s1, s3], vb false, g52, g53, g54, g55, g56, g57, g58, g59, g60, g61, g62, g63, g64, g65, g66, g67, g68, g69, g70, g71, g72, g73, g74, g75, g76, g77, g78, Z], []⟩ ∧ St no w0 w [Box b6 #[s1, s3] 25] ∧ g_tarnlaw13_only_l1 l4 fuel l2 p5 K46 n x48 = some r) fuel ⟨0, _, _, _, _, _, _, _, _, _, _, _, _, _, _, _, _, _, _, _, _, _, _, _, _, _, _, _, _, _, _, _, rfl, St.sel H13 [0] (by decide) rfl, h⟩ ?_
      rintro n a w ⟨x48, g47, g49, g50, g51, g52, g53, g54, g55, g56, g57, g58, g59, g60, g61, g62, g63, g64, g65, g66, g67, g68, g69, g70, g71, g72, g73, g74, g75, g76, g77, g78, rfl, H, h⟩
      cases n with
      | zero => rw [g_tarnlaw13_only_l1] at h; cases h
      | succ n =>
        rw [g_tarnlaw13_only_l1] at h
        obtain ⟨w79, rfl⟩ : ∃ x, x = w := ⟨_, rfl⟩
        have H80 := H; clear H
        refine WP.seq ?_
        refine WP.seq ?_
        obtain ⟨K90, hK90, h⟩ := jn_some h
        refine WP.onlyN (fun a w => ∃ (c89 : Bool) (g81 g82 g83 g84 g85 g86 g87 g88 : Value), a = ⟨#[.agg #[s1, s3], vi p5, vp b6 0, Z, g47, vi x48, g49, g50, g51, .agg #[s1, s3], vb false, g81, g82, g83, g84, g85, g86, g87, g88, vb c89, g61, g62, g63, g64, g65, g66, g67, g68, g69, g70, g71, g72, g73, g74, g75, g76, g77, g78, Z], []⟩ ∧ St no w0 w [Box b6 #[s1, s3] 25] ∧ K90 c89 = some r) ?_ ?_
        · skip
          refine WP.region ?_
          refine WPI.run 2 ⟨#[.agg #[s1, s3], vi p5, vp b6 0, Z, g47, vi x48, g49, g50, g51, .agg #[s1, s3], vb false, vi x48, vp b6 1, g54, g55, g56, g57, g58, g59, g60, g61, g62, g63, g64, g65, g66, g67, g68, g69, g70, g71, g72, g73, g74, g75, g76, g77, g78, Z], []⟩ w79 (fun K => by kernel_rfl) ?_
          refine WPI.value (v := s3) rfl (by kernel_rfl) (ev_loadBox H80 0 rfl 23 (.tmp 12) 1 (s3) rfl (by kernel_rfl) (by kernel_rfl)) ?_
          refine WPI.run 0 ⟨#[.agg #[s1, s3], vi p5, vp b6 0, Z, g47, vi x48, g49, g50, g51, .agg #[s1, s3], vb false, vi x48, vp b6 1, s3, g55, g56, g57, g58, g59, g60, g61, g62, g63, g64, g65, g66, g67, g68, g69, g70, g71, g72, g73, g74, g75, g76, g77, g78, Z], []⟩ w79 (fun K => by kernel_rfl) ?_
          refine WPI.value (v := vi (((List.length l4 : Nat) : Int))) rfl (by kernel_rfl) (ev_len (Rd.sl hs3) 23 (.tmp 13) 45 7 56 rfl (by kernel_rfl) (by kernel_rfl)) ?_
          obtain ⟨c91, hc91, h⟩ := lt_some h
          refine WPI.run 2 ⟨#[.agg #[s1, s3], vi p5, vp b6 0, Z, g47, vi x48, g49, g50, g51, .agg #[s1, s3], vb false, vi x48, vp b6 1, s3, vi (((List.length l4 : Nat) : Int)), vb c91, vb c91, g58, g59, g60, g61, g62, g63, g64, g65, g66, g67, g68, g69, g70, g71, g72, g73, g74, g75, g76, g77, g78, Z], []⟩ w79 (fun K => by subst hc91; kernel_rfl) ?_
          cases c91 with
          | false =>
            replace h := br_f h
            refine WPI.run 3 ⟨#[.agg #[s1, s3], vi p5, vp b6 0, Z, g47, vi x48, g49, g50, g51, .agg #[s1, s3], vb false, vi x48, vp b6 1, s3, vi (((List.length l4 : Nat) : Int)), vb false, vb false, Z, Z, vb false, g61, g62, g63, g64, g65, g66, g67, g68, g69, g70, g71, g72, g73, g74, g75, g76, g77, g78, Z], []⟩ w79 (fun K => by kernel_rfl) ?_
            refine WPI.done rfl ?_
            exact ⟨false, _, _, _, _, _, _, _, _, rfl, St.sel H80 [0] (by decide) rfl, h⟩
          | true =>
            replace h := br_t h
            obtain ⟨c92, hc92, h⟩ := lt_some h
            refine WPI.run 3 ⟨#[.agg #[s1, s3], vi p5, vp b6 0, Z, g47, vi x48, g49, g50, g51, .agg #[s1, s3], vb false, vi x48, vp b6 1, s3, vi (((List.length l4 : Nat) : Int)), vb true, vb true, vi x48, vb c92, vb c92, g61, g62, g63, g64, g65, g66, g67, g68, g69, g70, g71, g72, g73, g74, g75, g76, g77, g78, Z], []⟩ w79 (fun K => by subst hc92; kernel_rfl) ?_
            refine WPI.done rfl ?_
            exact ⟨c92, _, _, _, _, _, _, _, _, rfl, St.sel H80 [0] (by decide) rfl, h⟩
        · rintro a w ⟨c89, g81, g82, g83, g84, g85, g86, g87, g88, rfl, H, h⟩
          subst hK90
          obtain ⟨w93, rfl⟩ : ∃ x, x = w := ⟨_, rfl⟩
          have H94 := H; clear H
          refine then_n ?_
          cases c89 with
          | false =>
            replace h := br_f h
            refine WP.condF (by kernel_rfl) ?_
            refine WP.exit ?_
            exact then_e (then_e (inb_e (then_n ⟨_, _, _, _, _, _, _, _, _, _, _, _, _, _, _, _, _, _, _, _, _, _, _, _, _, _, _, _, _, _, _, _, rfl, St.sel H94 [0] (by decide) rfl, h⟩)))
          | true =>
            replace h := br_t h
            refine WP.condT (by kernel_rfl) ?_
            refine WP.skip ?_
            refine then_n ?_
            refine WP.seq ?_
            refine WP.block ?_
            refine WP.seq ?_
            refine WP.region ?_
            refine WPI.run 1 ⟨#[.agg #[s1, s3], vi p5, vp b6 0, Z, g47, vi x48, g49, g50, g51, .agg #[s1, s3], vb false, g81, g82, g83, g84, g85, g86, g87, g88, vb true, g61, g62, vp b6 1, g64, g65, g66, g67, g68, g69, g70, g71, g72, g73, g74, g75, g76, g77, g78, Z], []⟩ w93 (fun K => by kernel_rfl) ?_
            refine WPI.value (v := s3) rfl (by kernel_rfl) (ev_loadBox H94 0 rfl 23 (.tmp 22) 1 (s3) rfl (by kernel_rfl) (by kernel_rfl)) ?_
            obtain ⟨hg95, h⟩ := gd_some h
            refine WPI.run 1 ⟨#[.agg #[s1, s3], vi p5, vp b6 0, Z, g47, vi x48, g49, g50, g51, .agg #[s1, s3], vb false, g81, g82, g83, g84, g85, g86, g87, g88, vb true, g61, g62, vp b6 1, s3, vi x48, g66, g67, g68, g69, g70, g71, g72, g73, g74, g75, g76, g77, g78, Z], []⟩ w93 (fun K => by kernel_rfl) ?_
            refine WPI.value (v := va (slAt s3 7 (Int.toNat x48))) rfl (by kernel_rfl) (ev_index (Rd.sl hs3) 23 (.tmp 23) (.tmp 24) 45 7 56 .i64 x48 rfl (by kernel_rfl) (by kernel_rfl) (by kernel_rfl) hg95) ?_
            obtain ⟨x96, hx96, h⟩ := bd_some h
            refine WPI.run 0 ⟨#[.agg #[s1, s3], vi p5, vp b6 0, Z, g47, vi x48, g49, g50, g51, .agg #[s1, s3], vb false, g81, g82, g83, g84, g85, g86, g87, g88, vb true, g61, g62, vp b6 1, s3, vi x48, va (slAt s3 7 (Int.toNat x48)), g67, g68, g69, g70, g71, g72, g73, g74, g75, g76, g77, g78, Z], []⟩ w93 (fun K => by kernel_rfl) ?_
            refine WPI.value (v := Ttarnlaw13_Act.val x96) rfl (by kernel_rfl) (ev_loadEl (F := fTtarnlaw13_Act) hs3 (St.hp_le H94) hx96 45 (.tmp 25) 0 (Ttarnlaw13_Act.val x96) rfl (by kernel_rfl) (by kernel_rfl)) ?_
            refine WPI.run 0 ⟨#[.agg #[s1, s3], vi p5, vp b6 0, Z, g47, vi x48, g49, g50, g51, .agg #[s1, s3], vb false, g81, g82, g83, g84, g85, g86, g87, g88, vb true, g61, g62, vp b6 1, s3, vi x48, va (slAt s3 7 (Int.toNat x48)), Ttarnlaw13_Act.val x96, g68, g69, g70, g71, g72, g73, g74, g75, g76, g77, g78, Z], []⟩ w93 (fun K => by kernel_rfl) ?_
            refine WPI.op rfl (Op1.alloc H94 #[vi 0, vi 0, vi 0, vu 0, vu 0, vu 0, vu 0] (by kernel_rfl) 45 rfl (by kernel_rfl) (fun b97 w99 H100 => ?_))
            clear H94
            refine WPI.run 0 ⟨#[.agg #[s1, s3], vi p5, vp b6 0, Z, g47, vi x48, vp b97 0, g50, g51, .agg #[s1, s3], vb false, g81, g82, g83, g84, g85, g86, g87, g88, vb true, g61, g62, vp b6 1, s3, vi x48, va (slAt s3 7 (Int.toNat x48)), Ttarnlaw13_Act.val x96, g68, g69, g70, g71, g72, g73, g74, g75, g76, g77, g78, Z], []⟩ w99 (fun K => by kernel_rfl) ?_
            refine WPI.op rfl (Op1.storeBox H100 0 rfl (by kernel_rfl) 45 (.tmp 6) (.tmp 26) 0 (Ttarnlaw13_Act.val x96) (Ttarnlaw13_Act.cs x96).toArray true rfl (by kernel_rfl) (by kernel_rfl) (by kernel_rfl) (by kernel_rfl) (by kernel_rfl) (flat_one1 fTtarnlaw13_Act x96) (fun w101 H102 => ?_))
            clear H100
            refine WPI.run 0 ⟨#[.agg #[s1, s3], vi p5, vp b6 0, Z, g47, vi x48, vp b97 0, g50, g51, .agg #[s1, s3], vb false, g81, g82, g83, g84, g85, g86, g87, g88, vb true, g61, g62, vp b6 1, s3, vi x48, va (slAt s3 7 (Int.toNat x48)), Ttarnlaw13_Act.val x96, g68, g69, g70, g71, g72, g73, g74, g75, g76, g77, g78, Z], []⟩ w101 (fun K => by kernel_rfl) ?_
            refine WPI.done rfl ?_
            refine then_n ?_
            refine WP.seq ?_
            refine WP.region ?_
            refine WPI.run 2 ⟨#[.agg #[s1, s3], vi p5, vp b6 0, Z, g47, vi x48, vp b97 0, g50, g51, .agg #[s1, s3], vb false, g81, g82, g83, g84, g85, g86, g87, g88, vb true, g61, g62, vp b6 1, s3, vi x48, va (slAt s3 7 (Int.toNat x48)), Ttarnlaw13_Act.val x96, vi p5, vp b97 0, g70, g71, g72, g73, g74, g75, g76, g77, g78, Z], []⟩ w101 (fun K => by kernel_rfl) ?_
            refine WPI.op rfl (Op1.storeBox H102 0 rfl (by kernel_rfl) 3 (.tmp 28) (.tmp 27) 0 (vi p5) #[vi p5, vi x96.N.Acct, vi x96.N.Rank.Dist, vu x96.N.Rank.Tip.e0, vu x96.N.Rank.Tip.e1, vu x96.N.Rank.Tip.e2, vu x96.N.Rank.Tip.e3] false rfl (by kernel_rfl) (by kernel_rfl) (by kernel_rfl) (by kernel_rfl) (by kernel_rfl) (flat_one1 fI64 p5) (fun w103 H104 => ?_))
            clear H102
            refine WPI.run 0 ⟨#[.agg #[s1, s3], vi p5, vp b6 0, Z, g47, vi x48, vp b97 0, g50, g51, .agg #[s1, s3], vb false, g81, g82, g83, g84, g85, g86, g87, g88, vb true, g61, g62, vp b6 1, s3, vi x48, va (slAt s3 7 (Int.toNat x48)), Ttarnlaw13_Act.val x96, vi p5, vp b97 0, g70, g71, g72, g73, g74, g75, g76, g77, g78, Z], []⟩ w103 (fun K => by kernel_rfl) ?_
            refine WPI.done rfl ?_
            refine then_n ?_
            refine WP.seq ?_
            refine WP.region ?_
            refine WPI.run 1 ⟨#[.agg #[s1, s3], vi p5, vp b6 0, Z, g47, vi x48, vp b97 0, g50, g51, .agg #[s1, s3], vb false, g81, g82, g83, g84, g85, g86, g87, g88, vb true, g61, g62, vp b6 1, s3, vi x48, va (slAt s3 7 (Int.toNat x48)), Ttarnlaw13_Act.val x96, vi p5, vp b97 0, g70, vp b6 0, g72, g73, g74, g75, g76, g77, g78, Z], []⟩ w103 (fun K => by kernel_rfl) ?_
            refine WPI.value (v := s1) rfl (by kernel_rfl) (ev_loadBox H104 1 rfl 22 (.tmp 30) 0 (s1) rfl (by kernel_rfl) (by kernel_rfl)) ?_
            refine WPI.run 0 ⟨#[.agg #[s1, s3], vi p5, vp b6 0, Z, g47, vi x48, vp b97 0, g50, g51, .agg #[s1, s3], vb false, g81, g82, g83, g84, g85, g86, g87, g88, vb true, g61, g62, vp b6 1, s3, vi x48, va (slAt s3 7 (Int.toNat x48)), Ttarnlaw13_Act.val x96, vi p5, vp b97 0, g70, vp b6 0, s1, g73, g74, g75, g76, g77, g78, Z], []⟩ w103 (fun K => by kernel_rfl) ?_
            refine WPI.value (v := .agg #[vi p5, vi x96.N.Acct, vi x96.N.Rank.Dist, vu x96.N.Rank.Tip.e0, vu x96.N.Rank.Tip.e1, vu x96.N.Rank.Tip.e2, vu x96.N.Rank.Tip.e3]) rfl (by kernel_rfl) (ev_loadBox H104 0 rfl 45 (.tmp 6) 0 (.agg #[vi p5, vi x96.N.Acct, vi x96.N.Rank.Dist, vu x96.N.Rank.Tip.e0, vu x96.N.Rank.Tip.e1, vu x96.N.Rank.Tip.e2, vu x96.N.Rank.Tip.e3]) rfl (by kernel_rfl) (by kernel_rfl)) ?_
            obtain ⟨t105, ht105, h⟩ := bd_some h
            refine WPI.run 0 ⟨#[.agg #[s1, s3], vi p5, vp b6 0, Z, g47, vi x48, vp b97 0, g50, g51, .agg #[s1, s3], vb false, g81, g82, g83, g84, g85, g86, g87, g88, vb true, g61, g62, vp b6 1, s3, vi x48, va (slAt s3 7 (Int.toNat x48)), Ttarnlaw13_Act.val x96, vi p5, vp b97 0, g70, vp b6 0, s1, .agg #[vi p5, vi x96.N.Acct, vi x96.N.Rank.Dist, vu x96.N.Rank.Tip.e0, vu x96.N.Rank.Tip.e1, vu x96.N.Rank.Tip.e2, vu x96.N.Rank.Tip.e3], g74, g75, g76, g77, g78, Z], []⟩ w103 (fun K => by kernel_rfl) ?_
            refine WPI.op rfl (Op1.call (by kernel_rfl) (by kernel_rfl) (g_tarnlaw13_step_w fuel s1 l2 (Ttarnlaw13_Act.mk p5 x96.N) t105 ht105 _ (Rd.arg0 hs1 H104)) ?_)
            rintro _ w108 ⟨s106, rfl, hr107, Hc109⟩
            have H110 := St.call0' H104 Hc109
            clear H104 Hc109
            refine WPI.run 5 ⟨#[.agg #[s1, s3], vi p5, vp b6 0, Z, g47, vi x48, vp b97 0, s106, vb t105.2, .agg #[s1, s3], vb false, g81, g82, g83, g84, g85, g86, g87, g88, vb true, g61, g62, vp b6 1, s3, vi x48, va (slAt s3 7 (Int.toNat x48)), Ttarnlaw13_Act.val x96, vi p5, vp b97 0, .tuple #[s106, vb t105.2], vp b6 0, s1, .agg #[vi p5, vi x96.N.Acct, vi x96.N.Rank.Dist, vu x96.N.Rank.Tip.e0, vu x96.N.Rank.Tip.e1, vu x96.N.Rank.Tip.e2, vu x96.N.Rank.Tip.e3], .tuple #[s106, vb t105.2], s106, vb t105.2, g77, g78, Z], []⟩ w108 (fun K => by kernel_rfl) ?_
            refine WPI.done rfl ?_
            refine then_n ?_
            refine WP.seq ?_
            refine WP.region ?_
            obtain ⟨c111, hc111, h⟩ := lt_some h
            refine WPI.run 2 ⟨#[.agg #[s1, s3], vi p5, vp b6 0, Z, g47, vi x48, vp b97 0, s106, vb t105.2, .agg #[s1, s3], vb false, g81, g82, g83, g84, g85, g86, g87, g88, vb true, g61, g62, vp b6 1, s3, vi x48, va (slAt s3 7 (Int.toNat x48)), Ttarnlaw13_Act.val x96, vi p5, vp b97 0, .tuple #[s106, vb t105.2], vp b6 0, s1, .agg #[vi p5, vi x96.N.Acct, vi x96.N.Rank.Dist, vu x96.N.Rank.Tip.e0, vu x96.N.Rank.Tip.e1, vu x96.N.Rank.Tip.e2, vu x96.N.Rank.Tip.e3], .tuple #[s106, vb t105.2], s106, vb t105.2, vb t105.2, vb c111, Z], []⟩ w108 (fun K => by subst hc111; kernel_rfl) ?_
            refine WPI.done rfl ?_
            refine then_n ?_
            cases c111 with
            | false =>
              replace h := br_f h
              refine WP.condF (by kernel_rfl) ?_
              refine WP.skip ?_
              refine inb_n (then_n ?_)
              refine WP.region ?_
              obtain ⟨x112, hx112, h⟩ := lt_some h
              refine WPI.run 3 ⟨#[.agg #[s1, s3], vi p5, vp b6 0, Z, g47, vi x112, vp b97 0, s106, vb t105.2, .agg #[s1, s3], vb false, g81, g82, g83, g84, g85, g86, g87, g88, vb true, vi x48, vi x112, vp b6 1, s3, vi x48, va (slAt s3 7 (Int.toNat x48)), Ttarnlaw13_Act.val x96, vi p5, vp b97 0, .tuple #[s106, vb t105.2], vp b6 0, s1, .agg #[vi p5, vi x96.N.Acct, vi x96.N.Rank.Dist, vu x96.N.Rank.Tip.e0, vu x96.N.Rank.Tip.e1, vu x96.N.Rank.Tip.e2, vu x96.N.Rank.Tip.e3], .tuple #[s106, vb t105.2], s106, vb t105.2, vb t105.2, vb false, Z], []⟩ w108 (fun K => by subst hx112; kernel_rfl) ?_
              refine WPI.done rfl ?_
              exact then_n ⟨n, Nat.lt_succ_self n, x112, _, _, _, _, _, _, _, _, _, _, _, _, _, _, _, _, _, _, _, _, _, _, _, _, _, _, _, _, _, _, _, rfl, St.sel H110 [1] (by decide) rfl, h⟩
            | true =>
              replace h := br_t h
              refine WP.condT (by kernel_rfl) ?_
              refine WP.seq ?_
              refine WP.region ?_
              refine WPI.run 1 ⟨#[.agg #[s1, s3], vi p5, vp b6 0, Z, vb false, vi x48, vp b97 0, s106, vb t105.2, .agg #[s1, s3], vb false, g81, g82, g83, g84, g85, g86, g87, g88, vb true, g61, g62, vp b6 1, s3, vi x48, va (slAt s3 7 (Int.toNat x48)), Ttarnlaw13_Act.val x96, vi p5, vp b97 0, .tuple #[s106, vb t105.2], vp b6 0, s1, .agg #[vi p5, vi x96.N.Acct, vi x96.N.Rank.Dist, vu x96.N.Rank.Tip.e0, vu x96.N.Rank.Tip.e1, vu x96.N.Rank.Tip.e2, vu x96.N.Rank.Tip.e3], .tuple #[s106, vb t105.2], s106, vb t105.2, vb t105.2, vb true, Z], []⟩ w108 (fun K => by kernel_rfl) ?_
              refine WPI.done rfl ?_
              refine then_n ?_
              refine WP.ret ?_
              obtain rfl := Option.some.inj h
              exact inb_r (then_r (then_r (inb_r (then_r (then_r (post_r (vb false) rfl (by kernel_rfl) ⟨rfl, St.sel H110 [] (by decide) rfl⟩))))))
    · rintro a w ⟨g14, g15, g16, g17, g18, g19, g20, g21, g22, g23, g24, g25, g26, g27, g28, g29, g30, g31, g32, g33, g34, g35, g36, g37, g38, g39, g40, g41, g42, g43, g44, g45, rfl, H, h⟩
      subst hK46
      obtain ⟨w113, rfl⟩ : ∃ x, x = w := ⟨_, rfl⟩
      have H114 := H; clear H
      refine then_n ?_
      refine WP.seq ?_
      refine WP.region ?_
      obtain ⟨t115, ht115, h⟩ := bd_some h
      refine WPI.op rfl (Op1.call (by kernel_rfl) (by kernel_rfl) (g_tarnlaw13_wakes_w fuel t115 ht115 _) ?_)
      rintro _ w116 ⟨rfl, Hc117⟩
      have H118 := St.call0' H114 Hc117
      clear H114 Hc117
      refine WPI.run 1 ⟨#[.agg #[s1, s3], vi p5, vp b6 0, Z, vb t115, g15, g16, g17, g18, .agg #[s1, s3], vb false, g19, g20, g21, g22, g23, g24, g25, g26, g27, g28, g29, g30, g31, g32, g33, g34, g35, g36, g37, g38, g39, g40, g41, g42, g43, g44, g45, vb t115], []⟩ w116 (fun K => by kernel_rfl) ?_
      refine WPI.done rfl ?_
      refine then_n ?_
      refine WP.ret ?_
      obtain rfl := Option.some.inj h
      exact post_r (vb t115) rfl (by kernel_rfl) ⟨rfl, St.sel H118 [] (by decide) rfl⟩
  | true =>
    replace h := br_t h
    refine WP.condT (by kernel_rfl) ?_
    refine WP.seq ?_
    refine WP.region ?_
    refine WPI.run 1 ⟨#[.agg #[s1, s3], vi p5, vp b6 0, Z, vb true, Z, Z, Z, Z, .agg #[s1, s3], vb true, Z, Z, Z, Z, Z, Z, Z, Z, Z, Z, Z, Z, Z, Z, Z, Z, Z, Z, Z, Z, Z, Z, Z, Z, Z, Z, Z, Z], []⟩ w11 (fun K => by kernel_rfl) ?_
    refine WPI.done rfl ?_
    refine then_n ?_
    refine WP.ret ?_
    obtain rfl := Option.some.inj h
    exact then_r (post_r (vb true) rfl (by kernel_rfl) ⟨rfl, St.sel H13 [] (by decide) rfl⟩)
end Go.Proofs
