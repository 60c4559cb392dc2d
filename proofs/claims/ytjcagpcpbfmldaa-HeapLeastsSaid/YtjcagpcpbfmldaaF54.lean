import Derived.Test.YtjcagpcpbfmldaaGw
import Derived.Test.YtjcagpcpbfmldaaProg
import Derived.Test.YtjcagpcpbfmldaaT
set_option linter.unusedVariables false
set_option linter.unusedSimpArgs false
set_option maxRecDepth 100000
set_option maxHeartbeats 4000000
namespace Go.Proofs
open Gw Go.RowKit
/- tarn/u256.Cmp -/
def g_u256_Cmp_l1 (p1 : TU256) (p2 : TU256) (K33 : Option Int) (fuel : Nat) : Nat → Int → Option Int
  | 0, _ => none
  | n + 1, x35 => lt (decide (x35 ≥ 0)) fun c58 => br c58 (gd ((0 : Int) ≤ x35 ∧ x35 < 4) <| bd (([p1.e0, p1.e1, p1.e2, p1.e3] : List Int)[Int.toNat x35]?) fun x60 => gd ((0 : Int) ≤ x35 ∧ x35 < 4) <| bd (([p2.e0, p2.e1, p2.e2, p2.e3] : List Int)[Int.toNat x35]?) fun x62 => lt (decide (x60 < x62)) fun c63 => br c63 (some ((-1))) (gd ((0 : Int) ≤ x35 ∧ x35 < 4) <| bd (([p1.e0, p1.e1, p1.e2, p1.e3] : List Int)[Int.toNat x35]?) fun x67 => gd ((0 : Int) ≤ x35 ∧ x35 < 4) <| bd (([p2.e0, p2.e1, p2.e2, p2.e3] : List Int)[Int.toNat x35]?) fun x69 => lt (decide (x67 > x69)) fun c70 => br c70 (some 1) (lt (wr .i64 (x35 - 1)) fun x73 => g_u256_Cmp_l1 p1 p2 K33 fuel n x73))) (K33)
def g_u256_Cmp (fuel : Nat) (p1 : TU256) (p2 : TU256) : Option Int :=
  jn (some 0) fun K33 => g_u256_Cmp_l1 p1 p2 K33 fuel fuel 3
theorem g_u256_Cmp_w (fuel : Nat) (p1 : TU256) (p2 : TU256) (r : Int) (h : g_u256_Cmp fuel p1 p2 = some r) (w0 : World) :
    Ret Try.prog 54 #[TU256.val p1, TU256.val p2] w0 (fun v w' => v = vi r ∧ St no w0 w' []) := by
  unfold g_u256_Cmp at h
  refine ret_of_wp Try.func54 rfl #[TU256.val p1, TU256.val p2, Z, Z, Z, Z, Z, Z, Z, Z, Z, Z, Z, Z, Z, Z, Z, Z, Z, Z, Z, Z, Z, Z, Z, Z] (by kernel_rfl) ?_
  have H0 := St.start w0
  refine WP.seq ?_
  refine WP.region ?_
  refine WPI.op rfl (Op1.box H0 (TU256.cs p1).toArray (by kernel_rfl) 29 (.tmp 0) rfl (by kernel_rfl) (fun b3 w5 H6 => ?_))
  refine WPI.run 0 ⟨#[TU256.val p1, TU256.val p2, vp b3 0, Z, Z, Z, Z, Z, Z, Z, Z, Z, Z, Z, Z, Z, Z, Z, Z, Z, Z, Z, Z, Z, Z, Z], []⟩ w5 (fun K => by kernel_rfl) ?_
  refine WPI.op rfl (Op1.box H6 (TU256.cs p2).toArray (by kernel_rfl) 29 (.tmp 1) rfl (by kernel_rfl) (fun b7 w9 H10 => ?_))
  clear H6
  refine WPI.run 1 ⟨#[TU256.val p1, TU256.val p2, vp b3 0, vp b7 0, vi 0, Z, Z, Z, Z, Z, Z, Z, Z, Z, Z, Z, Z, Z, Z, Z, Z, Z, Z, Z, Z, Z], []⟩ w9 (fun K => by kernel_rfl) ?_
  refine WPI.done rfl ?_
  refine then_n ?_
  refine WP.seq ?_
  refine WP.seq ?_
  refine WP.region ?_
  refine WPI.run 1 ⟨#[TU256.val p1, TU256.val p2, vp b3 0, vp b7 0, vi 0, vi 3, Z, Z, Z, Z, Z, Z, Z, Z, Z, Z, Z, Z, Z, Z, Z, Z, Z, Z, Z, Z], []⟩ w9 (fun K => by kernel_rfl) ?_
  refine WPI.done rfl ?_
  refine then_n ?_
  obtain ⟨K33, hK33, h⟩ := jn_some h
  refine WP.blockJ (fun a w => ∃ (g11 g12 g13 g14 g15 g16 g17 g18 g19 g20 g21 g22 g23 g24 g25 g26 g27 g28 g29 g30 g31 g32 : Value), a = ⟨#[TU256.val p1, TU256.val p2, vp b3 0, vp b7 0, g11, g12, g13, g14, g15, g16, g17, g18, g19, g20, g21, g22, g23, g24, g25, g26, g27, g28, g29, g30, g31, g32], []⟩ ∧ St no w0 w [Box b7 (TU256.cs p2).toArray 29, Box b3 (TU256.cs p1).toArray 29] ∧ K33 = some r) ?_ ?_
  · skip
    refine WP.loop (fun n a w => ∃ (x35 : Int) (g34 g36 g37 g38 g39 g40 g41 g42 g43 g44 g45 g46 g47 g48 g49 g50 g51 g52 g53 g54 g55 : Value), a = ⟨#[TU256.val p1, TU256.val p2, vp b3 0, vp b7 0, g34, vi x35, g36, g37, g38, g39, g40, g41, g42, g43, g44, g45, g46, g47, g48, g49, g50, g51, g52, g53, g54, g55], []⟩ ∧ St no w0 w [Box b7 (TU256.cs p2).toArray 29, Box b3 (TU256.cs p1).toArray 29] ∧ g_u256_Cmp_l1 p1 p2 K33 fuel n x35 = some r) fuel ⟨3, _, _, _, _, _, _, _, _, _, _, _, _, _, _, _, _, _, _, _, _, _, rfl, St.sel H10 [0, 1] (by decide) rfl, h⟩ ?_
    rintro n a w ⟨x35, g34, g36, g37, g38, g39, g40, g41, g42, g43, g44, g45, g46, g47, g48, g49, g50, g51, g52, g53, g54, g55, rfl, H, h⟩
    cases n with
    | zero => rw [g_u256_Cmp_l1] at h; cases h
    | succ n =>
      rw [g_u256_Cmp_l1] at h
      obtain ⟨w56, rfl⟩ : ∃ x, x = w := ⟨_, rfl⟩
      have H57 := H; clear H
      refine WP.seq ?_
      refine WP.seq ?_
      refine WP.region ?_
      obtain ⟨c58, hc58, h⟩ := lt_some h
      refine WPI.run 2 ⟨#[TU256.val p1, TU256.val p2, vp b3 0, vp b7 0, g34, vi x35, vi x35, vb c58, g38, g39, g40, g41, g42, g43, g44, g45, g46, g47, g48, g49, g50, g51, g52, g53, g54, g55], []⟩ w56 (fun K => by subst hc58; kernel_rfl) ?_
      refine WPI.done rfl ?_
      refine then_n ?_
      cases c58 with
      | false =>
        replace h := br_f h
        refine WP.condF (by kernel_rfl) ?_
        refine WP.exit ?_
        exact then_e (then_e (inb_e (then_n ⟨_, _, _, _, _, _, _, _, _, _, _, _, _, _, _, _, _, _, _, _, _, _, rfl, St.sel H57 [0, 1] (by decide) rfl, h⟩)))
      | true =>
        replace h := br_t h
        refine WP.condT (by kernel_rfl) ?_
        refine WP.skip ?_
        refine then_n ?_
        refine WP.seq ?_
        refine WP.block ?_
        refine WP.block ?_
        refine WP.seq ?_
        refine WP.quiet (by kernel_rfl) (by kernel_rfl) (by kernel_rfl) (fun w => St no w0 w [Box b7 (TU256.cs p2).toArray 29, Box b3 (TU256.cs p1).toArray 29]) (St.drew H57) ?_
        refine WQ.value (v := vi x35) rfl (by kernel_rfl) (fun w _ => by kernel_rfl) ?_
        obtain ⟨hg59, h⟩ := gd_some h
        refine WQ.value (v := va (((⟨b3, 0, none⟩ : Addr).add 0).add (Int.toNat x35 * 1))) rfl (by kernel_rfl) (fun w H => ev_indexArr (ad := (⟨b3, 0, none⟩ : Addr).add 0) 29 (.tmp 2) (.tmp 11) 4 27 1 .i64 x35 rfl (by kernel_rfl) (by kernel_rfl) (by kernel_rfl) hg59) ?_
        obtain ⟨x60, hx60, h⟩ := bd_some h
        refine WQ.value (v := vu x60) rfl (by kernel_rfl) (fun w H => ev_load 27 (.tmp 12) 0 (vu x60) (CellsAt.elem fU64 (St.boxAt H 1 rfl) 0 [p1.e0, p1.e1, p1.e2, p1.e3] [] (by kernel_rfl) _ _ hx60) (le_self _) rfl (by kernel_rfl) (by kernel_rfl)) ?_
        refine WQ.value (v := vi x35) rfl (by kernel_rfl) (fun w _ => by kernel_rfl) ?_
        obtain ⟨hg61, h⟩ := gd_some h
        refine WQ.value (v := va (((⟨b7, 0, none⟩ : Addr).add 0).add (Int.toNat x35 * 1))) rfl (by kernel_rfl) (fun w H => ev_indexArr (ad := (⟨b7, 0, none⟩ : Addr).add 0) 29 (.tmp 3) (.tmp 14) 4 27 1 .i64 x35 rfl (by kernel_rfl) (by kernel_rfl) (by kernel_rfl) hg61) ?_
        obtain ⟨x62, hx62, h⟩ := bd_some h
        refine WQ.value (v := vu x62) rfl (by kernel_rfl) (fun w H => ev_load 27 (.tmp 15) 0 (vu x62) (CellsAt.elem fU64 (St.boxAt H 0 rfl) 0 [p2.e0, p2.e1, p2.e2, p2.e3] [] (by kernel_rfl) _ _ hx62) (le_self _) rfl (by kernel_rfl) (by kernel_rfl)) ?_
        obtain ⟨c63, hc63, h⟩ := lt_some h
        refine WQ.value (v := vb c63) rfl (by kernel_rfl) (fun w _ => by subst hc63; kernel_rfl) ?_
        refine WQ.value (v := vb c63) rfl (by kernel_rfl) (fun w _ => by kernel_rfl) ?_
        refine WQ.frame (a' := ⟨#[TU256.val p1, TU256.val p2, vp b3 0, vp b7 0, g34, vi x35, vi x35, vb true, g38, g39, vb c63, vi x35, va (((⟨b3, 0, none⟩ : Addr).add 0).add (Int.toNat x35 * 1)), vu x60, vi x35, va (((⟨b7, 0, none⟩ : Addr).add 0).add (Int.toNat x35 * 1)), vu x62, vb c63, g48, g49, g50, g51, g52, g53, g54, g55], []⟩) (by kernel_rfl) ?_
        refine WQ.done rfl ?_
        refine (fun w64 H65 => ?_)
        refine then_n ?_
        cases c63 with
        | false =>
          replace h := br_f h
          refine WP.condF (by kernel_rfl) ?_
          refine WP.seq ?_
          refine WP.quiet (by kernel_rfl) (by kernel_rfl) (by kernel_rfl) (fun w => St no w0 w [Box b7 (TU256.cs p2).toArray 29, Box b3 (TU256.cs p1).toArray 29]) (St.drew H65) ?_
          refine WQ.value (v := vi x35) rfl (by kernel_rfl) (fun w _ => by kernel_rfl) ?_
          obtain ⟨hg66, h⟩ := gd_some h
          refine WQ.value (v := va (((⟨b3, 0, none⟩ : Addr).add 0).add (Int.toNat x35 * 1))) rfl (by kernel_rfl) (fun w H => ev_indexArr (ad := (⟨b3, 0, none⟩ : Addr).add 0) 29 (.tmp 2) (.tmp 19) 4 27 1 .i64 x35 rfl (by kernel_rfl) (by kernel_rfl) (by kernel_rfl) hg66) ?_
          obtain ⟨x67, hx67, h⟩ := bd_some h
          refine WQ.value (v := vu x67) rfl (by kernel_rfl) (fun w H => ev_load 27 (.tmp 20) 0 (vu x67) (CellsAt.elem fU64 (St.boxAt H 1 rfl) 0 [p1.e0, p1.e1, p1.e2, p1.e3] [] (by kernel_rfl) _ _ hx67) (le_self _) rfl (by kernel_rfl) (by kernel_rfl)) ?_
          refine WQ.value (v := vi x35) rfl (by kernel_rfl) (fun w _ => by kernel_rfl) ?_
          obtain ⟨hg68, h⟩ := gd_some h
          refine WQ.value (v := va (((⟨b7, 0, none⟩ : Addr).add 0).add (Int.toNat x35 * 1))) rfl (by kernel_rfl) (fun w H => ev_indexArr (ad := (⟨b7, 0, none⟩ : Addr).add 0) 29 (.tmp 3) (.tmp 22) 4 27 1 .i64 x35 rfl (by kernel_rfl) (by kernel_rfl) (by kernel_rfl) hg68) ?_
          obtain ⟨x69, hx69, h⟩ := bd_some h
          refine WQ.value (v := vu x69) rfl (by kernel_rfl) (fun w H => ev_load 27 (.tmp 23) 0 (vu x69) (CellsAt.elem fU64 (St.boxAt H 0 rfl) 0 [p2.e0, p2.e1, p2.e2, p2.e3] [] (by kernel_rfl) _ _ hx69) (le_self _) rfl (by kernel_rfl) (by kernel_rfl)) ?_
          obtain ⟨c70, hc70, h⟩ := lt_some h
          refine WQ.value (v := vb c70) rfl (by kernel_rfl) (fun w _ => by subst hc70; kernel_rfl) ?_
          refine WQ.value (v := vb c70) rfl (by kernel_rfl) (fun w _ => by kernel_rfl) ?_
          refine WQ.frame (a' := ⟨#[TU256.val p1, TU256.val p2, vp b3 0, vp b7 0, g34, vi x35, vi x35, vb true, g38, g39, vb false, vi x35, va (((⟨b3, 0, none⟩ : Addr).add 0).add (Int.toNat x35 * 1)), vu x60, vi x35, va (((⟨b7, 0, none⟩ : Addr).add 0).add (Int.toNat x35 * 1)), vu x62, vb false, vb c70, vi x35, va (((⟨b3, 0, none⟩ : Addr).add 0).add (Int.toNat x35 * 1)), vu x67, vi x35, va (((⟨b7, 0, none⟩ : Addr).add 0).add (Int.toNat x35 * 1)), vu x69, vb c70], []⟩) (by kernel_rfl) ?_
          refine WQ.done rfl ?_
          refine (fun w71 H72 => ?_)
          refine then_n ?_
          cases c70 with
          | false =>
            replace h := br_f h
            refine WP.condF (by kernel_rfl) ?_
            refine WP.skip ?_
            refine inb_n (inb_n (then_n ?_))
            refine WP.region ?_
            obtain ⟨x73, hx73, h⟩ := lt_some h
            refine WPI.run 3 ⟨#[TU256.val p1, TU256.val p2, vp b3 0, vp b7 0, g34, vi x73, vi x35, vb true, vi x35, vi x73, vb false, vi x35, va (((⟨b3, 0, none⟩ : Addr).add 0).add (Int.toNat x35 * 1)), vu x60, vi x35, va (((⟨b7, 0, none⟩ : Addr).add 0).add (Int.toNat x35 * 1)), vu x62, vb false, vb false, vi x35, va (((⟨b3, 0, none⟩ : Addr).add 0).add (Int.toNat x35 * 1)), vu x67, vi x35, va (((⟨b7, 0, none⟩ : Addr).add 0).add (Int.toNat x35 * 1)), vu x69, vb false], []⟩ w71 (fun K => by subst hx73; kernel_rfl) ?_
            refine WPI.done rfl ?_
            exact then_n ⟨n, Nat.lt_succ_self n, x73, _, _, _, _, _, _, _, _, _, _, _, _, _, _, _, _, _, _, _, _, _, rfl, St.sel H72 [0, 1] (by decide) rfl, h⟩
          | true =>
            replace h := br_t h
            refine WP.condT (by kernel_rfl) ?_
            refine WP.seq ?_
            refine WP.region ?_
            refine WPI.run 1 ⟨#[TU256.val p1, TU256.val p2, vp b3 0, vp b7 0, vi 1, vi x35, vi x35, vb true, g38, g39, vb false, vi x35, va (((⟨b3, 0, none⟩ : Addr).add 0).add (Int.toNat x35 * 1)), vu x60, vi x35, va (((⟨b7, 0, none⟩ : Addr).add 0).add (Int.toNat x35 * 1)), vu x62, vb false, vb true, vi x35, va (((⟨b3, 0, none⟩ : Addr).add 0).add (Int.toNat x35 * 1)), vu x67, vi x35, va (((⟨b7, 0, none⟩ : Addr).add 0).add (Int.toNat x35 * 1)), vu x69, vb true], []⟩ w71 (fun K => by kernel_rfl) ?_
            refine WPI.done rfl ?_
            refine then_n ?_
            refine WP.ret ?_
            obtain rfl := Option.some.inj h
            exact inb_r (inb_r (then_r (then_r (inb_r (then_r (then_r (post_r (vi 1) rfl (by kernel_rfl) ⟨rfl, St.sel H72 [] (by decide) rfl⟩)))))))
        | true =>
          replace h := br_t h
          refine WP.condT (by kernel_rfl) ?_
          refine WP.seq ?_
          refine WP.region ?_
          refine WPI.run 1 ⟨#[TU256.val p1, TU256.val p2, vp b3 0, vp b7 0, vi ((-1)), vi x35, vi x35, vb true, g38, g39, vb true, vi x35, va (((⟨b3, 0, none⟩ : Addr).add 0).add (Int.toNat x35 * 1)), vu x60, vi x35, va (((⟨b7, 0, none⟩ : Addr).add 0).add (Int.toNat x35 * 1)), vu x62, vb true, g48, g49, g50, g51, g52, g53, g54, g55], []⟩ w64 (fun K => by kernel_rfl) ?_
          refine WPI.done rfl ?_
          refine then_n ?_
          refine WP.ret ?_
          obtain rfl := Option.some.inj h
          exact inb_r (inb_r (then_r (then_r (inb_r (then_r (then_r (post_r (vi ((-1))) rfl (by kernel_rfl) ⟨rfl, St.sel H65 [] (by decide) rfl⟩)))))))
  · rintro a w ⟨g11, g12, g13, g14, g15, g16, g17, g18, g19, g20, g21, g22, g23, g24, g25, g26, g27, g28, g29, g30, g31, g32, rfl, H, h⟩
    subst hK33
    obtain ⟨w74, rfl⟩ : ∃ x, x = w := ⟨_, rfl⟩
    have H75 := H; clear H
    refine then_n ?_
    refine WP.seq ?_
    refine WP.region ?_
    refine WPI.run 1 ⟨#[TU256.val p1, TU256.val p2, vp b3 0, vp b7 0, vi 0, g12, g13, g14, g15, g16, g17, g18, g19, g20, g21, g22, g23, g24, g25, g26, g27, g28, g29, g30, g31, g32], []⟩ w74 (fun K => by kernel_rfl) ?_
    refine WPI.done rfl ?_
    refine then_n ?_
    refine WP.ret ?_
    obtain rfl := Option.some.inj h
    exact post_r (vi 0) rfl (by kernel_rfl) ⟨rfl, St.sel H75 [] (by decide) rfl⟩
end Go.Proofs
