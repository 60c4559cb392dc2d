import Derived.Test.YtjcagpcpbfmldaaGw
import Derived.Test.YtjcagpcpbfmldaaProg
import Derived.Test.YtjcagpcpbfmldaaT
set_option linter.unusedVariables false
set_option linter.unusedSimpArgs false
set_option maxRecDepth 100000
set_option maxHeartbeats 4000000
namespace Go.Proofs
open Gw Go.RowKit
/- tarn/tarnref1.Cmp -/
def g_tarnref1_Cmp_l1 (p1 : TU256) (p2 : TU256) (K31 : Option Int) (fuel : Nat) : Nat → Int → Option Int
  | 0, _ => none
  | n + 1, x33 => lt (decide (x33 ≥ 0)) fun c54 => br c54 (gd ((0 : Int) ≤ x33 ∧ x33 < 4) <| bd (([p1.e0, p1.e1, p1.e2, p1.e3] : List Int)[Int.toNat x33]?) fun x56 => gd ((0 : Int) ≤ x33 ∧ x33 < 4) <| bd (([p2.e0, p2.e1, p2.e2, p2.e3] : List Int)[Int.toNat x33]?) fun x58 => lt (decide (x56 < x58)) fun c59 => br c59 (some ((-1))) (gd ((0 : Int) ≤ x33 ∧ x33 < 4) <| bd (([p1.e0, p1.e1, p1.e2, p1.e3] : List Int)[Int.toNat x33]?) fun x63 => gd ((0 : Int) ≤ x33 ∧ x33 < 4) <| bd (([p2.e0, p2.e1, p2.e2, p2.e3] : List Int)[Int.toNat x33]?) fun x65 => lt (decide (x63 > x65)) fun c66 => br c66 (some 1) (lt (wr .i64 (x33 - 1)) fun x69 => g_tarnref1_Cmp_l1 p1 p2 K31 fuel n x69))) (K31)
def g_tarnref1_Cmp (fuel : Nat) (p1 : TU256) (p2 : TU256) : Option Int :=
  jn (some 0) fun K31 => g_tarnref1_Cmp_l1 p1 p2 K31 fuel fuel 3
theorem g_tarnref1_Cmp_w (fuel : Nat) (p1 : TU256) (p2 : TU256) (r : Int) (h : g_tarnref1_Cmp fuel p1 p2 = some r) (w0 : World) :
    Ret Try.prog 48 #[TU256.val p1, TU256.val p2] w0 (fun v w' => v = vi r ∧ St no w0 w' []) := by
  unfold g_tarnref1_Cmp at h
  refine ret_of_wp Try.func48 rfl #[TU256.val p1, TU256.val p2, Z, Z, Z, Z, Z, Z, Z, Z, Z, Z, Z, Z, Z, Z, Z, Z, Z, Z, Z, Z, Z, Z] (by kernel_rfl) ?_
  have H0 := St.start w0
  refine WP.seq ?_
  refine WP.region ?_
  refine WPI.op rfl (Op1.box H0 (TU256.cs p1).toArray (by kernel_rfl) 29 (.tmp 0) rfl (by kernel_rfl) (fun b3 w5 H6 => ?_))
  refine WPI.run 0 ⟨#[TU256.val p1, TU256.val p2, vp b3 0, Z, Z, Z, Z, Z, Z, Z, Z, Z, Z, Z, Z, Z, Z, Z, Z, Z, Z, Z, Z, Z], []⟩ w5 (fun K => by kernel_rfl) ?_
  refine WPI.op rfl (Op1.box H6 (TU256.cs p2).toArray (by kernel_rfl) 29 (.tmp 1) rfl (by kernel_rfl) (fun b7 w9 H10 => ?_))
  clear H6
  refine WPI.run 1 ⟨#[TU256.val p1, TU256.val p2, vp b3 0, vp b7 0, vi 0, Z, Z, Z, Z, Z, Z, Z, Z, Z, Z, Z, Z, Z, Z, Z, Z, Z, Z, Z], []⟩ w9 (fun K => by kernel_rfl) ?_
  refine WPI.done rfl ?_
  refine then_n ?_
  refine WP.seq ?_
  refine WP.seq ?_
  refine WP.region ?_
  refine WPI.run 1 ⟨#[TU256.val p1, TU256.val p2, vp b3 0, vp b7 0, vi 0, vi 3, Z, Z, Z, Z, Z, Z, Z, Z, Z, Z, Z, Z, Z, Z, Z, Z, Z, Z], []⟩ w9 (fun K => by kernel_rfl) ?_
  refine WPI.done rfl ?_
  refine then_n ?_
  obtain ⟨K31, hK31, h⟩ := jn_some h
  refine WP.blockJ (fun a w => ∃ (g11 g12 g13 g14 g15 g16 g17 g18 g19 g20 g21 g22 g23 g24 g25 g26 g27 g28 g29 g30 : Value), a = ⟨#[TU256.val p1, TU256.val p2, vp b3 0, vp b7 0, g11, g12, g13, g14, g15, g16, g17, g18, g19, g20, g21, g22, g23, g24, g25, g26, g27, g28, g29, g30], []⟩ ∧ St no w0 w [Box b7 (TU256.cs p2).toArray 29, Box b3 (TU256.cs p1).toArray 29] ∧ K31 = some r) ?_ ?_
  · skip
    refine WP.loop (fun n a w => ∃ (x33 : Int) (g32 g34 g35 g36 g37 g38 g39 g40 g41 g42 g43 g44 g45 g46 g47 g48 g49 g50 g51 : Value), a = ⟨#[TU256.val p1, TU256.val p2, vp b3 0, vp b7 0, g32, vi x33, g34, g35, g36, g37, g38, g39, g40, g41, g42, g43, g44, g45, g46, g47, g48, g49, g50, g51], []⟩ ∧ St no w0 w [Box b7 (TU256.cs p2).toArray 29, Box b3 (TU256.cs p1).toArray 29] ∧ g_tarnref1_Cmp_l1 p1 p2 K31 fuel n x33 = some r) fuel ⟨3, _, _, _, _, _, _, _, _, _, _, _, _, _, _, _, _, _, _, _, rfl, St.sel H10 [0, 1] (by decide) rfl, h⟩ ?_
    rintro n a w ⟨x33, g32, g34, g35, g36, g37, g38, g39, g40, g41, g42, g43, g44, g45, g46, g47, g48, g49, g50, g51, rfl, H, h⟩
    cases n with
    | zero => rw [g_tarnref1_Cmp_l1] at h; cases h
    | succ n =>
      rw [g_tarnref1_Cmp_l1] at h
      obtain ⟨w52, rfl⟩ : ∃ x, x = w := ⟨_, rfl⟩
      have H53 := H; clear H
      refine WP.seq ?_
      refine WP.seq ?_
      refine WP.region ?_
      obtain ⟨c54, hc54, h⟩ := lt_some h
      refine WPI.run 2 ⟨#[TU256.val p1, TU256.val p2, vp b3 0, vp b7 0, g32, vi x33, vi x33, vb c54, g36, g37, g38, g39, g40, g41, g42, g43, g44, g45, g46, g47, g48, g49, g50, g51], []⟩ w52 (fun K => by subst hc54; kernel_rfl) ?_
      refine WPI.done rfl ?_
      refine then_n ?_
      cases c54 with
      | false =>
        replace h := br_f h
        refine WP.condF (by kernel_rfl) ?_
        refine WP.exit ?_
        exact then_e (then_e (inb_e (then_n ⟨_, _, _, _, _, _, _, _, _, _, _, _, _, _, _, _, _, _, _, _, rfl, St.sel H53 [0, 1] (by decide) rfl, h⟩)))
      | true =>
        replace h := br_t h
        refine WP.condT (by kernel_rfl) ?_
        refine WP.skip ?_
        refine then_n ?_
        refine WP.seq ?_
        refine WP.block ?_
        refine WP.seq ?_
        refine WP.seq ?_
        refine WP.quiet (by kernel_rfl) (by kernel_rfl) (by kernel_rfl) (fun w => St no w0 w [Box b7 (TU256.cs p2).toArray 29, Box b3 (TU256.cs p1).toArray 29]) (St.drew H53) ?_
        refine WQ.value (v := vi x33) rfl (by kernel_rfl) (fun w _ => by kernel_rfl) ?_
        obtain ⟨hg55, h⟩ := gd_some h
        refine WQ.value (v := va (((⟨b3, 0, none⟩ : Addr).add 0).add (Int.toNat x33 * 1))) rfl (by kernel_rfl) (fun w H => ev_indexArr (ad := (⟨b3, 0, none⟩ : Addr).add 0) 29 (.tmp 2) (.tmp 10) 4 27 1 .i64 x33 rfl (by kernel_rfl) (by kernel_rfl) (by kernel_rfl) hg55) ?_
        obtain ⟨x56, hx56, h⟩ := bd_some h
        refine WQ.value (v := vu x56) rfl (by kernel_rfl) (fun w H => ev_load 27 (.tmp 11) 0 (vu x56) (CellsAt.elem fU64 (St.boxAt H 1 rfl) 0 [p1.e0, p1.e1, p1.e2, p1.e3] [] (by kernel_rfl) _ _ hx56) (le_self _) rfl (by kernel_rfl) (by kernel_rfl)) ?_
        refine WQ.value (v := vi x33) rfl (by kernel_rfl) (fun w _ => by kernel_rfl) ?_
        obtain ⟨hg57, h⟩ := gd_some h
        refine WQ.value (v := va (((⟨b7, 0, none⟩ : Addr).add 0).add (Int.toNat x33 * 1))) rfl (by kernel_rfl) (fun w H => ev_indexArr (ad := (⟨b7, 0, none⟩ : Addr).add 0) 29 (.tmp 3) (.tmp 13) 4 27 1 .i64 x33 rfl (by kernel_rfl) (by kernel_rfl) (by kernel_rfl) hg57) ?_
        obtain ⟨x58, hx58, h⟩ := bd_some h
        refine WQ.value (v := vu x58) rfl (by kernel_rfl) (fun w H => ev_load 27 (.tmp 14) 0 (vu x58) (CellsAt.elem fU64 (St.boxAt H 0 rfl) 0 [p2.e0, p2.e1, p2.e2, p2.e3] [] (by kernel_rfl) _ _ hx58) (le_self _) rfl (by kernel_rfl) (by kernel_rfl)) ?_
        obtain ⟨c59, hc59, h⟩ := lt_some h
        refine WQ.value (v := vb c59) rfl (by kernel_rfl) (fun w _ => by subst hc59; kernel_rfl) ?_
        refine WQ.frame (a' := ⟨#[TU256.val p1, TU256.val p2, vp b3 0, vp b7 0, g32, vi x33, vi x33, vb true, g36, g37, vi x33, va (((⟨b3, 0, none⟩ : Addr).add 0).add (Int.toNat x33 * 1)), vu x56, vi x33, va (((⟨b7, 0, none⟩ : Addr).add 0).add (Int.toNat x33 * 1)), vu x58, vb c59, g45, g46, g47, g48, g49, g50, g51], []⟩) (by kernel_rfl) ?_
        refine WQ.done rfl ?_
        refine (fun w60 H61 => ?_)
        refine then_n ?_
        cases c59 with
        | false =>
          replace h := br_f h
          refine WP.condF (by kernel_rfl) ?_
          refine WP.skip ?_
          refine then_n ?_
          refine WP.seq ?_
          refine WP.quiet (by kernel_rfl) (by kernel_rfl) (by kernel_rfl) (fun w => St no w0 w [Box b7 (TU256.cs p2).toArray 29, Box b3 (TU256.cs p1).toArray 29]) (St.drew H61) ?_
          refine WQ.value (v := vi x33) rfl (by kernel_rfl) (fun w _ => by kernel_rfl) ?_
          obtain ⟨hg62, h⟩ := gd_some h
          refine WQ.value (v := va (((⟨b3, 0, none⟩ : Addr).add 0).add (Int.toNat x33 * 1))) rfl (by kernel_rfl) (fun w H => ev_indexArr (ad := (⟨b3, 0, none⟩ : Addr).add 0) 29 (.tmp 2) (.tmp 17) 4 27 1 .i64 x33 rfl (by kernel_rfl) (by kernel_rfl) (by kernel_rfl) hg62) ?_
          obtain ⟨x63, hx63, h⟩ := bd_some h
          refine WQ.value (v := vu x63) rfl (by kernel_rfl) (fun w H => ev_load 27 (.tmp 18) 0 (vu x63) (CellsAt.elem fU64 (St.boxAt H 1 rfl) 0 [p1.e0, p1.e1, p1.e2, p1.e3] [] (by kernel_rfl) _ _ hx63) (le_self _) rfl (by kernel_rfl) (by kernel_rfl)) ?_
          refine WQ.value (v := vi x33) rfl (by kernel_rfl) (fun w _ => by kernel_rfl) ?_
          obtain ⟨hg64, h⟩ := gd_some h
          refine WQ.value (v := va (((⟨b7, 0, none⟩ : Addr).add 0).add (Int.toNat x33 * 1))) rfl (by kernel_rfl) (fun w H => ev_indexArr (ad := (⟨b7, 0, none⟩ : Addr).add 0) 29 (.tmp 3) (.tmp 20) 4 27 1 .i64 x33 rfl (by kernel_rfl) (by kernel_rfl) (by kernel_rfl) hg64) ?_
          obtain ⟨x65, hx65, h⟩ := bd_some h
          refine WQ.value (v := vu x65) rfl (by kernel_rfl) (fun w H => ev_load 27 (.tmp 21) 0 (vu x65) (CellsAt.elem fU64 (St.boxAt H 0 rfl) 0 [p2.e0, p2.e1, p2.e2, p2.e3] [] (by kernel_rfl) _ _ hx65) (le_self _) rfl (by kernel_rfl) (by kernel_rfl)) ?_
          obtain ⟨c66, hc66, h⟩ := lt_some h
          refine WQ.value (v := vb c66) rfl (by kernel_rfl) (fun w _ => by subst hc66; kernel_rfl) ?_
          refine WQ.frame (a' := ⟨#[TU256.val p1, TU256.val p2, vp b3 0, vp b7 0, g32, vi x33, vi x33, vb true, g36, g37, vi x33, va (((⟨b3, 0, none⟩ : Addr).add 0).add (Int.toNat x33 * 1)), vu x56, vi x33, va (((⟨b7, 0, none⟩ : Addr).add 0).add (Int.toNat x33 * 1)), vu x58, vb false, vi x33, va (((⟨b3, 0, none⟩ : Addr).add 0).add (Int.toNat x33 * 1)), vu x63, vi x33, va (((⟨b7, 0, none⟩ : Addr).add 0).add (Int.toNat x33 * 1)), vu x65, vb c66], []⟩) (by kernel_rfl) ?_
          refine WQ.done rfl ?_
          refine (fun w67 H68 => ?_)
          refine then_n ?_
          cases c66 with
          | false =>
            replace h := br_f h
            refine WP.condF (by kernel_rfl) ?_
            refine WP.skip ?_
            refine inb_n (then_n ?_)
            refine WP.region ?_
            obtain ⟨x69, hx69, h⟩ := lt_some h
            refine WPI.run 3 ⟨#[TU256.val p1, TU256.val p2, vp b3 0, vp b7 0, g32, vi x69, vi x33, vb true, vi x33, vi x69, vi x33, va (((⟨b3, 0, none⟩ : Addr).add 0).add (Int.toNat x33 * 1)), vu x56, vi x33, va (((⟨b7, 0, none⟩ : Addr).add 0).add (Int.toNat x33 * 1)), vu x58, vb false, vi x33, va (((⟨b3, 0, none⟩ : Addr).add 0).add (Int.toNat x33 * 1)), vu x63, vi x33, va (((⟨b7, 0, none⟩ : Addr).add 0).add (Int.toNat x33 * 1)), vu x65, vb false], []⟩ w67 (fun K => by subst hx69; kernel_rfl) ?_
            refine WPI.done rfl ?_
            exact then_n ⟨n, Nat.lt_succ_self n, x69, _, _, _, _, _, _, _, _, _, _, _, _, _, _, _, _, _, _, _, rfl, St.sel H68 [0, 1] (by decide) rfl, h⟩
          | true =>
            replace h := br_t h
            refine WP.condT (by kernel_rfl) ?_
            refine WP.seq ?_
            refine WP.region ?_
            refine WPI.run 1 ⟨#[TU256.val p1, TU256.val p2, vp b3 0, vp b7 0, vi 1, vi x33, vi x33, vb true, g36, g37, vi x33, va (((⟨b3, 0, none⟩ : Addr).add 0).add (Int.toNat x33 * 1)), vu x56, vi x33, va (((⟨b7, 0, none⟩ : Addr).add 0).add (Int.toNat x33 * 1)), vu x58, vb false, vi x33, va (((⟨b3, 0, none⟩ : Addr).add 0).add (Int.toNat x33 * 1)), vu x63, vi x33, va (((⟨b7, 0, none⟩ : Addr).add 0).add (Int.toNat x33 * 1)), vu x65, vb true], []⟩ w67 (fun K => by kernel_rfl) ?_
            refine WPI.done rfl ?_
            refine then_n ?_
            refine WP.ret ?_
            obtain rfl := Option.some.inj h
            exact inb_r (then_r (then_r (inb_r (then_r (then_r (post_r (vi 1) rfl (by kernel_rfl) ⟨rfl, St.sel H68 [] (by decide) rfl⟩))))))
        | true =>
          replace h := br_t h
          refine WP.condT (by kernel_rfl) ?_
          refine WP.seq ?_
          refine WP.region ?_
          refine WPI.run 1 ⟨#[TU256.val p1, TU256.val p2, vp b3 0, vp b7 0, vi ((-1)), vi x33, vi x33, vb true, g36, g37, vi x33, va (((⟨b3, 0, none⟩ : Addr).add 0).add (Int.toNat x33 * 1)), vu x56, vi x33, va (((⟨b7, 0, none⟩ : Addr).add 0).add (Int.toNat x33 * 1)), vu x58, vb true, g45, g46, g47, g48, g49, g50, g51], []⟩ w60 (fun K => by kernel_rfl) ?_
          refine WPI.done rfl ?_
          refine then_n ?_
          refine WP.ret ?_
          obtain rfl := Option.some.inj h
          exact then_r (inb_r (then_r (then_r (inb_r (then_r (then_r (post_r (vi ((-1))) rfl (by kernel_rfl) ⟨rfl, St.sel H61 [] (by decide) rfl⟩)))))))
  · rintro a w ⟨g11, g12, g13, g14, g15, g16, g17, g18, g19, g20, g21, g22, g23, g24, g25, g26, g27, g28, g29, g30, rfl, H, h⟩
    subst hK31
    obtain ⟨w70, rfl⟩ : ∃ x, x = w := ⟨_, rfl⟩
    have H71 := H; clear H
    refine then_n ?_
    refine WP.seq ?_
    refine WP.region ?_
    refine WPI.run 1 ⟨#[TU256.val p1, TU256.val p2, vp b3 0, vp b7 0, vi 0, g12, g13, g14, g15, g16, g17, g18, g19, g20, g21, g22, g23, g24, g25, g26, g27, g28, g29, g30], []⟩ w70 (fun K => by kernel_rfl) ?_
    refine WPI.done rfl ?_
    refine then_n ?_
    refine WP.ret ?_
    obtain rfl := Option.some.inj h
    exact post_r (vi 0) rfl (by kernel_rfl) ⟨rfl, St.sel H71 [] (by decide) rfl⟩
end Go.Proofs
