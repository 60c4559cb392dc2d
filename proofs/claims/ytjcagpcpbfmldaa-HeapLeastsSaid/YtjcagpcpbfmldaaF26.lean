import Derived.Test.YtjcagpcpbfmldaaGw
import Derived.Test.YtjcagpcpbfmldaaProg
import Derived.Test.YtjcagpcpbfmldaaT
import Derived.Test.YtjcagpcpbfmldaaF33
import Derived.Test.YtjcagpcpbfmldaaF30
import Derived.Test.YtjcagpcpbfmldaaF37
set_option linter.unusedVariables false
set_option linter.unusedSimpArgs false
set_option maxRecDepth 100000
set_option maxHeartbeats 4000000
namespace Go.Proofs
open Gw Go.RowKit
/- tarn/heap.Check -/
def g_heap_Check_l1 (l2 : List TNode) (fuel : Nat) (K39 : Option Int) : Nat → Int → Option Int
  | 0, _ => none
  | n + 1, x43 => lt (decide (x43 < (((List.length l2 : Nat) : Int)))) fun c77 => br c77 (gd ((0 : Int) ≤ x43 ∧ x43 < ((List.length l2 : Nat) : Int)) <| bd (l2[Int.toNat x43]?) fun x79 => jn (fun (c111 : Bool) => br c111 (some 1) (lt (wr .i64 (x43 + 1)) fun x134 => g_heap_Check_l1 l2 fuel K39 n x134)) fun K112 => bd (g_heap_may fuel x79) fun t113 => lt (!t113) fun c114 => br c114 (K112 true) (bd (g_heap_place fuel l2 x79.Acct) fun t115 => lt (t115 != x43) fun c116 => br c116 (K112 true) (lt (decide (x43 > 0)) fun c117 => br c117 (lt (wr .i64 (x43 - 1)) fun x120 => lt (wr .i64 (Int.tdiv x120 2)) fun x121 => gd ((0 : Int) ≤ x121 ∧ x121 < ((List.length l2 : Nat) : Int)) <| bd (l2[Int.toNat x121]?) fun x123 => bd (g_heap_order fuel x79 x123) fun t124 => lt (decide (t124 < 0)) fun c125 => K112 c125) (K112 false)))) (K39)
def g_heap_Check (fuel : Nat) (l2 : List TNode) : Option Int :=
  lt (decide ((((List.length l2 : Nat) : Int)) > 8)) fun c3 => br c3 (some 1) (jn (some 0) fun K39 => g_heap_Check_l1 l2 fuel K39 fuel 0)
theorem g_heap_Check_w (fuel : Nat) (s1 : Value) (l2 : List TNode) (r : Int) (h : g_heap_Check fuel l2 = some r) (w0 : World) (hs1 : Rd fTNode (hp no w0) s1 l2) :
    Ret Try.prog 26 #[s1] w0 (fun v w' => v = vi r ∧ St no w0 w' []) := by
  unfold g_heap_Check at h
  refine ret_of_wp Try.func26 rfl #[s1, Z, Z, Z, Z, Z, Z, Z, Z, Z, Z, Z, Z, Z, Z, Z, Z, Z, Z, Z, Z, Z, Z, Z, Z, Z, Z, Z, Z, Z, Z, Z, Z, Z, Z, Z, Z, Z, Z, Z, Z, Z] (by kernel_rfl) ?_
  have H0 := St.start w0
  refine WP.seq ?_
  refine WP.region ?_
  refine WPI.run 1 ⟨#[s1, Z, vi 0, Z, Z, Z, Z, Z, Z, Z, Z, Z, Z, Z, Z, Z, Z, Z, Z, Z, Z, Z, Z, Z, Z, Z, Z, Z, Z, Z, Z, Z, Z, Z, Z, Z, Z, Z, Z, Z, Z, Z], []⟩ w0 (fun K => by kernel_rfl) ?_
  refine WPI.done rfl ?_
  refine then_n ?_
  refine WP.seq ?_
  refine WP.seq ?_
  refine WP.region ?_
  refine WPI.run 1 ⟨#[s1, Z, vi 0, Z, Z, s1, Z, Z, Z, Z, Z, Z, Z, Z, Z, Z, Z, Z, Z, Z, Z, Z, Z, Z, Z, Z, Z, Z, Z, Z, Z, Z, Z, Z, Z, Z, Z, Z, Z, Z, Z, Z], []⟩ w0 (fun K => by kernel_rfl) ?_
  refine WPI.value (v := vi (((List.length l2 : Nat) : Int))) rfl (by kernel_rfl) (ev_len (Rd.sl hs1) 22 (.tmp 5) 33 6 48 rfl (by kernel_rfl) (by kernel_rfl)) ?_
  obtain ⟨c3, hc3, h⟩ := lt_some h
  refine WPI.run 1 ⟨#[s1, Z, vi 0, Z, Z, s1, vi (((List.length l2 : Nat) : Int)), vb c3, Z, Z, Z, Z, Z, Z, Z, Z, Z, Z, Z, Z, Z, Z, Z, Z, Z, Z, Z, Z, Z, Z, Z, Z, Z, Z, Z, Z, Z, Z, Z, Z, Z, Z], []⟩ w0 (fun K => by subst hc3; kernel_rfl) ?_
  refine WPI.done rfl ?_
  refine then_n ?_
  cases c3 with
  | false =>
    replace h := br_f h
    refine WP.condF (by kernel_rfl) ?_
    refine WP.skip ?_
    refine then_n ?_
    refine WP.seq ?_
    refine WP.seq ?_
    refine WP.region ?_
    refine WPI.run 1 ⟨#[s1, Z, vi 0, Z, Z, s1, vi (((List.length l2 : Nat) : Int)), vb false, s1, Z, Z, Z, Z, Z, Z, Z, Z, Z, Z, Z, Z, Z, Z, Z, Z, Z, Z, Z, Z, Z, Z, Z, Z, Z, Z, Z, Z, Z, Z, Z, Z, Z], []⟩ w0 (fun K => by kernel_rfl) ?_
    refine WPI.value (v := vi (((List.length l2 : Nat) : Int))) rfl (by kernel_rfl) (ev_len (Rd.sl hs1) 22 (.tmp 8) 33 6 48 rfl (by kernel_rfl) (by kernel_rfl)) ?_
    refine WPI.run 1 ⟨#[s1, Z, vi 0, Z, Z, s1, vi (((List.length l2 : Nat) : Int)), vb false, s1, vi (((List.length l2 : Nat) : Int)), vi 0, Z, Z, Z, Z, Z, Z, Z, Z, Z, Z, Z, Z, Z, Z, Z, Z, Z, Z, Z, Z, Z, Z, Z, Z, Z, Z, Z, Z, Z, Z, Z], []⟩ w0 (fun K => by kernel_rfl) ?_
    refine WPI.done rfl ?_
    refine then_n ?_
    obtain ⟨K39, hK39, h⟩ := jn_some h
    refine WP.blockJ (fun a w => ∃ (g4 g5 g6 g7 g8 g9 g10 g11 g12 g13 g14 g15 g16 g17 g18 g19 g20 g21 g22 g23 g24 g25 g26 g27 g28 g29 g30 g31 g32 g33 g34 g35 g36 g37 g38 : Value), a = ⟨#[s1, Z, g4, g5, g6, s1, vi (((List.length l2 : Nat) : Int)), vb false, s1, vi (((List.length l2 : Nat) : Int)), g7, g8, g9, g10, g11, g12, g13, g14, g15, g16, g17, g18, g19, g20, g21, g22, g23, g24, g25, g26, g27, g28, g29, g30, g31, g32, g33, g34, g35, g36, g37, g38], []⟩ ∧ St no w0 w [] ∧ K39 = some r) ?_ ?_
    · skip
      refine WP.loop (fun n a w => ∃ (x43 : Int) (g40 g41 g42 g44 g45 g46 g47 g48 g49 g50 g51 g52 g53 g54 g55 g56 g57 g58 g59 g60 g61 g62 g63 g64 g65 g66 g67 g68 g69 g70 g71 g72 g73 g74 : Value), a = ⟨#[s1, Z, g40, g41, g42, s1, vi (((List.length l2 : Nat) : Int)), vb false, s1, vi (((List.length l2 : Nat) : Int)), vi x43, g44, g45, g46, g47, g48, g49, g50, g51, g52, g53, g54, g55, g56, g57, g58, g59, g60, g61, g62, g63, g64, g65, g66, g67, g68, g69, g70, g71, g72, g73, g74], []⟩ ∧ St no w0 w [] ∧ g_heap_Check_l1 l2 fuel K39 n x43 = some r) fuel ⟨0, _, _, _, _, _, _, _, _, _, _, _, _, _, _, _, _, _, _, _, _, _, _, _, _, _, _, _, _, _, _, _, _, _, _, rfl, St.sel H0 [] (by decide) rfl, h⟩ ?_
      rintro n a w ⟨x43, g40, g41, g42, g44, g45, g46, g47, g48, g49, g50, g51, g52, g53, g54, g55, g56, g57, g58, g59, g60, g61, g62, g63, g64, g65, g66, g67, g68, g69, g70, g71, g72, g73, g74, rfl, H, h⟩
      cases n with
      | zero => rw [g_heap_Check_l1] at h; cases h
      | succ n =>
        rw [g_heap_Check_l1] at h
        obtain ⟨w75, rfl⟩ : ∃ x, x = w := ⟨_, rfl⟩
        have H76 := H; clear H
        refine WP.seq ?_
        refine WP.region ?_
        obtain ⟨c77, hc77, h⟩ := lt_some h
        refine WPI.run 1 ⟨#[s1, Z, g40, g41, g42, s1, vi (((List.length l2 : Nat) : Int)), vb false, s1, vi (((List.length l2 : Nat) : Int)), vi x43, vb c77, g45, g46, g47, g48, g49, g50, g51, g52, g53, g54, g55, g56, g57, g58, g59, g60, g61, g62, g63, g64, g65, g66, g67, g68, g69, g70, g71, g72, g73, g74], []⟩ w75 (fun K => by subst hc77; kernel_rfl) ?_
        refine WPI.done rfl ?_
        refine then_n ?_
        refine WP.seq ?_
        cases c77 with
        | false =>
          replace h := br_f h
          refine WP.condF (by kernel_rfl) ?_
          refine WP.exit ?_
          exact then_e (then_e (inb_e (then_n ⟨_, _, _, _, _, _, _, _, _, _, _, _, _, _, _, _, _, _, _, _, _, _, _, _, _, _, _, _, _, _, _, _, _, _, _, rfl, St.sel H76 [] (by decide) rfl, h⟩)))
        | true =>
          replace h := br_t h
          refine WP.condT (by kernel_rfl) ?_
          refine WP.skip ?_
          refine then_n ?_
          refine WP.seq ?_
          refine WP.block ?_
          refine WP.seq ?_
          refine WP.region ?_
          obtain ⟨hg78, h⟩ := gd_some h
          refine WPI.run 1 ⟨#[s1, Z, g40, g41, g42, s1, vi (((List.length l2 : Nat) : Int)), vb false, s1, vi (((List.length l2 : Nat) : Int)), vi x43, vb true, vi x43, g46, g47, g48, g49, g50, g51, g52, g53, g54, g55, g56, g57, g58, g59, g60, g61, g62, g63, g64, g65, g66, g67, g68, g69, g70, g71, g72, g73, g74], []⟩ w75 (fun K => by kernel_rfl) ?_
          refine WPI.value (v := va (slAt s1 6 (Int.toNat x43))) rfl (by kernel_rfl) (ev_index (Rd.sl hs1) 22 (.tmp 8) (.tmp 10) 33 6 48 .i64 x43 rfl (by kernel_rfl) (by kernel_rfl) (by kernel_rfl) hg78) ?_
          obtain ⟨x79, hx79, h⟩ := bd_some h
          refine WPI.run 0 ⟨#[s1, Z, g40, g41, g42, s1, vi (((List.length l2 : Nat) : Int)), vb false, s1, vi (((List.length l2 : Nat) : Int)), vi x43, vb true, vi x43, va (slAt s1 6 (Int.toNat x43)), g47, g48, g49, g50, g51, g52, g53, g54, g55, g56, g57, g58, g59, g60, g61, g62, g63, g64, g65, g66, g67, g68, g69, g70, g71, g72, g73, g74], []⟩ w75 (fun K => by kernel_rfl) ?_
          refine WPI.value (v := TNode.val x79) rfl (by kernel_rfl) (ev_loadEl (F := fTNode) hs1 (St.hp_le H76) hx79 33 (.tmp 13) 0 (TNode.val x79) rfl (by kernel_rfl) (by kernel_rfl)) ?_
          refine WPI.run 0 ⟨#[s1, Z, g40, g41, g42, s1, vi (((List.length l2 : Nat) : Int)), vb false, s1, vi (((List.length l2 : Nat) : Int)), vi x43, vb true, vi x43, va (slAt s1 6 (Int.toNat x43)), TNode.val x79, g48, g49, g50, g51, g52, g53, g54, g55, g56, g57, g58, g59, g60, g61, g62, g63, g64, g65, g66, g67, g68, g69, g70, g71, g72, g73, g74], []⟩ w75 (fun K => by kernel_rfl) ?_
          refine WPI.op rfl (Op1.alloc H76 #[vi 0, vi 0, vu 0, vu 0, vu 0, vu 0] (by kernel_rfl) 33 rfl (by kernel_rfl) (fun b80 w82 H83 => ?_))
          clear H76
          refine WPI.run 1 ⟨#[s1, Z, g40, vi x43, vp b80 0, s1, vi (((List.length l2 : Nat) : Int)), vb false, s1, vi (((List.length l2 : Nat) : Int)), vi x43, vb true, vi x43, va (slAt s1 6 (Int.toNat x43)), TNode.val x79, g48, g49, g50, g51, g52, g53, g54, g55, g56, g57, g58, g59, g60, g61, g62, g63, g64, g65, g66, g67, g68, g69, g70, g71, g72, g73, g74], []⟩ w82 (fun K => by kernel_rfl) ?_
          refine WPI.op rfl (Op1.storeBox H83 0 rfl (by kernel_rfl) 33 (.tmp 4) (.tmp 14) 0 (TNode.val x79) (TNode.cs x79).toArray true rfl (by kernel_rfl) (by kernel_rfl) (by kernel_rfl) (by kernel_rfl) (by kernel_rfl) (flat_one1 fTNode x79) (fun w84 H85 => ?_))
          clear H83
          refine WPI.run 0 ⟨#[s1, Z, g40, vi x43, vp b80 0, s1, vi (((List.length l2 : Nat) : Int)), vb false, s1, vi (((List.length l2 : Nat) : Int)), vi x43, vb true, vi x43, va (slAt s1 6 (Int.toNat x43)), TNode.val x79, g48, g49, g50, g51, g52, g53, g54, g55, g56, g57, g58, g59, g60, g61, g62, g63, g64, g65, g66, g67, g68, g69, g70, g71, g72, g73, g74], []⟩ w84 (fun K => by kernel_rfl) ?_
          refine WPI.done rfl ?_
          refine then_n ?_
          refine WP.seq ?_
          obtain ⟨K112, hK112, h⟩ := jn_some h
          refine WP.onlyN (fun a w => ∃ (c111 : Bool) (g86 g87 g88 g89 g90 g91 g92 g93 g94 g95 g96 g97 g98 g99 g100 g101 g102 g103 g104 g105 g106 g107 g108 g109 g110 : Value), a = ⟨#[s1, Z, g40, vi x43, vp b80 0, s1, vi (((List.length l2 : Nat) : Int)), vb false, s1, vi (((List.length l2 : Nat) : Int)), vi x43, vb true, vi x43, va (slAt s1 6 (Int.toNat x43)), TNode.val x79, g86, g87, g88, g89, g90, g91, g92, g93, g94, g95, g96, g97, g98, g99, g100, g101, g102, g103, g104, g105, g106, g107, g108, g109, g110, vb c111, g74], []⟩ ∧ St no w0 w [Box b80 (TNode.cs x79).toArray 33] ∧ K112 c111 = some r) ?_ ?_
          · skip
            refine WP.quiet (by kernel_rfl) (by kernel_rfl) (by kernel_rfl) (fun w => St no w0 w [Box b80 (TNode.cs x79).toArray 33]) (St.drew H85) ?_
            refine WQ.value (v := TNode.val x79) rfl (by kernel_rfl) (fun w H => ev_loadBox H 0 rfl 33 (.tmp 4) 0 (TNode.val x79) rfl (by kernel_rfl) (by kernel_rfl)) ?_
            obtain ⟨t113, ht113, h⟩ := bd_some h
            refine WQ.call (v := vb t113) rfl (by kernel_rfl) (fun w => by kernel_rfl) (fun w H => Ret.mono (g_heap_may_w fuel x79 t113 ht113 _) fun u w1 hu => ⟨hu.1, St.call0' H hu.2⟩) ?_
            obtain ⟨c114, hc114, h⟩ := lt_some h
            refine WQ.value (v := vb c114) rfl (by kernel_rfl) (fun w _ => by subst hc114; kernel_rfl) ?_
            refine WQ.value (v := vb c114) rfl (by kernel_rfl) (fun w _ => by kernel_rfl) ?_
            cases c114 with
            | false =>
              replace h := br_f h
              refine WQ.value (v := s1) rfl (by kernel_rfl) (fun w _ => by kernel_rfl) ?_
              refine WQ.value (v := vp b80 0) rfl (by kernel_rfl) (fun w _ => by kernel_rfl) ?_
              refine WQ.value (v := vi x79.Acct) rfl (by kernel_rfl) (fun w H => ev_loadBox H 0 rfl 3 (.tmp 20) 0 (vi x79.Acct) rfl (by kernel_rfl) (by kernel_rfl)) ?_
              obtain ⟨t115, ht115, h⟩ := bd_some h
              refine WQ.call (v := vi t115) rfl (by kernel_rfl) (fun w => by kernel_rfl) (fun w H => Ret.mono (g_heap_place_w fuel s1 l2 x79.Acct t115 ht115 _ (Rd.arg0 hs1 H)) fun u w1 hu => ⟨hu.1, St.call0' H hu.2⟩) ?_
              refine WQ.value (v := vi x43) rfl (by kernel_rfl) (fun w _ => by kernel_rfl) ?_
              obtain ⟨c116, hc116, h⟩ := lt_some h
              refine WQ.value (v := vb c116) rfl (by kernel_rfl) (fun w _ => by subst hc116; kernel_rfl) ?_
              refine WQ.value (v := vb c116) rfl (by kernel_rfl) (fun w _ => by kernel_rfl) ?_
              refine WQ.value (v := vb c116) rfl (by kernel_rfl) (fun w _ => by kernel_rfl) ?_
              cases c116 with
              | false =>
                replace h := br_f h
                refine WQ.value (v := vi x43) rfl (by kernel_rfl) (fun w _ => by kernel_rfl) ?_
                obtain ⟨c117, hc117, h⟩ := lt_some h
                refine WQ.value (v := vb c117) rfl (by kernel_rfl) (fun w _ => by subst hc117; kernel_rfl) ?_
                refine WQ.value (v := vb c117) rfl (by kernel_rfl) (fun w _ => by kernel_rfl) ?_
                cases c117 with
                | false =>
                  replace h := br_f h
                  refine WQ.off rfl (by kernel_rfl) ?_
                  refine WQ.off rfl (by kernel_rfl) ?_
                  refine WQ.off rfl (by kernel_rfl) ?_
                  refine WQ.off rfl (by kernel_rfl) ?_
                  refine WQ.off rfl (by kernel_rfl) ?_
                  refine WQ.off rfl (by kernel_rfl) ?_
                  refine WQ.off rfl (by kernel_rfl) ?_
                  refine WQ.off rfl (by kernel_rfl) ?_
                  refine WQ.off rfl (by kernel_rfl) ?_
                  refine WQ.value (v := vb false) rfl (by kernel_rfl) (fun w _ => by kernel_rfl) ?_
                  refine WQ.value (v := vb false) rfl (by kernel_rfl) (fun w _ => by kernel_rfl) ?_
                  refine WQ.frame (a' := ⟨#[s1, Z, g40, vi x43, vp b80 0, s1, vi (((List.length l2 : Nat) : Int)), vb false, s1, vi (((List.length l2 : Nat) : Int)), vi x43, vb true, vi x43, va (slAt s1 6 (Int.toNat x43)), TNode.val x79, TNode.val x79, vb t113, vb false, vb false, s1, vp b80 0, vi x79.Acct, vi t115, vi x43, vb false, vb false, vb false, vi x43, vb false, vb false, Z, Z, Z, Z, Z, Z, Z, Z, Z, vb false, vb false, g74], []⟩) (by kernel_rfl) ?_
                  refine WQ.done rfl ?_
                  refine (fun w118 H119 => ?_)
                  exact ⟨false, _, _, _, _, _, _, _, _, _, _, _, _, _, _, _, _, _, _, _, _, _, _, _, _, _, rfl, St.sel H119 [0] (by decide) rfl, h⟩
                | true =>
                  replace h := br_t h
                  refine WQ.value (v := TNode.val x79) rfl (by kernel_rfl) (fun w H => ev_loadBox H 0 rfl 33 (.tmp 4) 0 (TNode.val x79) rfl (by kernel_rfl) (by kernel_rfl)) ?_
                  refine WQ.value (v := s1) rfl (by kernel_rfl) (fun w _ => by kernel_rfl) ?_
                  refine WQ.value (v := vi x43) rfl (by kernel_rfl) (fun w _ => by kernel_rfl) ?_
                  obtain ⟨x120, hx120, h⟩ := lt_some h
                  refine WQ.value (v := vi x120) rfl (by kernel_rfl) (fun w _ => by subst hx120; kernel_rfl) ?_
                  obtain ⟨x121, hx121, h⟩ := lt_some h
                  refine WQ.value (v := vi x121) rfl (by kernel_rfl) (fun w _ => by subst hx121; kernel_rfl) ?_
                  obtain ⟨hg122, h⟩ := gd_some h
                  refine WQ.value (v := va (slAt s1 6 (Int.toNat x121))) rfl (by kernel_rfl) (fun w H => ev_index (Rd.sl hs1) 22 (.tmp 31) (.tmp 34) 33 6 48 .i64 x121 rfl (by kernel_rfl) (by kernel_rfl) (by kernel_rfl) hg122) ?_
                  obtain ⟨x123, hx123, h⟩ := bd_some h
                  refine WQ.value (v := TNode.val x123) rfl (by kernel_rfl) (fun w H => ev_loadEl (F := fTNode) hs1 (St.hp_le H) hx123 33 (.tmp 35) 0 (TNode.val x123) rfl (by kernel_rfl) (by kernel_rfl)) ?_
                  obtain ⟨t124, ht124, h⟩ := bd_some h
                  refine WQ.call (v := vi t124) rfl (by kernel_rfl) (fun w => by kernel_rfl) (fun w H => Ret.mono (g_heap_order_w fuel x79 x123 t124 ht124 _) fun u w1 hu => ⟨hu.1, St.call0' H hu.2⟩) ?_
                  obtain ⟨c125, hc125, h⟩ := lt_some h
                  refine WQ.value (v := vb c125) rfl (by kernel_rfl) (fun w _ => by subst hc125; kernel_rfl) ?_
                  refine WQ.value (v := vb c125) rfl (by kernel_rfl) (fun w _ => by kernel_rfl) ?_
                  refine WQ.value (v := vb c125) rfl (by kernel_rfl) (fun w _ => by kernel_rfl) ?_
                  refine WQ.frame (a' := ⟨#[s1, Z, g40, vi x43, vp b80 0, s1, vi (((List.length l2 : Nat) : Int)), vb false, s1, vi (((List.length l2 : Nat) : Int)), vi x43, vb true, vi x43, va (slAt s1 6 (Int.toNat x43)), TNode.val x79, TNode.val x79, vb t113, vb false, vb false, s1, vp b80 0, vi x79.Acct, vi t115, vi x43, vb false, vb false, vb false, vi x43, vb true, vb true, TNode.val x79, s1, vi x43, vi x120, vi x121, va (slAt s1 6 (Int.toNat x121)), TNode.val x123, vi t124, vb c125, vb c125, vb c125, g74], []⟩) (by kernel_rfl) ?_
                  refine WQ.done rfl ?_
                  refine (fun w126 H127 => ?_)
                  exact ⟨c125, _, _, _, _, _, _, _, _, _, _, _, _, _, _, _, _, _, _, _, _, _, _, _, _, _, rfl, St.sel H127 [0] (by decide) rfl, h⟩
              | true =>
                replace h := br_t h
                refine WQ.off rfl (by kernel_rfl) ?_
                refine WQ.off rfl (by kernel_rfl) ?_
                refine WQ.off rfl (by kernel_rfl) ?_
                refine WQ.off rfl (by kernel_rfl) ?_
                refine WQ.off rfl (by kernel_rfl) ?_
                refine WQ.off rfl (by kernel_rfl) ?_
                refine WQ.off rfl (by kernel_rfl) ?_
                refine WQ.off rfl (by kernel_rfl) ?_
                refine WQ.off rfl (by kernel_rfl) ?_
                refine WQ.off rfl (by kernel_rfl) ?_
                refine WQ.off rfl (by kernel_rfl) ?_
                refine WQ.off rfl (by kernel_rfl) ?_
                refine WQ.off rfl (by kernel_rfl) ?_
                refine WQ.value (v := vb true) rfl (by kernel_rfl) (fun w _ => by kernel_rfl) ?_
                refine WQ.frame (a' := ⟨#[s1, Z, g40, vi x43, vp b80 0, s1, vi (((List.length l2 : Nat) : Int)), vb false, s1, vi (((List.length l2 : Nat) : Int)), vi x43, vb true, vi x43, va (slAt s1 6 (Int.toNat x43)), TNode.val x79, TNode.val x79, vb t113, vb false, vb false, s1, vp b80 0, vi x79.Acct, vi t115, vi x43, vb true, vb true, vb true, Z, Z, Z, Z, Z, Z, Z, Z, Z, Z, Z, Z, Z, vb true, g74], []⟩) (by kernel_rfl) ?_
                refine WQ.done rfl ?_
                refine (fun w128 H129 => ?_)
                exact ⟨true, _, _, _, _, _, _, _, _, _, _, _, _, _, _, _, _, _, _, _, _, _, _, _, _, _, rfl, St.sel H129 [0] (by decide) rfl, h⟩
            | true =>
              replace h := br_t h
              refine WQ.off rfl (by kernel_rfl) ?_
              refine WQ.off rfl (by kernel_rfl) ?_
              refine WQ.off rfl (by kernel_rfl) ?_
              refine WQ.off rfl (by kernel_rfl) ?_
              refine WQ.off rfl (by kernel_rfl) ?_
              refine WQ.off rfl (by kernel_rfl) ?_
              refine WQ.value (v := vb true) rfl (by kernel_rfl) (fun w _ => by kernel_rfl) ?_
              refine WQ.value (v := vb true) rfl (by kernel_rfl) (fun w _ => by kernel_rfl) ?_
              refine WQ.off rfl (by kernel_rfl) ?_
              refine WQ.off rfl (by kernel_rfl) ?_
              refine WQ.off rfl (by kernel_rfl) ?_
              refine WQ.off rfl (by kernel_rfl) ?_
              refine WQ.off rfl (by kernel_rfl) ?_
              refine WQ.off rfl (by kernel_rfl) ?_
              refine WQ.off rfl (by kernel_rfl) ?_
              refine WQ.off rfl (by kernel_rfl) ?_
              refine WQ.off rfl (by kernel_rfl) ?_
              refine WQ.off rfl (by kernel_rfl) ?_
              refine WQ.off rfl (by kernel_rfl) ?_
              refine WQ.off rfl (by kernel_rfl) ?_
              refine WQ.off rfl (by kernel_rfl) ?_
              refine WQ.value (v := vb true) rfl (by kernel_rfl) (fun w _ => by kernel_rfl) ?_
              refine WQ.frame (a' := ⟨#[s1, Z, g40, vi x43, vp b80 0, s1, vi (((List.length l2 : Nat) : Int)), vb false, s1, vi (((List.length l2 : Nat) : Int)), vi x43, vb true, vi x43, va (slAt s1 6 (Int.toNat x43)), TNode.val x79, TNode.val x79, vb t113, vb true, vb true, Z, Z, Z, Z, Z, Z, vb true, vb true, Z, Z, Z, Z, Z, Z, Z, Z, Z, Z, Z, Z, Z, vb true, g74], []⟩) (by kernel_rfl) ?_
              refine WQ.done rfl ?_
              refine (fun w130 H131 => ?_)
              exact ⟨true, _, _, _, _, _, _, _, _, _, _, _, _, _, _, _, _, _, _, _, _, _, _, _, _, _, rfl, St.sel H131 [0] (by decide) rfl, h⟩
          · rintro a w ⟨c111, g86, g87, g88, g89, g90, g91, g92, g93, g94, g95, g96, g97, g98, g99, g100, g101, g102, g103, g104, g105, g106, g107, g108, g109, g110, rfl, H, h⟩
            subst hK112
            obtain ⟨w132, rfl⟩ : ∃ x, x = w := ⟨_, rfl⟩
            have H133 := H; clear H
            refine then_n ?_
            cases c111 with
            | false =>
              replace h := br_f h
              refine WP.condF (by kernel_rfl) ?_
              refine WP.skip ?_
              refine inb_n (then_n ?_)
              refine WP.region ?_
              obtain ⟨x134, hx134, h⟩ := lt_some h
              refine WPI.run 2 ⟨#[s1, Z, g40, vi x43, vp b80 0, s1, vi (((List.length l2 : Nat) : Int)), vb false, s1, vi (((List.length l2 : Nat) : Int)), vi x134, vb true, vi x43, va (slAt s1 6 (Int.toNat x43)), TNode.val x79, g86, g87, g88, g89, g90, g91, g92, g93, g94, g95, g96, g97, g98, g99, g100, g101, g102, g103, g104, g105, g106, g107, g108, g109, g110, vb false, vi x134], []⟩ w132 (fun K => by subst hx134; kernel_rfl) ?_
              refine WPI.done rfl ?_
              exact then_n ⟨n, Nat.lt_succ_self n, x134, _, _, _, _, _, _, _, _, _, _, _, _, _, _, _, _, _, _, _, _, _, _, _, _, _, _, _, _, _, _, _, _, _, _, rfl, St.sel H133 [] (by decide) rfl, h⟩
            | true =>
              replace h := br_t h
              refine WP.condT (by kernel_rfl) ?_
              refine WP.seq ?_
              refine WP.region ?_
              refine WPI.run 1 ⟨#[s1, Z, vi 1, vi x43, vp b80 0, s1, vi (((List.length l2 : Nat) : Int)), vb false, s1, vi (((List.length l2 : Nat) : Int)), vi x43, vb true, vi x43, va (slAt s1 6 (Int.toNat x43)), TNode.val x79, g86, g87, g88, g89, g90, g91, g92, g93, g94, g95, g96, g97, g98, g99, g100, g101, g102, g103, g104, g105, g106, g107, g108, g109, g110, vb true, g74], []⟩ w132 (fun K => by kernel_rfl) ?_
              refine WPI.done rfl ?_
              refine then_n ?_
              refine WP.ret ?_
              obtain rfl := Option.some.inj h
              exact inb_r (then_r (then_r (inb_r (then_r (then_r (post_r (vi 1) rfl (by kernel_rfl) ⟨rfl, St.sel H133 [] (by decide) rfl⟩))))))
    · rintro a w ⟨g4, g5, g6, g7, g8, g9, g10, g11, g12, g13, g14, g15, g16, g17, g18, g19, g20, g21, g22, g23, g24, g25, g26, g27, g28, g29, g30, g31, g32, g33, g34, g35, g36, g37, g38, rfl, H, h⟩
      subst hK39
      obtain ⟨w135, rfl⟩ : ∃ x, x = w := ⟨_, rfl⟩
      have H136 := H; clear H
      refine then_n ?_
      refine WP.seq ?_
      refine WP.region ?_
      refine WPI.run 1 ⟨#[s1, Z, vi 0, g5, g6, s1, vi (((List.length l2 : Nat) : Int)), vb false, s1, vi (((List.length l2 : Nat) : Int)), g7, g8, g9, g10, g11, g12, g13, g14, g15, g16, g17, g18, g19, g20, g21, g22, g23, g24, g25, g26, g27, g28, g29, g30, g31, g32, g33, g34, g35, g36, g37, g38], []⟩ w135 (fun K => by kernel_rfl) ?_
      refine WPI.done rfl ?_
      refine then_n ?_
      refine WP.ret ?_
      obtain rfl := Option.some.inj h
      exact post_r (vi 0) rfl (by kernel_rfl) ⟨rfl, St.sel H136 [] (by decide) rfl⟩
  | true =>
    replace h := br_t h
    refine WP.condT (by kernel_rfl) ?_
    refine WP.seq ?_
    refine WP.region ?_
    refine WPI.run 1 ⟨#[s1, Z, vi 1, Z, Z, s1, vi (((List.length l2 : Nat) : Int)), vb true, Z, Z, Z, Z, Z, Z, Z, Z, Z, Z, Z, Z, Z, Z, Z, Z, Z, Z, Z, Z, Z, Z, Z, Z, Z, Z, Z, Z, Z, Z, Z, Z, Z, Z], []⟩ w0 (fun K => by kernel_rfl) ?_
    refine WPI.done rfl ?_
    refine then_n ?_
    refine WP.ret ?_
    obtain rfl := Option.some.inj h
    exact then_r (post_r (vi 1) rfl (by kernel_rfl) ⟨rfl, St.sel H0 [] (by decide) rfl⟩)
end Go.Proofs
