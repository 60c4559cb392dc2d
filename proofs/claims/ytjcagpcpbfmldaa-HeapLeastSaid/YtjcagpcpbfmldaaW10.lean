import Derived.Test.YtjcagpcpbfmldaaGw
import Derived.Test.YtjcagpcpbfmldaaProg
import Derived.Test.YtjcagpcpbfmldaaT
import Derived.Test.YtjcagpcpbfmldaaW1
import Derived.Test.YtjcagpcpbfmldaaW2
import Derived.Test.YtjcagpcpbfmldaaW3
import Derived.Test.YtjcagpcpbfmldaaW4
import Derived.Test.YtjcagpcpbfmldaaW5
import Derived.Test.YtjcagpcpbfmldaaW6
import Derived.Test.YtjcagpcpbfmldaaW7
import Derived.Test.YtjcagpcpbfmldaaW8
import Derived.Test.YtjcagpcpbfmldaaW9
set_option linter.unusedVariables false
set_option linter.unusedSimpArgs false
set_option maxRecDepth 100000
set_option maxHeartbeats 4000000
namespace Go.Proofs
open Gw Go.RowKit
/- tarn/tarnref12.Order -/
def g_tarnref12_Order_l2 (K152 : Int → Option (List TNode)) (l49 : List TNode) (x51 : Int) (l2 : List TNode) (fuel : Nat) : Nat → Int → Option (List TNode)
  | 0, _ => none
  | n + 1, x153 => jn (fun (c188 : Bool) => br c188 (lt (wr .i64 (x153 + 1)) fun x203 => g_tarnref12_Order_l2 K152 l49 x51 l2 fuel n x203) (K152 x153)) fun K189 => lt (decide (x153 < (((List.length l49 : Nat) : Int)))) fun c190 => br c190 (gd ((0 : Int) ≤ x153 ∧ x153 < ((List.length l49 : Nat) : Int)) <| bd (l49[Int.toNat x153]?) fun x194 => gd ((0 : Int) ≤ x51 ∧ x51 < ((List.length l2 : Nat) : Int)) <| bd (l2[Int.toNat x51]?) fun x196 => bd (g_tarnref12_Below fuel x194 x196) fun t197 => K189 t197) (K189 false)
def g_tarnref12_Order_l1 (l2 : List TNode) (fuel : Nat) (K47 : (List TNode) → Option (List TNode)) : Nat → (List TNode) → Int → Option (List TNode)
  | 0, _, _ => none
  | n + 1, l49, x51 => lt (decide (x51 < (((List.length l2 : Nat) : Int)))) fun c95 => br c95 (jn (fun (l97 : List TNode) => lt (wr .i64 (x51 + 1)) fun x272 => g_tarnref12_Order_l1 l2 fuel K47 n l97 x272) fun K133 => jn (fun (x134 : Int) => jn (fun (l208 : List TNode) => gd ((0 : Int) ≤ x134 ∧ x134 ≤ (((List.length l49 : Nat) : Int)) ∧ (((List.length l49 : Nat) : Int)) ≤ ((List.length l49 : Nat) : Int)) <| gd ((List.length l208 + List.length ((List.drop (Int.toNat x134) (List.take (Int.toNat (((List.length l49 : Nat) : Int))) l49)))) * 48 ≤ 140737488355328) <| lt (l208 ++ ((List.drop (Int.toNat x134) (List.take (Int.toNat (((List.length l49 : Nat) : Int))) l49)))) fun l263 => K133 l263) fun K220 => gd ((0 : Int) ≤ 0 ∧ 0 ≤ x134 ∧ x134 ≤ ((List.length l49 : Nat) : Int)) <| bd (g_tarnref0_CopyNodes fuel ((List.take (Int.toNat x134) l49))) fun t223 => gd ((0 : Int) ≤ x51 ∧ x51 < ((List.length l2 : Nat) : Int)) <| bd (l2[Int.toNat x51]?) fun x228 => gd ((List.length t223 + List.length (([x228] : List TNode))) * 48 ≤ 140737488355328) <| lt (t223 ++ (([x228] : List TNode))) fun l233 => K220 l233) fun K152 => g_tarnref12_Order_l2 K152 l49 x51 l2 fuel fuel 0) (K47 l49)
def g_tarnref12_Order (fuel : Nat) (l2 : List TNode) : Option (List TNode) :=
  jn (fun (l4 : List TNode) => some l4) fun K47 => g_tarnref12_Order_l1 l2 fuel K47 fuel ([]) 0
theorem g_tarnref12_Order_w (fuel : Nat) (s1 : Value) (l2 : List TNode) (r : List TNode) (h : g_tarnref12_Order fuel l2 = some r) (w0 : World) (hs1 : Rd fTNode (hp no w0) s1 l2) :
    Ret Try.prog 14 #[s1] w0 (fun v w' => ∃ (q0 : Value), v = q0 ∧ St no w0 w' [Own fTNode 33 q0 r]) := by
  unfold g_tarnref12_Order at h
  refine ret_of_wp Try.func14 rfl #[s1, Z, Z, Z, Z, Z, Z, Z, Z, Z, Z, Z, Z, Z, Z, Z, Z, Z, Z, Z, Z, Z, Z, Z, Z, Z, Z, Z, Z, Z, Z, Z, Z, Z, Z, Z, Z, Z, Z, Z, Z, Z, Z, Z, Z, Z] (by kernel_rfl) ?_
  have H0 := St.start w0
  refine WP.seq ?_
  refine WP.region ?_
  refine WPI.run 1 ⟨#[s1, Z, vn, Z, Z, Z, Z, Z, Z, Z, Z, Z, Z, Z, Z, Z, Z, Z, Z, Z, Z, Z, Z, Z, Z, Z, Z, Z, Z, Z, Z, Z, Z, Z, Z, Z, Z, Z, Z, Z, Z, Z, Z, Z, Z, Z], []⟩ w0 (fun K => by kernel_rfl) ?_
  refine WPI.done rfl ?_
  refine then_n ?_
  refine WP.seq ?_
  refine WP.region ?_
  refine WPI.run 1 ⟨#[s1, Z, vn, vn, Z, Z, Z, Z, Z, Z, Z, Z, Z, Z, Z, Z, Z, Z, Z, Z, Z, Z, Z, Z, Z, Z, Z, Z, Z, Z, Z, Z, Z, Z, Z, Z, Z, Z, Z, Z, Z, Z, Z, Z, Z, Z], []⟩ w0 (fun K => by kernel_rfl) ?_
  refine WPI.done rfl ?_
  refine then_n ?_
  refine WP.seq ?_
  refine WP.seq ?_
  refine WP.region ?_
  refine WPI.run 1 ⟨#[s1, Z, vn, vn, vi 0, Z, Z, Z, Z, Z, Z, Z, Z, Z, Z, Z, Z, Z, Z, Z, Z, Z, Z, Z, Z, Z, Z, Z, Z, Z, Z, Z, Z, Z, Z, Z, Z, Z, Z, Z, Z, Z, Z, Z, Z, Z], []⟩ w0 (fun K => by kernel_rfl) ?_
  refine WPI.done rfl ?_
  refine then_n ?_
  obtain ⟨K47, hK47, h⟩ := jn_some h
  refine WP.blockJ (fun a w => ∃ (l4 : List TNode) (s5 : Value) (g6 : Value) (g7 : Value) (g8 : Value) (g9 : Value) (g10 : Value) (g11 : Value) (g12 : Value) (g13 : Value) (g14 : Value) (g15 : Value) (g16 : Value) (g17 : Value) (g18 : Value) (g19 : Value) (g20 : Value) (g21 : Value) (g22 : Value) (g23 : Value) (g24 : Value) (g25 : Value) (g26 : Value) (g27 : Value) (g28 : Value) (g29 : Value) (g30 : Value) (g31 : Value) (g32 : Value) (g33 : Value) (g34 : Value) (g35 : Value) (g36 : Value) (g37 : Value) (g38 : Value) (g39 : Value) (g40 : Value) (g41 : Value) (g42 : Value) (g43 : Value) (g44 : Value) (g45 : Value) (g46 : Value), a = ⟨#[s1, Z, vn, s5, g6, g7, g8, g9, g10, g11, g12, g13, g14, g15, g16, g17, g18, g19, g20, g21, g22, g23, g24, g25, g26, g27, g28, g29, g30, g31, g32, g33, g34, g35, g36, g37, g38, g39, g40, g41, g42, g43, g44, g45, g46, Z], []⟩ ∧ St no w0 w [Own fTNode 33 s5 l4] ∧ K47 l4 = some r) ?_ ?_
  · skip
    refine WP.loop (fun n a w => ∃ (l49 : List TNode) (x51 : Int) (s50 : Value) (g52 : Value) (g53 : Value) (g54 : Value) (g55 : Value) (g56 : Value) (g57 : Value) (g58 : Value) (g59 : Value) (g60 : Value) (g61 : Value) (g62 : Value) (g63 : Value) (g64 : Value) (g65 : Value) (g66 : Value) (g67 : Value) (g68 : Value) (g69 : Value) (g70 : Value) (g71 : Value) (g72 : Value) (g73 : Value) (g74 : Value) (g75 : Value) (g76 : Value) (g77 : Value) (g78 : Value) (g79 : Value) (g80 : Value) (g81 : Value) (g82 : Value) (g83 : Value) (g84 : Value) (g85 : Value) (g86 : Value) (g87 : Value) (g88 : Value) (g89 : Value) (g90 : Value) (g91 : Value), a = ⟨#[s1, Z, vn, s50, vi x51, g52, g53, g54, g55, g56, g57, g58, g59, g60, g61, g62, g63, g64, g65, g66, g67, g68, g69, g70, g71, g72, g73, g74, g75, g76, g77, g78, g79, g80, g81, g82, g83, g84, g85, g86, g87, g88, g89, g90, g91, Z], []⟩ ∧ St no w0 w [Own fTNode 33 s50 l49] ∧ g_tarnref12_Order_l1 l2 fuel K47 n l49 x51 = some r) fuel ⟨([]), 0, vn, _, _, _, _, _, _, _, _, _, _, _, _, _, _, _, _, _, _, _, _, _, _, _, _, _, _, _, _, _, _, _, _, _, _, _, _, _, _, _, _, rfl, St.sel (St.nil H0 fTNode 33) [0] (by decide) rfl, h⟩ ?_
    rintro n a w ⟨l49, x51, s50, g52, g53, g54, g55, g56, g57, g58, g59, g60, g61, g62, g63, g64, g65, g66, g67, g68, g69, g70, g71, g72, g73, g74, g75, g76, g77, g78, g79, g80, g81, g82, g83, g84, g85, g86, g87, g88, g89, g90, g91, rfl, H, h⟩
    cases n with
    | zero => rw [g_tarnref12_Order_l1] at h; cases h
    | succ n =>
      rw [g_tarnref12_Order_l1] at h
      obtain ⟨w92, rfl⟩ : ∃ x, x = w := ⟨_, rfl⟩
      have H93 := H; clear H
      have sf94 := Own.isSl (St.get H93 0 rfl)
      refine WP.seq ?_
      refine WP.seq ?_
      refine WP.region ?_
      refine WPI.run 2 ⟨#[s1, Z, vn, s50, vi x51, g52, g53, vi x51, s1, g56, g57, g58, g59, g60, g61, g62, g63, g64, g65, g66, g67, g68, g69, g70, g71, g72, g73, g74, g75, g76, g77, g78, g79, g80, g81, g82, g83, g84, g85, g86, g87, g88, g89, g90, g91, Z], []⟩ w92 (fun K => by kernel_rfl) ?_
      refine WPI.value (v := vi (((List.length l2 : Nat) : Int))) rfl (by kernel_rfl) (ev_len (Rd.sl hs1) 22 (.tmp 8) 33 6 48 rfl (by kernel_rfl) (by kernel_rfl)) ?_
      obtain ⟨c95, hc95, h⟩ := lt_some h
      refine WPI.run 1 ⟨#[s1, Z, vn, s50, vi x51, g52, g53, vi x51, s1, vi (((List.length l2 : Nat) : Int)), vb c95, g58, g59, g60, g61, g62, g63, g64, g65, g66, g67, g68, g69, g70, g71, g72, g73, g74, g75, g76, g77, g78, g79, g80, g81, g82, g83, g84, g85, g86, g87, g88, g89, g90, g91, Z], []⟩ w92 (fun K => by subst hc95; kernel_rfl) ?_
      refine WPI.done rfl ?_
      refine then_n ?_
      cases c95 with
      | false =>
        replace h := br_f h
        refine WP.condF (by kernel_rfl) ?_
        refine WP.exit ?_
        exact then_e (then_e (inb_e (then_n ⟨l49, s50, _, _, _, _, _, _, _, _, _, _, _, _, _, _, _, _, _, _, _, _, _, _, _, _, _, _, _, _, _, _, _, _, _, _, _, _, _, _, _, _, _, rfl, St.sel H93 [0] (by decide) rfl, h⟩)))
      | true =>
        replace h := br_t h
        refine WP.condT (by kernel_rfl) ?_
        refine WP.skip ?_
        refine then_n ?_
        refine WP.seq ?_
        obtain ⟨K133, hK133, h⟩ := jn_some h
        refine WP.blockJ (fun a w => ∃ (l97 : List TNode) (s98 : Value) (g99 : Value) (g100 : Value) (g101 : Value) (g102 : Value) (g103 : Value) (g104 : Value) (g105 : Value) (g106 : Value) (g107 : Value) (g108 : Value) (g109 : Value) (g110 : Value) (g111 : Value) (g112 : Value) (g113 : Value) (g114 : Value) (g115 : Value) (g116 : Value) (g117 : Value) (g118 : Value) (g119 : Value) (g120 : Value) (g121 : Value) (g122 : Value) (g123 : Value) (g124 : Value) (g125 : Value) (g126 : Value) (g127 : Value) (g128 : Value) (g129 : Value) (g130 : Value) (g131 : Value) (g132 : Value), a = ⟨#[s1, Z, vn, s98, vi x51, g99, g100, vi x51, s1, vi (((List.length l2 : Nat) : Int)), vb true, g58, g59, g101, g102, g103, g104, g105, g106, g107, g108, g109, g110, g111, g112, g113, g114, g115, g116, g117, g118, g119, g120, g121, g122, g123, g124, g125, g126, g127, g128, g129, g130, g131, g132, Z], []⟩ ∧ St no w0 w [Own fTNode 33 s50 l49, Own fTNode 33 s98 l97] ∧ K133 l97 = some r) ?_ ?_
        · skip
          refine WP.seq ?_
          refine WP.region ?_
          refine WPI.run 1 ⟨#[s1, Z, vn, s50, vi x51, vi 0, g53, vi x51, s1, vi (((List.length l2 : Nat) : Int)), vb true, g58, g59, g60, g61, g62, g63, g64, g65, g66, g67, g68, g69, g70, g71, g72, g73, g74, g75, g76, g77, g78, g79, g80, g81, g82, g83, g84, g85, g86, g87, g88, g89, g90, g91, Z], []⟩ w92 (fun K => by kernel_rfl) ?_
          refine WPI.done rfl ?_
          refine then_n ?_
          refine WP.seq ?_
          obtain ⟨K152, hK152, h⟩ := jn_some h
          refine WP.blockJ (fun a w => ∃ (x134 : Int) (g135 : Value) (g136 : Value) (g137 : Value) (g138 : Value) (g139 : Value) (g140 : Value) (g141 : Value) (g142 : Value) (g143 : Value) (g144 : Value) (g145 : Value) (g146 : Value) (g147 : Value) (g148 : Value) (g149 : Value) (g150 : Value) (g151 : Value), a = ⟨#[s1, Z, vn, s50, vi x51, vi x134, g53, vi x51, s1, vi (((List.length l2 : Nat) : Int)), vb true, g58, g59, g135, g136, g137, g138, g139, g140, g141, g142, g143, g144, g145, g146, g147, g148, g149, g150, g151, g77, g78, g79, g80, g81, g82, g83, g84, g85, g86, g87, g88, g89, g90, g91, Z], []⟩ ∧ St no w0 w [Own fTNode 33 s50 l49] ∧ K152 x134 = some r) ?_ ?_
          · skip
            refine WP.loop (fun n a w => ∃ (x153 : Int) (g154 : Value) (g155 : Value) (g156 : Value) (g157 : Value) (g158 : Value) (g159 : Value) (g160 : Value) (g161 : Value) (g162 : Value) (g163 : Value) (g164 : Value) (g165 : Value) (g166 : Value) (g167 : Value) (g168 : Value) (g169 : Value) (g170 : Value), a = ⟨#[s1, Z, vn, s50, vi x51, vi x153, g53, vi x51, s1, vi (((List.length l2 : Nat) : Int)), vb true, g58, g59, g154, g155, g156, g157, g158, g159, g160, g161, g162, g163, g164, g165, g166, g167, g168, g169, g170, g77, g78, g79, g80, g81, g82, g83, g84, g85, g86, g87, g88, g89, g90, g91, Z], []⟩ ∧ St no w0 w [Own fTNode 33 s50 l49] ∧ g_tarnref12_Order_l2 K152 l49 x51 l2 fuel n x153 = some r) fuel ⟨0, _, _, _, _, _, _, _, _, _, _, _, _, _, _, _, _, _, rfl, St.sel H93 [0] (by decide) rfl, h⟩ ?_
            rintro n a w ⟨x153, g154, g155, g156, g157, g158, g159, g160, g161, g162, g163, g164, g165, g166, g167, g168, g169, g170, rfl, H, h⟩
            cases n with
            | zero => rw [g_tarnref12_Order_l2] at h; cases h
            | succ n =>
              rw [g_tarnref12_Order_l2] at h
              obtain ⟨w171, rfl⟩ : ∃ x, x = w := ⟨_, rfl⟩
              have H172 := H; clear H
              have sf173 := Own.isSl (St.get H172 0 rfl)
              refine WP.seq ?_
              refine WP.seq ?_
              obtain ⟨K189, hK189, h⟩ := jn_some h
              refine WP.onlyN (fun a w => ∃ (c188 : Bool) (g174 : Value) (g175 : Value) (g176 : Value) (g177 : Value) (g178 : Value) (g179 : Value) (g180 : Value) (g181 : Value) (g182 : Value) (g183 : Value) (g184 : Value) (g185 : Value) (g186 : Value) (g187 : Value), a = ⟨#[s1, Z, vn, s50, vi x51, vi x153, g53, vi x51, s1, vi (((List.length l2 : Nat) : Int)), vb true, g58, g59, g174, g175, g176, g177, g178, g179, g180, g181, g182, g183, g184, g185, g186, g187, vb c188, g169, g170, g77, g78, g79, g80, g81, g82, g83, g84, g85, g86, g87, g88, g89, g90, g91, Z], []⟩ ∧ St no w0 w [Own fTNode 33 s50 l49] ∧ K189 c188 = some r) ?_ ?_
              · skip
                refine WP.quiet (by kernel_rfl) (by kernel_rfl) (by kernel_rfl) (fun w => St no w0 w [Own fTNode 33 s50 l49]) (St.drew H172) ?_
                refine WQ.value (v := vi x153) rfl (by kernel_rfl) (fun w _ => by kernel_rfl) ?_
                refine WQ.value (v := s50) rfl (by kernel_rfl) (fun w _ => by kernel_rfl) ?_
                refine WQ.value (v := vi (((List.length l49 : Nat) : Int))) rfl (by kernel_rfl) (fun w H => ev_len sf173 22 (.tmp 14) 33 6 48 rfl (by kernel_rfl) (by kernel_rfl)) ?_
                obtain ⟨c190, hc190, h⟩ := lt_some h
                refine WQ.value (v := vb c190) rfl (by kernel_rfl) (fun w _ => by subst hc190; kernel_rfl) ?_
                refine WQ.value (v := vb c190) rfl (by kernel_rfl) (fun w _ => by kernel_rfl) ?_
                cases c190 with
                | false =>
                  replace h := br_f h
                  refine WQ.off rfl (by kernel_rfl) ?_
                  refine WQ.off rfl (by kernel_rfl) ?_
                  refine WQ.off rfl (by kernel_rfl) ?_
                  refine WQ.off rfl (by kernel_rfl) ?_
                  refine WQ.off rfl (by kernel_rfl) ?_
                  refine WQ.off rfl (by kernel_rfl) ?_
                  refine WQ.off rfl (by kernel_rfl) ?_
                  refine WQ.off rfl (by kernel_rfl) ?_
                  refine WQ.off rfl (by kernel_rfl) ?_
                  refine WQ.value (v := vb false) rfl (by kernel_rfl) (fun w _ => by kernel_rfl) ?_
                  refine WQ.frame (a' := ⟨#[s1, Z, vn, s50, vi x51, vi x153, g53, vi x51, s1, vi (((List.length l2 : Nat) : Int)), vb true, g58, g59, vi x153, s50, vi (((List.length l49 : Nat) : Int)), vb false, vb false, Z, Z, Z, Z, Z, Z, Z, Z, Z, vb false, g169, g170, g77, g78, g79, g80, g81, g82, g83, g84, g85, g86, g87, g88, g89, g90, g91, Z], []⟩) (by kernel_rfl) ?_
                  refine WQ.done rfl ?_
                  refine (fun w191 H192 => ?_)
                  exact ⟨false, _, _, _, _, _, _, _, _, _, _, _, _, _, _, rfl, St.sel H192 [0] (by decide) rfl, h⟩
                | true =>
                  replace h := br_t h
                  refine WQ.value (v := s50) rfl (by kernel_rfl) (fun w _ => by kernel_rfl) ?_
                  refine WQ.value (v := vi x153) rfl (by kernel_rfl) (fun w _ => by kernel_rfl) ?_
                  obtain ⟨hg193, h⟩ := gd_some h
                  refine WQ.value (v := va (slAt s50 6 (Int.toNat x153))) rfl (by kernel_rfl) (fun w H => ev_index sf173 22 (.tmp 18) (.tmp 19) 33 6 48 .i64 x153 rfl (by kernel_rfl) (by kernel_rfl) (by kernel_rfl) hg193) ?_
                  obtain ⟨x194, hx194, h⟩ := bd_some h
                  refine WQ.value (v := TNode.val x194) rfl (by kernel_rfl) (fun w H => ev_loadEl (F := fTNode) (St.rd H 0 rfl) (hp_no_le _) hx194 33 (.tmp 20) 0 (TNode.val x194) rfl (by kernel_rfl) (by kernel_rfl)) ?_
                  refine WQ.value (v := s1) rfl (by kernel_rfl) (fun w _ => by kernel_rfl) ?_
                  refine WQ.value (v := vi x51) rfl (by kernel_rfl) (fun w _ => by kernel_rfl) ?_
                  obtain ⟨hg195, h⟩ := gd_some h
                  refine WQ.value (v := va (slAt s1 6 (Int.toNat x51))) rfl (by kernel_rfl) (fun w H => ev_index (Rd.sl hs1) 22 (.tmp 22) (.tmp 23) 33 6 48 .i64 x51 rfl (by kernel_rfl) (by kernel_rfl) (by kernel_rfl) hg195) ?_
                  obtain ⟨x196, hx196, h⟩ := bd_some h
                  refine WQ.value (v := TNode.val x196) rfl (by kernel_rfl) (fun w H => ev_loadEl (F := fTNode) hs1 (St.hp_le H) hx196 33 (.tmp 24) 0 (TNode.val x196) rfl (by kernel_rfl) (by kernel_rfl)) ?_
                  obtain ⟨t197, ht197, h⟩ := bd_some h
                  refine WQ.call (v := vb t197) rfl (by kernel_rfl) (fun w => by kernel_rfl) (fun w H => Ret.mono (g_tarnref12_Below_w fuel x194 x196 t197 ht197 _) fun u w1 hu => ⟨hu.1, St.call0' H hu.2⟩) ?_
                  refine WQ.value (v := vb t197) rfl (by kernel_rfl) (fun w _ => by kernel_rfl) ?_
                  refine WQ.frame (a' := ⟨#[s1, Z, vn, s50, vi x51, vi x153, g53, vi x51, s1, vi (((List.length l2 : Nat) : Int)), vb true, g58, g59, vi x153, s50, vi (((List.length l49 : Nat) : Int)), vb true, vb true, s50, vi x153, va (slAt s50 6 (Int.toNat x153)), TNode.val x194, s1, vi x51, va (slAt s1 6 (Int.toNat x51)), TNode.val x196, vb t197, vb t197, g169, g170, g77, g78, g79, g80, g81, g82, g83, g84, g85, g86, g87, g88, g89, g90, g91, Z], []⟩) (by kernel_rfl) ?_
                  refine WQ.done rfl ?_
                  refine (fun w198 H199 => ?_)
                  exact ⟨t197, _, _, _, _, _, _, _, _, _, _, _, _, _, _, rfl, St.sel H199 [0] (by decide) rfl, h⟩
              · rintro a w ⟨c188, g174, g175, g176, g177, g178, g179, g180, g181, g182, g183, g184, g185, g186, g187, rfl, H, h⟩
                subst hK189
                obtain ⟨w200, rfl⟩ : ∃ x, x = w := ⟨_, rfl⟩
                have H201 := H; clear H
                have sf202 := Own.isSl (St.get H201 0 rfl)
                refine then_n ?_
                cases c188 with
                | false =>
                  replace h := br_f h
                  refine WP.condF (by kernel_rfl) ?_
                  refine WP.exit ?_
                  exact then_e (then_e (inb_e (then_n ⟨x153, _, _, _, _, _, _, _, _, _, _, _, _, _, _, _, _, _, rfl, St.sel H201 [0] (by decide) rfl, h⟩)))
                | true =>
                  replace h := br_t h
                  refine WP.condT (by kernel_rfl) ?_
                  refine WP.skip ?_
                  refine then_n ?_
                  refine WP.block ?_
                  refine WP.region ?_
                  obtain ⟨x203, hx203, h⟩ := lt_some h
                  refine WPI.run 3 ⟨#[s1, Z, vn, s50, vi x51, vi x203, g53, vi x51, s1, vi (((List.length l2 : Nat) : Int)), vb true, g58, g59, g174, g175, g176, g177, g178, g179, g180, g181, g182, g183, g184, g185, g186, g187, vb true, vi x153, vi x203, g77, g78, g79, g80, g81, g82, g83, g84, g85, g86, g87, g88, g89, g90, g91, Z], []⟩ w200 (fun K => by subst hx203; kernel_rfl) ?_
                  refine WPI.done rfl ?_
                  exact inb_n (then_n ⟨n, Nat.lt_succ_self n, x203, _, _, _, _, _, _, _, _, _, _, _, _, _, _, _, _, _, rfl, St.sel H201 [0] (by decide) rfl, h⟩)
          · rintro a w ⟨x134, g135, g136, g137, g138, g139, g140, g141, g142, g143, g144, g145, g146, g147, g148, g149, g150, g151, rfl, H, h⟩
            subst hK152
            obtain ⟨w204, rfl⟩ : ∃ x, x = w := ⟨_, rfl⟩
            have H205 := H; clear H
            have sf206 := Own.isSl (St.get H205 0 rfl)
            refine then_n ?_
            refine WP.seq ?_
            obtain ⟨K220, hK220, h⟩ := jn_some h
            refine WP.draw (by kernel_rfl) (by kernel_rfl) (fun a w => ∃ (l208 : List TNode) (s209 : Value) (g210 : Value) (g211 : Value) (g212 : Value) (g213 : Value) (g214 : Value) (g215 : Value) (g216 : Value) (g217 : Value) (g218 : Value) (g219 : Value), a = ⟨#[s1, Z, vn, s50, vi x51, vi x134, s209, vi x51, s1, vi (((List.length l2 : Nat) : Int)), vb true, g58, g59, g135, g136, g137, g138, g139, g140, g141, g142, g143, g144, g145, g146, g147, g148, g149, g150, g151, g210, g211, g212, g213, g214, g215, g216, g217, g218, g219, g87, g88, g89, g90, g91, Z], []⟩ ∧ St no w0 w [Own fTNode 33 s50 l49, Own fTNode 33 s209 l208] ∧ K220 l208 = some r) 11 #[false, false, false, false, false, false, false, false, false, false, false] (by kernel_rfl) (by kernel_rfl) ?_ ?_
            · skip
              have H221 := St.drew H205
              obtain ⟨hg222, h⟩ := gd_some h
              obtain ⟨t223, ht223, h⟩ := bd_some h
              obtain ⟨hg227, h⟩ := gd_some h
              obtain ⟨x228, hx228, h⟩ := bd_some h
              obtain ⟨hg232, h⟩ := gd_some h
              obtain ⟨l233, hl233, h⟩ := lt_some h
              refine WA.take 0 (v := s50) rfl (by kernel_rfl) (by kernel_rfl) (fun w => by kernel_rfl) (fun w => by kernel_rfl) (l' := #[true, false, false, false, false, false, false, false, false, false, false]) (by kernel_rfl) ?_
              refine WA.take 1 (v := vi x134) rfl (by kernel_rfl) (by kernel_rfl) (fun w => by kernel_rfl) (fun w => by kernel_rfl) (l' := #[true, true, false, false, false, false, false, false, false, false, false]) (by kernel_rfl) ?_
              refine WA.take 2 (v := (slSub s50 6 0 (Int.toNat x134))) rfl (by kernel_rfl) (by kernel_rfl) (fun w => ev_slice sf206 22 (.tmp 30) none (some (.tmp 31)) 33 6 48 0 x134 rfl (by kernel_rfl) (by kernel_rfl) (.inl ⟨rfl, rfl⟩) (.inr ⟨(.tmp 31), .i64, rfl, by kernel_rfl⟩) hg222) (fun w => by kernel_rfl) (l' := #[true, true, true, false, false, false, false, false, false, false, false]) (by kernel_rfl) ?_
              refine WA.take 4 (v := s1) rfl (by kernel_rfl) (by kernel_rfl) (fun w => by kernel_rfl) (fun w => by kernel_rfl) (l' := #[true, true, true, false, true, false, false, false, false, false, false]) (by kernel_rfl) ?_
              refine WA.take 5 (v := vi x51) rfl (by kernel_rfl) (by kernel_rfl) (fun w => by kernel_rfl) (fun w => by kernel_rfl) (l' := #[true, true, true, false, true, true, false, false, false, false, false]) (by kernel_rfl) ?_
              refine WA.take 6 (v := va (slAt s1 6 (Int.toNat x51))) rfl (by kernel_rfl) (by kernel_rfl) (fun w => ev_index (Rd.sl hs1) 22 (.tmp 34) (.tmp 35) 33 6 48 .i64 x51 rfl (by kernel_rfl) (by kernel_rfl) (by kernel_rfl) hg227) (fun w => by kernel_rfl) (l' := #[true, true, true, false, true, true, true, false, false, false, false]) (by kernel_rfl) ?_
              refine WA.any [3, 7] (by kernel_rfl) (by simp) ?_
              simp only [List.mem_cons, List.not_mem_nil, or_false, forall_eq_or_imp, forall_eq]
              refine ⟨?_, ?_⟩
              · skip
                refine WO.op rfl (Op1.call (by kernel_rfl) (by kernel_rfl) (g_tarnref0_CopyNodes_w fuel (slSub s50 6 0 (Int.toNat x134)) ((List.take (Int.toNat x134) l49)) t223 ht223 _ (Rd.sub (lo := Int.toNat 0) (hi := Int.toNat x134) (St.rd H221 0 rfl) (piece_lo hg222) (piece_hi hg222))) ?_)
                rintro s224 w236 ⟨_, rfl, Hc237⟩
                have H238 := St.call0 H221 Hc237
                clear H221 Hc237
                have sf226 := Own.isSl (St.get H238 0 rfl)
                refine WA.lst (l := #[true, true, true, true, true, true, true, false, false, false, false]) (by kernel_rfl) ?_
                refine WA.any [7] (by kernel_rfl) (by simp) ?_
                simp only [List.mem_singleton, forall_eq]
                refine WO.op rfl (Op1.val (v := TNode.val x228) (by kernel_rfl) (ev_loadEl (F := fTNode) hs1 (St.hp_le H238) hx228 33 (.tmp 36) 0 (TNode.val x228) rfl (by kernel_rfl) (by kernel_rfl)) ?_)
                refine WA.lst (l := #[true, true, true, true, true, true, true, true, false, false, false]) (by kernel_rfl) ?_
                refine WA.any [8] (by kernel_rfl) (by simp) ?_
                simp only [List.mem_singleton, forall_eq]
                refine WO.op rfl (Op1.lit (F := fTNode) (E := 33) H238 (by kernel_rfl) ([x228] : List TNode) (fun w => by kernel_rfl) (by simp [maxLen]) (fun s230 w239 H240 => ?_))
                clear H238
                have sf231 := Own.isSl (St.get H240 0 rfl)
                refine WA.lst (l := #[true, true, true, true, true, true, true, true, true, false, false]) (by kernel_rfl) ?_
                refine WA.any [9] (by kernel_rfl) (by simp) ?_
                simp only [List.mem_singleton, forall_eq]
                refine WO.op rfl (Op1.append (F := fTNode) H240 1 rfl (by kernel_rfl) 22 (.tmp 33) (.tmp 38) 48 rfl (by kernel_rfl) (by kernel_rfl) s230 (([x228] : List TNode)) (St.rd H240 0 rfl) (hp_no_le _) (by kernel_rfl) (app_len hg232 (by decide)) (fun s234 w241 H242 => ?_))
                rw [← hl233] at H242
                clear H240
                have sf235 := Own.isSl (St.get H242 0 rfl)
                refine WA.lst (l := #[true, true, true, true, true, true, true, true, true, true, false]) (by kernel_rfl) ?_
                refine WA.take 10 (v := s234) rfl (by kernel_rfl) (by kernel_rfl) (fun w => by kernel_rfl) (fun w => by kernel_rfl) (l' := #[true, true, true, true, true, true, true, true, true, true, true]) (by kernel_rfl) ?_
                refine WA.done (by kernel_rfl) ?_
                exact ⟨l233, s234, s50, (vi x134), ((slSub s50 6 0 (Int.toNat x134))), s224, s1, (vi x51), (va (slAt s1 6 (Int.toNat x51))), (TNode.val x228), s230, s234, (by kernel_rfl), St.sel H242 [2, 0] (by decide) rfl, h⟩
              · skip
                refine WO.op rfl (Op1.val (v := TNode.val x228) (by kernel_rfl) (ev_loadEl (F := fTNode) hs1 (St.hp_le H221) hx228 33 (.tmp 36) 0 (TNode.val x228) rfl (by kernel_rfl) (by kernel_rfl)) ?_)
                refine WA.lst (l := #[true, true, true, false, true, true, true, true, false, false, false]) (by kernel_rfl) ?_
                refine WA.any [3, 8] (by kernel_rfl) (by simp) ?_
                simp only [List.mem_cons, List.not_mem_nil, or_false, forall_eq_or_imp, forall_eq]
                refine ⟨?_, ?_⟩
                · skip
                  refine WO.op rfl (Op1.call (by kernel_rfl) (by kernel_rfl) (g_tarnref0_CopyNodes_w fuel (slSub s50 6 0 (Int.toNat x134)) ((List.take (Int.toNat x134) l49)) t223 ht223 _ (Rd.sub (lo := Int.toNat 0) (hi := Int.toNat x134) (St.rd H221 0 rfl) (piece_lo hg222) (piece_hi hg222))) ?_)
                  rintro s224 w243 ⟨_, rfl, Hc244⟩
                  have H245 := St.call0 H221 Hc244
                  clear H221 Hc244
                  have sf226 := Own.isSl (St.get H245 0 rfl)
                  refine WA.lst (l := #[true, true, true, true, true, true, true, true, false, false, false]) (by kernel_rfl) ?_
                  refine WA.any [8] (by kernel_rfl) (by simp) ?_
                  simp only [List.mem_singleton, forall_eq]
                  refine WO.op rfl (Op1.lit (F := fTNode) (E := 33) H245 (by kernel_rfl) ([x228] : List TNode) (fun w => by kernel_rfl) (by simp [maxLen]) (fun s230 w246 H247 => ?_))
                  clear H245
                  have sf231 := Own.isSl (St.get H247 0 rfl)
                  refine WA.lst (l := #[true, true, true, true, true, true, true, true, true, false, false]) (by kernel_rfl) ?_
                  refine WA.any [9] (by kernel_rfl) (by simp) ?_
                  simp only [List.mem_singleton, forall_eq]
                  refine WO.op rfl (Op1.append (F := fTNode) H247 1 rfl (by kernel_rfl) 22 (.tmp 33) (.tmp 38) 48 rfl (by kernel_rfl) (by kernel_rfl) s230 (([x228] : List TNode)) (St.rd H247 0 rfl) (hp_no_le _) (by kernel_rfl) (app_len hg232 (by decide)) (fun s234 w248 H249 => ?_))
                  rw [← hl233] at H249
                  clear H247
                  have sf235 := Own.isSl (St.get H249 0 rfl)
                  refine WA.lst (l := #[true, true, true, true, true, true, true, true, true, true, false]) (by kernel_rfl) ?_
                  refine WA.take 10 (v := s234) rfl (by kernel_rfl) (by kernel_rfl) (fun w => by kernel_rfl) (fun w => by kernel_rfl) (l' := #[true, true, true, true, true, true, true, true, true, true, true]) (by kernel_rfl) ?_
                  refine WA.done (by kernel_rfl) ?_
                  exact ⟨l233, s234, s50, (vi x134), ((slSub s50 6 0 (Int.toNat x134))), s224, s1, (vi x51), (va (slAt s1 6 (Int.toNat x51))), (TNode.val x228), s230, s234, (by kernel_rfl), St.sel H249 [2, 0] (by decide) rfl, h⟩
                · skip
                  refine WO.op rfl (Op1.lit (F := fTNode) (E := 33) H221 (by kernel_rfl) ([x228] : List TNode) (fun w => by kernel_rfl) (by simp [maxLen]) (fun s230 w250 H251 => ?_))
                  clear H221
                  have sf231 := Own.isSl (St.get H251 0 rfl)
                  refine WA.lst (l := #[true, true, true, false, true, true, true, true, true, false, false]) (by kernel_rfl) ?_
                  refine WA.any [3] (by kernel_rfl) (by simp) ?_
                  simp only [List.mem_singleton, forall_eq]
                  refine WO.op rfl (Op1.call (by kernel_rfl) (by kernel_rfl) (g_tarnref0_CopyNodes_w fuel (slSub s50 6 0 (Int.toNat x134)) ((List.take (Int.toNat x134) l49)) t223 ht223 _ (Rd.sub (lo := Int.toNat 0) (hi := Int.toNat x134) (St.rd H251 1 rfl) (piece_lo hg222) (piece_hi hg222))) ?_)
                  rintro s224 w252 ⟨_, rfl, Hc253⟩
                  have H254 := St.call0 H251 Hc253
                  clear H251 Hc253
                  have sf226 := Own.isSl (St.get H254 0 rfl)
                  refine WA.lst (l := #[true, true, true, true, true, true, true, true, true, false, false]) (by kernel_rfl) ?_
                  refine WA.any [9] (by kernel_rfl) (by simp) ?_
                  simp only [List.mem_singleton, forall_eq]
                  refine WO.op rfl (Op1.append (F := fTNode) H254 0 rfl (by kernel_rfl) 22 (.tmp 33) (.tmp 38) 48 rfl (by kernel_rfl) (by kernel_rfl) s230 (([x228] : List TNode)) (St.rd H254 1 rfl) (hp_no_le _) (by kernel_rfl) (app_len hg232 (by decide)) (fun s234 w255 H256 => ?_))
                  rw [← hl233] at H256
                  clear H254
                  have sf235 := Own.isSl (St.get H256 0 rfl)
                  refine WA.lst (l := #[true, true, true, true, true, true, true, true, true, true, false]) (by kernel_rfl) ?_
                  refine WA.take 10 (v := s234) rfl (by kernel_rfl) (by kernel_rfl) (fun w => by kernel_rfl) (fun w => by kernel_rfl) (l' := #[true, true, true, true, true, true, true, true, true, true, true]) (by kernel_rfl) ?_
                  refine WA.done (by kernel_rfl) ?_
                  exact ⟨l233, s234, s50, (vi x134), ((slSub s50 6 0 (Int.toNat x134))), s224, s1, (vi x51), (va (slAt s1 6 (Int.toNat x51))), (TNode.val x228), s230, s234, (by kernel_rfl), St.sel H256 [2, 0] (by decide) rfl, h⟩
            · rintro a w ⟨l208, s209, g210, g211, g212, g213, g214, g215, g216, g217, g218, g219, rfl, H, h⟩
              subst hK220
              obtain ⟨w257, rfl⟩ : ∃ x, x = w := ⟨_, rfl⟩
              have H258 := H; clear H
              have sf259 := Own.isSl (St.get H258 0 rfl)
              have sf260 := Own.isSl (St.get H258 1 rfl)
              refine then_n ?_
              refine WP.region ?_
              obtain ⟨hg261, h⟩ := gd_some h
              refine WPI.run 3 ⟨#[s1, Z, vn, s50, vi x51, vi x134, s209, vi x51, s1, vi (((List.length l2 : Nat) : Int)), vb true, g58, g59, g135, g136, g137, g138, g139, g140, g141, g142, g143, g144, g145, g146, g147, g148, g149, g150, g151, g210, g211, g212, g213, g214, g215, g216, g217, g218, g219, s209, s50, vi x134, g90, g91, Z], []⟩ w257 (fun K => by kernel_rfl) ?_
              refine WPI.value (v := (slSub s50 6 (Int.toNat x134) (Int.toNat (((List.length l49 : Nat) : Int))))) rfl (by kernel_rfl) (ev_slice sf259 22 (.tmp 41) (some (.tmp 42)) none 33 6 48 x134 (((List.length l49 : Nat) : Int)) rfl (by kernel_rfl) (by kernel_rfl) (.inr ⟨(.tmp 42), .i64, rfl, by kernel_rfl⟩) (.inl ⟨rfl, rfl⟩) hg261) ?_
              obtain ⟨hg262, h⟩ := gd_some h
              obtain ⟨l263, hl263, h⟩ := lt_some h
              refine WPI.run 0 ⟨#[s1, Z, vn, s50, vi x51, vi x134, s209, vi x51, s1, vi (((List.length l2 : Nat) : Int)), vb true, g58, g59, g135, g136, g137, g138, g139, g140, g141, g142, g143, g144, g145, g146, g147, g148, g149, g150, g151, g210, g211, g212, g213, g214, g215, g216, g217, g218, g219, s209, s50, vi x134, (slSub s50 6 (Int.toNat x134) (Int.toNat (((List.length l49 : Nat) : Int)))), g91, Z], []⟩ w257 (fun K => by kernel_rfl) ?_
              refine WPI.op rfl (Op1.append (F := fTNode) H258 1 rfl (by kernel_rfl) 22 (.tmp 40) (.tmp 43) 48 rfl (by kernel_rfl) (by kernel_rfl) (slSub s50 6 (Int.toNat x134) (Int.toNat (((List.length l49 : Nat) : Int)))) ((List.drop (Int.toNat x134) (List.take (Int.toNat (((List.length l49 : Nat) : Int))) l49))) (Rd.sub (lo := Int.toNat x134) (hi := Int.toNat (((List.length l49 : Nat) : Int))) (St.rd H258 0 rfl) (piece_lo hg261) (piece_hi hg261)) (hp_no_le _) (by kernel_rfl) (app_len hg262 (by decide)) (fun s264 w266 H267 => ?_))
              rw [← hl263] at H267
              clear H258
              have sf265 := Own.isSl (St.get H267 0 rfl)
              refine WPI.run 1 ⟨#[s1, Z, vn, s264, vi x51, vi x134, s209, vi x51, s1, vi (((List.length l2 : Nat) : Int)), vb true, g58, g59, g135, g136, g137, g138, g139, g140, g141, g142, g143, g144, g145, g146, g147, g148, g149, g150, g151, g210, g211, g212, g213, g214, g215, g216, g217, g218, g219, s209, s50, vi x134, (slSub s50 6 (Int.toNat x134) (Int.toNat (((List.length l49 : Nat) : Int)))), s264, Z], []⟩ w266 (fun K => by kernel_rfl) ?_
              refine WPI.done rfl ?_
              exact inb_n (then_n ⟨l263, s264, _, _, _, _, _, _, _, _, _, _, _, _, _, _, _, _, _, _, _, _, _, _, _, _, _, _, _, _, _, _, _, _, _, _, rfl, St.sel H267 [1, 0] (by decide) rfl, h⟩)
        · rintro a w ⟨l97, s98, g99, g100, g101, g102, g103, g104, g105, g106, g107, g108, g109, g110, g111, g112, g113, g114, g115, g116, g117, g118, g119, g120, g121, g122, g123, g124, g125, g126, g127, g128, g129, g130, g131, g132, rfl, H, h⟩
          subst hK133
          obtain ⟨w268, rfl⟩ : ∃ x, x = w := ⟨_, rfl⟩
          have H269 := H; clear H
          have sf270 := Own.isSl (St.get H269 0 rfl)
          have sf271 := Own.isSl (St.get H269 1 rfl)
          refine then_n ?_
          refine WP.region ?_
          obtain ⟨x272, hx272, h⟩ := lt_some h
          refine WPI.run 3 ⟨#[s1, Z, vn, s98, vi x272, g99, g100, vi x51, s1, vi (((List.length l2 : Nat) : Int)), vb true, vi x51, vi x272, g101, g102, g103, g104, g105, g106, g107, g108, g109, g110, g111, g112, g113, g114, g115, g116, g117, g118, g119, g120, g121, g122, g123, g124, g125, g126, g127, g128, g129, g130, g131, g132, Z], []⟩ w268 (fun K => by subst hx272; kernel_rfl) ?_
          refine WPI.done rfl ?_
          exact then_n ⟨n, Nat.lt_succ_self n, l97, x272, s98, _, _, _, _, _, _, _, _, _, _, _, _, _, _, _, _, _, _, _, _, _, _, _, _, _, _, _, _, _, _, _, _, _, _, _, _, _, _, _, _, rfl, St.sel H269 [1] (by decide) rfl, h⟩
  · rintro a w ⟨l4, s5, g6, g7, g8, g9, g10, g11, g12, g13, g14, g15, g16, g17, g18, g19, g20, g21, g22, g23, g24, g25, g26, g27, g28, g29, g30, g31, g32, g33, g34, g35, g36, g37, g38, g39, g40, g41, g42, g43, g44, g45, g46, rfl, H, h⟩
    subst hK47
    obtain ⟨w273, rfl⟩ : ∃ x, x = w := ⟨_, rfl⟩
    have H274 := H; clear H
    have sf275 := Own.isSl (St.get H274 0 rfl)
    refine then_n ?_
    refine WP.seq ?_
    refine WP.region ?_
    refine WPI.run 2 ⟨#[s1, Z, s5, s5, g6, g7, g8, g9, g10, g11, g12, g13, g14, g15, g16, g17, g18, g19, g20, g21, g22, g23, g24, g25, g26, g27, g28, g29, g30, g31, g32, g33, g34, g35, g36, g37, g38, g39, g40, g41, g42, g43, g44, g45, g46, s5], []⟩ w273 (fun K => by kernel_rfl) ?_
    refine WPI.done rfl ?_
    refine then_n ?_
    refine WP.ret ?_
    obtain rfl := Option.some.inj h
    exact post_r (s5) rfl (by kernel_rfl) ⟨s5, rfl, St.sel H274 [0] (by decide) rfl⟩
/- tarn/tarnlaw13.HeapLeasts -/
def g_tarnlaw13_HeapLeasts (fuel : Nat) (l2 : List TNode) (l4 : List Ttarnlaw13_Act) : Option Bool :=
  bd (g_tarnlaw13_heavy fuel l2 l4) fun t9 => br t9 (some true) (bd (g_heap_Least fuel l2) fun t13 => jn (fun (x29 : TNode) (x30 : Int) => jn (fun (c72 : Bool) => some c72) fun K85 => bd (g_tarnlaw13_num fuel t13.2) fun t86 => lt (t86 == x30) fun c90 => br c90 (lt (decide (t13.1 = x29)) fun c91 => br c91 (bd (g_tarnlaw13_wakes fuel) fun t92 => K85 t92) (K85 false)) (K85 false)) fun K43 => bd (g_tarnref12_Heap fuel l2) fun t44 => br t44 (lt (decide ((((List.length l2 : Nat) : Int)) > 0)) fun c48 => br c48 (jn (fun (x49 : TNode) => K43 x49 0) fun K55 => bd (g_tarnref12_Order fuel l2) fun t57 => gd ((0 : Int) ≤ 0 ∧ 0 < ((List.length t57 : Nat) : Int)) <| bd (t57[Int.toNat 0]?) fun x62 => K55 x62) (K43 (TNode.mk 0 (TRank.mk 0 (TU256.mk 0 0 0 0))) 3)) (K43 (TNode.mk 0 (TRank.mk 0 (TU256.mk 0 0 0 0))) 1))
theorem g_tarnlaw13_HeapLeasts_w (fuel : Nat) (s1 : Value) (l2 : List TNode) (s3 : Value) (l4 : List Ttarnlaw13_Act) (r : Bool) (h : g_tarnlaw13_HeapLeasts fuel l2 l4 = some r) (w0 : World) (hs1 : Rd fTNode (hp no w0) s1 l2) (hs3 : Rd fTtarnlaw13_Act (hp no w0) s3 l4) :
    Ret Try.prog 3 #[.agg #[s1, s3]] w0 (fun v w' => v = vb r ∧ St no w0 w' []) := by
  unfold g_tarnlaw13_HeapLeasts at h
  refine ret_of_wp Try.func3 rfl #[.agg #[s1, s3], Z, Z, Z, Z, Z, Z, Z, Z, Z, Z, Z, Z, Z, Z, Z, Z, Z, Z, Z, Z, Z, Z, Z, Z, Z, Z, Z, Z, Z, Z, Z, Z, Z, Z, Z, Z, Z, Z, Z] (by kernel_rfl) ?_
  have H0 := St.start w0
  refine WP.seq ?_
  refine WP.region ?_
  refine WPI.op rfl (Op1.box H0 #[s1, s3] (by kernel_rfl) 25 (.tmp 0) rfl (by kernel_rfl) (fun b5 w7 H8 => ?_))
  refine WPI.run 1 ⟨#[.agg #[s1, s3], vp b5 0, vb false, Z, Z, Z, Z, Z, Z, Z, Z, Z, Z, Z, Z, Z, Z, Z, Z, Z, Z, Z, Z, Z, Z, Z, Z, Z, Z, Z, Z, Z, Z, Z, Z, Z, Z, Z, Z, Z], []⟩ w7 (fun K => by kernel_rfl) ?_
  refine WPI.done rfl ?_
  refine then_n ?_
  refine WP.seq ?_
  refine WP.seq ?_
  refine WP.region ?_
  refine WPI.value (v := .agg #[s1, s3]) rfl (by kernel_rfl) (ev_loadBox H8 0 rfl 25 (.tmp 1) 0 (.agg #[s1, s3]) rfl (by kernel_rfl) (by kernel_rfl)) ?_
  obtain ⟨t9, ht9, h⟩ := bd_some h
  refine WPI.run 0 ⟨#[.agg #[s1, s3], vp b5 0, vb false, Z, Z, Z, Z, .agg #[s1, s3], Z, Z, Z, Z, Z, Z, Z, Z, Z, Z, Z, Z, Z, Z, Z, Z, Z, Z, Z, Z, Z, Z, Z, Z, Z, Z, Z, Z, Z, Z, Z, Z], []⟩ w7 (fun K => by kernel_rfl) ?_
  refine WPI.op rfl (Op1.call (by kernel_rfl) (by kernel_rfl) (g_tarnlaw13_heavy_w fuel s1 l2 s3 l4 t9 ht9 _ (Rd.arg0 hs1 H8) (Rd.arg0 hs3 H8)) ?_)
  rintro _ w10 ⟨rfl, Hc11⟩
  have H12 := St.call0' H8 Hc11
  clear H8 Hc11
  refine WPI.run 0 ⟨#[.agg #[s1, s3], vp b5 0, vb false, Z, Z, Z, Z, .agg #[s1, s3], vb t9, Z, Z, Z, Z, Z, Z, Z, Z, Z, Z, Z, Z, Z, Z, Z, Z, Z, Z, Z, Z, Z, Z, Z, Z, Z, Z, Z, Z, Z, Z, Z], []⟩ w10 (fun K => by kernel_rfl) ?_
  refine WPI.done rfl ?_
  refine then_n ?_
  cases t9 with
  | false =>
    replace h := br_f h
    refine WP.condF (by kernel_rfl) ?_
    refine WP.skip ?_
    refine then_n ?_
    refine WP.seq ?_
    refine WP.region ?_
    refine WPI.run 1 ⟨#[.agg #[s1, s3], vp b5 0, vb false, Z, Z, Z, Z, .agg #[s1, s3], vb false, Z, vp b5 0, Z, Z, Z, Z, Z, Z, Z, Z, Z, Z, Z, Z, Z, Z, Z, Z, Z, Z, Z, Z, Z, Z, Z, Z, Z, Z, Z, Z, Z], []⟩ w10 (fun K => by kernel_rfl) ?_
    refine WPI.value (v := s1) rfl (by kernel_rfl) (ev_loadBox H12 0 rfl 22 (.tmp 10) 0 (s1) rfl (by kernel_rfl) (by kernel_rfl)) ?_
    obtain ⟨t13, ht13, h⟩ := bd_some h
    refine WPI.run 0 ⟨#[.agg #[s1, s3], vp b5 0, vb false, Z, Z, Z, Z, .agg #[s1, s3], vb false, Z, vp b5 0, s1, Z, Z, Z, Z, Z, Z, Z, Z, Z, Z, Z, Z, Z, Z, Z, Z, Z, Z, Z, Z, Z, Z, Z, Z, Z, Z, Z, Z], []⟩ w10 (fun K => by kernel_rfl) ?_
    refine WPI.op rfl (Op1.call (by kernel_rfl) (by kernel_rfl) (g_heap_Least_w fuel s1 l2 t13 ht13 _ (Rd.arg0 hs1 H12)) ?_)
    rintro _ w14 ⟨rfl, Hc15⟩
    have H16 := St.call0' H12 Hc15
    clear H12 Hc15
    refine WPI.run 3 ⟨#[.agg #[s1, s3], vp b5 0, vb false, Z, Z, Z, Z, .agg #[s1, s3], vb false, .tuple #[TNode.val t13.1, vi t13.2], vp b5 0, s1, .tuple #[TNode.val t13.1, vi t13.2], TNode.val t13.1, vi t13.2, Z, Z, Z, Z, Z, Z, Z, Z, Z, Z, Z, Z, Z, Z, Z, Z, Z, Z, Z, Z, Z, Z, Z, Z, Z], []⟩ w14 (fun K => by kernel_rfl) ?_
    refine WPI.op rfl (Op1.alloc H16 #[vi 0, vi 0, vu 0, vu 0, vu 0, vu 0] (by kernel_rfl) 33 rfl (by kernel_rfl) (fun b17 w19 H20 => ?_))
    clear H16
    refine WPI.run 0 ⟨#[.agg #[s1, s3], vp b5 0, vb false, vp b17 0, Z, Z, Z, .agg #[s1, s3], vb false, .tuple #[TNode.val t13.1, vi t13.2], vp b5 0, s1, .tuple #[TNode.val t13.1, vi t13.2], TNode.val t13.1, vi t13.2, Z, Z, Z, Z, Z, Z, Z, Z, Z, Z, Z, Z, Z, Z, Z, Z, Z, Z, Z, Z, Z, Z, Z, Z, Z], []⟩ w19 (fun K => by kernel_rfl) ?_
    refine WPI.op rfl (Op1.storeBox H20 0 rfl (by kernel_rfl) 33 (.tmp 3) (.tmp 13) 0 (TNode.val t13.1) (TNode.cs t13.1).toArray true rfl (by kernel_rfl) (by kernel_rfl) (by kernel_rfl) (by kernel_rfl) (by kernel_rfl) (flat_one1 fTNode t13.1) (fun w21 H22 => ?_))
    clear H20
    refine WPI.run 1 ⟨#[.agg #[s1, s3], vp b5 0, vb false, vp b17 0, vi t13.2, Z, Z, .agg #[s1, s3], vb false, .tuple #[TNode.val t13.1, vi t13.2], vp b5 0, s1, .tuple #[TNode.val t13.1, vi t13.2], TNode.val t13.1, vi t13.2, Z, Z, Z, Z, Z, Z, Z, Z, Z, Z, Z, Z, Z, Z, Z, Z, Z, Z, Z, Z, Z, Z, Z, Z, Z], []⟩ w21 (fun K => by kernel_rfl) ?_
    refine WPI.done rfl ?_
    refine then_n ?_
    refine WP.seq ?_
    refine WP.region ?_
    refine WPI.run 1 ⟨#[.agg #[s1, s3], vp b5 0, vb false, vp b17 0, vi t13.2, Z, Z, .agg #[s1, s3], vb false, .tuple #[TNode.val t13.1, vi t13.2], vp b5 0, s1, .tuple #[TNode.val t13.1, vi t13.2], TNode.val t13.1, vi t13.2, .agg #[vi 0, vi 0, vu 0, vu 0, vu 0, vu 0], Z, Z, Z, Z, Z, Z, Z, Z, Z, Z, Z, Z, Z, Z, Z, Z, Z, Z, Z, Z, Z, Z, Z, Z], []⟩ w21 (fun K => by kernel_rfl) ?_
    refine WPI.op rfl (Op1.alloc H22 #[vi 0, vi 0, vu 0, vu 0, vu 0, vu 0] (by kernel_rfl) 33 rfl (by kernel_rfl) (fun b23 w25 H26 => ?_))
    clear H22
    refine WPI.run 1 ⟨#[.agg #[s1, s3], vp b5 0, vb false, vp b17 0, vi t13.2, vi 1, vp b23 0, .agg #[s1, s3], vb false, .tuple #[TNode.val t13.1, vi t13.2], vp b5 0, s1, .tuple #[TNode.val t13.1, vi t13.2], TNode.val t13.1, vi t13.2, .agg #[vi 0, vi 0, vu 0, vu 0, vu 0, vu 0], Z, Z, Z, Z, Z, Z, Z, Z, Z, Z, Z, Z, Z, Z, Z, Z, Z, Z, Z, Z, Z, Z, Z, Z], []⟩ w25 (fun K => by kernel_rfl) ?_
    refine WPI.op rfl (Op1.storeBox H26 0 rfl (by kernel_rfl) 33 (.tmp 6) (.tmp 15) 0 (.agg #[vi 0, vi 0, vu 0, vu 0, vu 0, vu 0]) #[vi 0, vi 0, vu 0, vu 0, vu 0, vu 0] true rfl (by kernel_rfl) (by kernel_rfl) (by kernel_rfl) (by kernel_rfl) (by kernel_rfl) (flat_one1 fTNode (TNode.mk 0 (TRank.mk 0 (TU256.mk 0 0 0 0)))) (fun w27 H28 => ?_))
    clear H26
    refine WPI.run 0 ⟨#[.agg #[s1, s3], vp b5 0, vb false, vp b17 0, vi t13.2, vi 1, vp b23 0, .agg #[s1, s3], vb false, .tuple #[TNode.val t13.1, vi t13.2], vp b5 0, s1, .tuple #[TNode.val t13.1, vi t13.2], TNode.val t13.1, vi t13.2, .agg #[vi 0, vi 0, vu 0, vu 0, vu 0, vu 0], Z, Z, Z, Z, Z, Z, Z, Z, Z, Z, Z, Z, Z, Z, Z, Z, Z, Z, Z, Z, Z, Z, Z, Z], []⟩ w27 (fun K => by kernel_rfl) ?_
    refine WPI.done rfl ?_
    refine then_n ?_
    obtain ⟨K43, hK43, h⟩ := jn_some h
    refine WP.seqJ (fun a w => ∃ (x29 : TNode) (x30 : Int) (g31 : Value) (g32 : Value) (g33 : Value) (g34 : Value) (g35 : Value) (g36 : Value) (g37 : Value) (g38 : Value) (g39 : Value) (g40 : Value) (g41 : Value) (g42 : Value), a = ⟨#[.agg #[s1, s3], vp b5 0, vb false, vp b17 0, vi t13.2, vi x30, vp b23 0, .agg #[s1, s3], vb false, .tuple #[TNode.val t13.1, vi t13.2], vp b5 0, s1, .tuple #[TNode.val t13.1, vi t13.2], TNode.val t13.1, vi t13.2, .agg #[vi 0, vi 0, vu 0, vu 0, vu 0, vu 0], g31, g32, g33, g34, g35, g36, g37, g38, g39, g40, g41, g42, Z, Z, Z, Z, Z, Z, Z, Z, Z, Z, Z, Z], []⟩ ∧ St no w0 w [Box b23 (TNode.cs x29).toArray 33, Box b17 (TNode.cs t13.1).toArray 33, Box b5 #[s1, s3] 25] ∧ K43 x29 x30 = some r) ?_ ?_
    · skip
      refine WP.seq ?_
      refine WP.region ?_
      refine WPI.run 1 ⟨#[.agg #[s1, s3], vp b5 0, vb false, vp b17 0, vi t13.2, vi 1, vp b23 0, .agg #[s1, s3], vb false, .tuple #[TNode.val t13.1, vi t13.2], vp b5 0, s1, .tuple #[TNode.val t13.1, vi t13.2], TNode.val t13.1, vi t13.2, .agg #[vi 0, vi 0, vu 0, vu 0, vu 0, vu 0], vp b5 0, Z, Z, Z, Z, Z, Z, Z, Z, Z, Z, Z, Z, Z, Z, Z, Z, Z, Z, Z, Z, Z, Z, Z], []⟩ w27 (fun K => by kernel_rfl) ?_
      refine WPI.value (v := s1) rfl (by kernel_rfl) (ev_loadBox H28 2 rfl 22 (.tmp 16) 0 (s1) rfl (by kernel_rfl) (by kernel_rfl)) ?_
      obtain ⟨t44, ht44, h⟩ := bd_some h
      refine WPI.run 0 ⟨#[.agg #[s1, s3], vp b5 0, vb false, vp b17 0, vi t13.2, vi 1, vp b23 0, .agg #[s1, s3], vb false, .tuple #[TNode.val t13.1, vi t13.2], vp b5 0, s1, .tuple #[TNode.val t13.1, vi t13.2], TNode.val t13.1, vi t13.2, .agg #[vi 0, vi 0, vu 0, vu 0, vu 0, vu 0], vp b5 0, s1, Z, Z, Z, Z, Z, Z, Z, Z, Z, Z, Z, Z, Z, Z, Z, Z, Z, Z, Z, Z, Z, Z], []⟩ w27 (fun K => by kernel_rfl) ?_
      refine WPI.op rfl (Op1.call (by kernel_rfl) (by kernel_rfl) (g_tarnref12_Heap_w fuel s1 l2 t44 ht44 _ (Rd.arg0 hs1 H28)) ?_)
      rintro _ w45 ⟨rfl, Hc46⟩
      have H47 := St.call0' H28 Hc46
      clear H28 Hc46
      refine WPI.run 0 ⟨#[.agg #[s1, s3], vp b5 0, vb false, vp b17 0, vi t13.2, vi 1, vp b23 0, .agg #[s1, s3], vb false, .tuple #[TNode.val t13.1, vi t13.2], vp b5 0, s1, .tuple #[TNode.val t13.1, vi t13.2], TNode.val t13.1, vi t13.2, .agg #[vi 0, vi 0, vu 0, vu 0, vu 0, vu 0], vp b5 0, s1, vb t44, Z, Z, Z, Z, Z, Z, Z, Z, Z, Z, Z, Z, Z, Z, Z, Z, Z, Z, Z, Z, Z], []⟩ w45 (fun K => by kernel_rfl) ?_
      refine WPI.done rfl ?_
      refine then_n ?_
      cases t44 with
      | false =>
        replace h := br_f h
        refine WP.condF (by kernel_rfl) ?_
        refine WP.skip ?_
        exact then_n ⟨(TNode.mk 0 (TRank.mk 0 (TU256.mk 0 0 0 0))), 1, _, _, _, _, _, _, _, _, _, _, _, _, rfl, St.sel H47 [0, 1, 2] (by decide) rfl, h⟩
      | true =>
        replace h := br_t h
        refine WP.condT (by kernel_rfl) ?_
        refine WP.seq ?_
        refine WP.region ?_
        refine WPI.run 1 ⟨#[.agg #[s1, s3], vp b5 0, vb false, vp b17 0, vi t13.2, vi 3, vp b23 0, .agg #[s1, s3], vb false, .tuple #[TNode.val t13.1, vi t13.2], vp b5 0, s1, .tuple #[TNode.val t13.1, vi t13.2], TNode.val t13.1, vi t13.2, .agg #[vi 0, vi 0, vu 0, vu 0, vu 0, vu 0], vp b5 0, s1, vb true, Z, Z, Z, Z, Z, Z, Z, Z, Z, Z, Z, Z, Z, Z, Z, Z, Z, Z, Z, Z, Z], []⟩ w45 (fun K => by kernel_rfl) ?_
        refine WPI.done rfl ?_
        refine then_n ?_
        refine WP.seq ?_
        refine WP.region ?_
        refine WPI.run 1 ⟨#[.agg #[s1, s3], vp b5 0, vb false, vp b17 0, vi t13.2, vi 3, vp b23 0, .agg #[s1, s3], vb false, .tuple #[TNode.val t13.1, vi t13.2], vp b5 0, s1, .tuple #[TNode.val t13.1, vi t13.2], TNode.val t13.1, vi t13.2, .agg #[vi 0, vi 0, vu 0, vu 0, vu 0, vu 0], vp b5 0, s1, vb true, vp b5 0, Z, Z, Z, Z, Z, Z, Z, Z, Z, Z, Z, Z, Z, Z, Z, Z, Z, Z, Z, Z], []⟩ w45 (fun K => by kernel_rfl) ?_
        refine WPI.value (v := s1) rfl (by kernel_rfl) (ev_loadBox H47 2 rfl 22 (.tmp 19) 0 (s1) rfl (by kernel_rfl) (by kernel_rfl)) ?_
        refine WPI.run 0 ⟨#[.agg #[s1, s3], vp b5 0, vb false, vp b17 0, vi t13.2, vi 3, vp b23 0, .agg #[s1, s3], vb false, .tuple #[TNode.val t13.1, vi t13.2], vp b5 0, s1, .tuple #[TNode.val t13.1, vi t13.2], TNode.val t13.1, vi t13.2, .agg #[vi 0, vi 0, vu 0, vu 0, vu 0, vu 0], vp b5 0, s1, vb true, vp b5 0, s1, Z, Z, Z, Z, Z, Z, Z, Z, Z, Z, Z, Z, Z, Z, Z, Z, Z, Z, Z], []⟩ w45 (fun K => by kernel_rfl) ?_
        refine WPI.value (v := vi (((List.length l2 : Nat) : Int))) rfl (by kernel_rfl) (ev_len (Rd.sl hs1) 22 (.tmp 20) 33 6 48 rfl (by kernel_rfl) (by kernel_rfl)) ?_
        obtain ⟨c48, hc48, h⟩ := lt_some h
        refine WPI.run 1 ⟨#[.agg #[s1, s3], vp b5 0, vb false, vp b17 0, vi t13.2, vi 3, vp b23 0, .agg #[s1, s3], vb false, .tuple #[TNode.val t13.1, vi t13.2], vp b5 0, s1, .tuple #[TNode.val t13.1, vi t13.2], TNode.val t13.1, vi t13.2, .agg #[vi 0, vi 0, vu 0, vu 0, vu 0, vu 0], vp b5 0, s1, vb true, vp b5 0, s1, vi (((List.length l2 : Nat) : Int)), vb c48, Z, Z, Z, Z, Z, Z, Z, Z, Z, Z, Z, Z, Z, Z, Z, Z, Z], []⟩ w45 (fun K => by subst hc48; kernel_rfl) ?_
        refine WPI.done rfl ?_
        refine then_n ?_
        cases c48 with
        | false =>
          replace h := br_f h
          refine WP.condF (by kernel_rfl) ?_
          refine WP.skip ?_
          exact then_n ⟨(TNode.mk 0 (TRank.mk 0 (TU256.mk 0 0 0 0))), 3, _, _, _, _, _, _, _, _, _, _, _, _, rfl, St.sel H47 [0, 1, 2] (by decide) rfl, h⟩
        | true =>
          replace h := br_t h
          refine WP.condT (by kernel_rfl) ?_
          obtain ⟨K55, hK55, h⟩ := jn_some h
          refine WP.draw (by kernel_rfl) (by kernel_rfl) (fun a w => ∃ (x49 : TNode) (g50 : Value) (g51 : Value) (g52 : Value) (g53 : Value) (g54 : Value), a = ⟨#[.agg #[s1, s3], vp b5 0, vb false, vp b17 0, vi t13.2, vi 0, vp b23 0, .agg #[s1, s3], vb false, .tuple #[TNode.val t13.1, vi t13.2], vp b5 0, s1, .tuple #[TNode.val t13.1, vi t13.2], TNode.val t13.1, vi t13.2, .agg #[vi 0, vi 0, vu 0, vu 0, vu 0, vu 0], vp b5 0, s1, vb true, vp b5 0, s1, vi (((List.length l2 : Nat) : Int)), vb true, g50, g51, g52, g53, g54, Z, Z, Z, Z, Z, Z, Z, Z, Z, Z, Z, Z], []⟩ ∧ St no w0 w [Box b23 (TNode.cs x49).toArray 33, Box b17 (TNode.cs t13.1).toArray 33, Box b5 #[s1, s3] 25] ∧ K55 x49 = some r) 7 #[false, false, false, false, false, false, false] (by kernel_rfl) (by kernel_rfl) ?_ ?_
          · skip
            have H56 := St.drew H47
            obtain ⟨t57, ht57, h⟩ := bd_some h
            obtain ⟨hg61, h⟩ := gd_some h
            obtain ⟨x62, hx62, h⟩ := bd_some h
            refine WA.take 0 (v := vp b5 0) rfl (by kernel_rfl) (by kernel_rfl) (fun w => by kernel_rfl) (fun w => by kernel_rfl) (l' := #[true, false, false, false, false, false, false]) (by kernel_rfl) ?_
            refine WA.any [1] (by kernel_rfl) (by simp) ?_
            simp only [List.mem_singleton, forall_eq]
            refine WO.op rfl (Op1.val (v := s1) (by kernel_rfl) (ev_loadBox H56 2 rfl 22 (.tmp 23) 0 (s1) rfl (by kernel_rfl) (by kernel_rfl)) ?_)
            refine WA.lst (l := #[true, true, false, false, false, false, false]) (by kernel_rfl) ?_
            refine WA.any [2] (by kernel_rfl) (by simp) ?_
            simp only [List.mem_singleton, forall_eq]
            refine WO.op rfl (Op1.call (by kernel_rfl) (by kernel_rfl) (g_tarnref12_Order_w fuel s1 l2 t57 ht57 _ (Rd.arg0 hs1 H56)) ?_)
            rintro s58 w63 ⟨_, rfl, Hc64⟩
            have H65 := St.call0 H56 Hc64
            clear H56 Hc64
            have sf60 := Own.isSl (St.get H65 0 rfl)
            refine WA.lst (l := #[true, true, true, false, false, false, false]) (by kernel_rfl) ?_
            refine WA.take 3 (v := va (slAt s58 6 (Int.toNat 0))) rfl (by kernel_rfl) (by kernel_rfl) (fun w => ev_index sf60 22 (.tmp 25) (.const (vi 0)) 33 6 48 .i64 0 rfl (by kernel_rfl) (by kernel_rfl) (by kernel_rfl) hg61) (fun w => by kernel_rfl) (l' := #[true, true, true, true, false, false, false]) (by kernel_rfl) ?_
            refine WA.take 5 (v := vi 0) rfl (by kernel_rfl) (by kernel_rfl) (fun w => by kernel_rfl) (fun w => by kernel_rfl) (l' := #[true, true, true, true, false, true, false]) (by kernel_rfl) ?_
            refine WA.any [4] (by kernel_rfl) (by simp) ?_
            simp only [List.mem_singleton, forall_eq]
            refine WO.op rfl (Op1.val (v := TNode.val x62) (by kernel_rfl) (ev_loadEl (F := fTNode) (St.rd H65 0 rfl) (hp_no_le _) hx62 33 (.tmp 26) 0 (TNode.val x62) rfl (by kernel_rfl) (by kernel_rfl)) ?_)
            refine WA.lst (l := #[true, true, true, true, true, true, false]) (by kernel_rfl) ?_
            refine WA.any [6] (by kernel_rfl) (by simp) ?_
            simp only [List.mem_singleton, forall_eq]
            refine WO.op rfl (Op1.storeBox H65 1 rfl (by kernel_rfl) 33 (.tmp 6) (.tmp 27) 0 (TNode.val x62) (TNode.cs x62).toArray true rfl (by kernel_rfl) (by kernel_rfl) (by kernel_rfl) (by kernel_rfl) (by kernel_rfl) (flat_one1 fTNode x62) (fun w66 H67 => ?_))
            clear H65
            refine WA.lst (l := #[true, true, true, true, true, true, true]) (by kernel_rfl) ?_
            refine WA.done (by kernel_rfl) ?_
            exact ⟨x62, (vp b5 0), s1, s58, (va (slAt s58 6 (Int.toNat 0))), (TNode.val x62), (by kernel_rfl), St.sel H67 [0, 2, 3] (by decide) rfl, h⟩
          · rintro a w ⟨x49, g50, g51, g52, g53, g54, rfl, H, h⟩
            subst hK55
            obtain ⟨w68, rfl⟩ : ∃ x, x = w := ⟨_, rfl⟩
            have H69 := H; clear H
            exact then_n ⟨x49, 0, _, _, _, _, _, _, _, _, _, _, _, _, rfl, St.sel H69 [0, 1, 2] (by decide) rfl, h⟩
    · rintro a w ⟨x29, x30, g31, g32, g33, g34, g35, g36, g37, g38, g39, g40, g41, g42, rfl, H, h⟩
      subst hK43
      obtain ⟨w70, rfl⟩ : ∃ x, x = w := ⟨_, rfl⟩
      have H71 := H; clear H
      refine WP.seq ?_
      obtain ⟨K85, hK85, h⟩ := jn_some h
      refine WP.onlyN (fun a w => ∃ (c72 : Bool) (g73 : Value) (g74 : Value) (g75 : Value) (g76 : Value) (g77 : Value) (g78 : Value) (g79 : Value) (g80 : Value) (g81 : Value) (g82 : Value) (g83 : Value) (g84 : Value), a = ⟨#[.agg #[s1, s3], vp b5 0, vb c72, vp b17 0, vi t13.2, vi x30, vp b23 0, .agg #[s1, s3], vb false, .tuple #[TNode.val t13.1, vi t13.2], vp b5 0, s1, .tuple #[TNode.val t13.1, vi t13.2], TNode.val t13.1, vi t13.2, .agg #[vi 0, vi 0, vu 0, vu 0, vu 0, vu 0], g31, g32, g33, g34, g35, g36, g37, g38, g39, g40, g41, g42, g73, g74, g75, g76, g77, g78, g79, g80, g81, g82, g83, g84], []⟩ ∧ St no w0 w [Box b23 (TNode.cs x29).toArray 33, Box b17 (TNode.cs t13.1).toArray 33, Box b5 #[s1, s3] 25] ∧ K85 c72 = some r) ?_ ?_
      · skip
        refine WP.region ?_
        obtain ⟨t86, ht86, h⟩ := bd_some h
        refine WPI.run 1 ⟨#[.agg #[s1, s3], vp b5 0, vb false, vp b17 0, vi t13.2, vi x30, vp b23 0, .agg #[s1, s3], vb false, .tuple #[TNode.val t13.1, vi t13.2], vp b5 0, s1, .tuple #[TNode.val t13.1, vi t13.2], TNode.val t13.1, vi t13.2, .agg #[vi 0, vi 0, vu 0, vu 0, vu 0, vu 0], g31, g32, g33, g34, g35, g36, g37, g38, g39, g40, g41, g42, vi t13.2, Z, Z, Z, Z, Z, Z, Z, Z, Z, Z, Z], []⟩ w70 (fun K => by kernel_rfl) ?_
        refine WPI.op rfl (Op1.call (by kernel_rfl) (by kernel_rfl) (g_tarnlaw13_num_w fuel t13.2 t86 ht86 _) ?_)
        rintro _ w87 ⟨rfl, Hc88⟩
        have H89 := St.call0' H71 Hc88
        clear H71 Hc88
        obtain ⟨c90, hc90, h⟩ := lt_some h
        refine WPI.run 3 ⟨#[.agg #[s1, s3], vp b5 0, vb false, vp b17 0, vi t13.2, vi x30, vp b23 0, .agg #[s1, s3], vb false, .tuple #[TNode.val t13.1, vi t13.2], vp b5 0, s1, .tuple #[TNode.val t13.1, vi t13.2], TNode.val t13.1, vi t13.2, .agg #[vi 0, vi 0, vu 0, vu 0, vu 0, vu 0], g31, g32, g33, g34, g35, g36, g37, g38, g39, g40, g41, g42, vi t13.2, vi t86, vi x30, vb c90, vb c90, Z, Z, Z, Z, Z, Z, Z], []⟩ w87 (fun K => by subst hc90; kernel_rfl) ?_
        cases c90 with
        | false =>
          replace h := br_f h
          refine WPI.run 8 ⟨#[.agg #[s1, s3], vp b5 0, vb false, vp b17 0, vi t13.2, vi x30, vp b23 0, .agg #[s1, s3], vb false, .tuple #[TNode.val t13.1, vi t13.2], vp b5 0, s1, .tuple #[TNode.val t13.1, vi t13.2], TNode.val t13.1, vi t13.2, .agg #[vi 0, vi 0, vu 0, vu 0, vu 0, vu 0], g31, g32, g33, g34, g35, g36, g37, g38, g39, g40, g41, g42, vi t13.2, vi t86, vi x30, vb false, vb false, Z, Z, Z, vb false, vb false, Z, vb false], []⟩ w87 (fun K => by kernel_rfl) ?_
          refine WPI.done rfl ?_
          exact ⟨false, _, _, _, _, _, _, _, _, _, _, _, _, rfl, St.sel H89 [0, 1, 2] (by decide) rfl, h⟩
        | true =>
          replace h := br_t h
          refine WPI.value (v := TNode.val t13.1) rfl (by kernel_rfl) (ev_loadBox H89 1 rfl 33 (.tmp 3) 0 (TNode.val t13.1) rfl (by kernel_rfl) (by kernel_rfl)) ?_
          refine WPI.run 0 ⟨#[.agg #[s1, s3], vp b5 0, vb false, vp b17 0, vi t13.2, vi x30, vp b23 0, .agg #[s1, s3], vb false, .tuple #[TNode.val t13.1, vi t13.2], vp b5 0, s1, .tuple #[TNode.val t13.1, vi t13.2], TNode.val t13.1, vi t13.2, .agg #[vi 0, vi 0, vu 0, vu 0, vu 0, vu 0], g31, g32, g33, g34, g35, g36, g37, g38, g39, g40, g41, g42, vi t13.2, vi t86, vi x30, vb true, vb true, TNode.val t13.1, Z, Z, Z, Z, Z, Z], []⟩ w87 (fun K => by kernel_rfl) ?_
          refine WPI.value (v := TNode.val x29) rfl (by kernel_rfl) (ev_loadBox H89 0 rfl 33 (.tmp 6) 0 (TNode.val x29) rfl (by kernel_rfl) (by kernel_rfl)) ?_
          obtain ⟨c91, hc91, h⟩ := lt_some h
          refine WPI.run 0 ⟨#[.agg #[s1, s3], vp b5 0, vb false, vp b17 0, vi t13.2, vi x30, vp b23 0, .agg #[s1, s3], vb false, .tuple #[TNode.val t13.1, vi t13.2], vp b5 0, s1, .tuple #[TNode.val t13.1, vi t13.2], TNode.val t13.1, vi t13.2, .agg #[vi 0, vi 0, vu 0, vu 0, vu 0, vu 0], g31, g32, g33, g34, g35, g36, g37, g38, g39, g40, g41, g42, vi t13.2, vi t86, vi x30, vb true, vb true, TNode.val t13.1, TNode.val x29, Z, Z, Z, Z, Z], []⟩ w87 (fun K => by kernel_rfl) ?_
          refine WPI.value (v := vb c91) rfl (by kernel_rfl) (by subst hc91; exact ev_eqlS (F := fTNode) 33 33 (.tmp 33) (.tmp 34) t13.1 x29 eqok_33 rfl (TNode.cs t13.1).toArray (TNode.cs x29).toArray rfl rfl (by kernel_rfl) (by kernel_rfl) (by kernel_rfl)) ?_
          refine WPI.run 2 ⟨#[.agg #[s1, s3], vp b5 0, vb false, vp b17 0, vi t13.2, vi x30, vp b23 0, .agg #[s1, s3], vb false, .tuple #[TNode.val t13.1, vi t13.2], vp b5 0, s1, .tuple #[TNode.val t13.1, vi t13.2], TNode.val t13.1, vi t13.2, .agg #[vi 0, vi 0, vu 0, vu 0, vu 0, vu 0], g31, g32, g33, g34, g35, g36, g37, g38, g39, g40, g41, g42, vi t13.2, vi t86, vi x30, vb true, vb true, TNode.val t13.1, TNode.val x29, vb c91, vb c91, vb c91, Z, Z], []⟩ w87 (fun K => by kernel_rfl) ?_
          cases c91 with
          | false =>
            replace h := br_f h
            refine WPI.run 3 ⟨#[.agg #[s1, s3], vp b5 0, vb false, vp b17 0, vi t13.2, vi x30, vp b23 0, .agg #[s1, s3], vb false, .tuple #[TNode.val t13.1, vi t13.2], vp b5 0, s1, .tuple #[TNode.val t13.1, vi t13.2], TNode.val t13.1, vi t13.2, .agg #[vi 0, vi 0, vu 0, vu 0, vu 0, vu 0], g31, g32, g33, g34, g35, g36, g37, g38, g39, g40, g41, g42, vi t13.2, vi t86, vi x30, vb true, vb true, TNode.val t13.1, TNode.val x29, vb false, vb false, vb false, Z, vb false], []⟩ w87 (fun K => by kernel_rfl) ?_
            refine WPI.done rfl ?_
            exact ⟨false, _, _, _, _, _, _, _, _, _, _, _, _, rfl, St.sel H89 [0, 1, 2] (by decide) rfl, h⟩
          | true =>
            replace h := br_t h
            obtain ⟨t92, ht92, h⟩ := bd_some h
            refine WPI.op rfl (Op1.call (by kernel_rfl) (by kernel_rfl) (g_tarnlaw13_wakes_w fuel t92 ht92 _) ?_)
            rintro _ w93 ⟨rfl, Hc94⟩
            have H95 := St.call0' H89 Hc94
            clear H89 Hc94
            refine WPI.run 2 ⟨#[.agg #[s1, s3], vp b5 0, vb t92, vp b17 0, vi t13.2, vi x30, vp b23 0, .agg #[s1, s3], vb false, .tuple #[TNode.val t13.1, vi t13.2], vp b5 0, s1, .tuple #[TNode.val t13.1, vi t13.2], TNode.val t13.1, vi t13.2, .agg #[vi 0, vi 0, vu 0, vu 0, vu 0, vu 0], g31, g32, g33, g34, g35, g36, g37, g38, g39, g40, g41, g42, vi t13.2, vi t86, vi x30, vb true, vb true, TNode.val t13.1, TNode.val x29, vb true, vb true, vb true, vb t92, vb t92], []⟩ w93 (fun K => by kernel_rfl) ?_
            refine WPI.done rfl ?_
            exact ⟨t92, _, _, _, _, _, _, _, _, _, _, _, _, rfl, St.sel H95 [0, 1, 2] (by decide) rfl, h⟩
      · rintro a w ⟨c72, g73, g74, g75, g76, g77, g78, g79, g80, g81, g82, g83, g84, rfl, H, h⟩
        subst hK85
        obtain ⟨w96, rfl⟩ : ∃ x, x = w := ⟨_, rfl⟩
        have H97 := H; clear H
        refine then_n ?_
        refine WP.ret ?_
        obtain rfl := Option.some.inj h
        exact post_r (vb c72) rfl (by kernel_rfl) ⟨rfl, St.sel H97 [] (by decide) rfl⟩
  | true =>
    replace h := br_t h
    refine WP.condT (by kernel_rfl) ?_
    refine WP.seq ?_
    refine WP.region ?_
    refine WPI.run 1 ⟨#[.agg #[s1, s3], vp b5 0, vb true, Z, Z, Z, Z, .agg #[s1, s3], vb true, Z, Z, Z, Z, Z, Z, Z, Z, Z, Z, Z, Z, Z, Z, Z, Z, Z, Z, Z, Z, Z, Z, Z, Z, Z, Z, Z, Z, Z, Z, Z], []⟩ w10 (fun K => by kernel_rfl) ?_
    refine WPI.done rfl ?_
    refine then_n ?_
    refine WP.ret ?_
    obtain rfl := Option.some.inj h
    exact then_r (post_r (vb true) rfl (by kernel_rfl) ⟨rfl, St.sel H12 [] (by decide) rfl⟩)
end Go.Proofs
