import Derived.Test.YtjcagpcpbfmldaaGw
import Derived.Test.YtjcagpcpbfmldaaProg
import Derived.Test.YtjcagpcpbfmldaaT
import Derived.Test.YtjcagpcpbfmldaaW1
import Derived.Test.YtjcagpcpbfmldaaW2
set_option linter.unusedVariables false
set_option linter.unusedSimpArgs false
set_option maxRecDepth 100000
set_option maxHeartbeats 4000000
namespace Go.Proofs
open Gw Go.RowKit
/- tarn/tarnref12.sinks -/
def g_tarnref12_sinks_l1 (fuel : Nat) : Nat → (List TNode) → Int → Option (List TNode)
  | 0, _, _ => none
  | n + 1, l6, x7 => jn (fun (l63 : List TNode) (x64 : Int) => g_tarnref12_sinks_l1 fuel n l63 x64) fun K117 => lt (wr .i64 (2 * x7)) fun x118 => lt (wr .i64 (x118 + 1)) fun x119 => lt (decide (x119 ≥ (((List.length l6 : Nat) : Int)))) fun c120 => br c120 (some l6) (jn (fun (x121 : Int) => gd ((0 : Int) ≤ x121 ∧ x121 < ((List.length l6 : Nat) : Int)) <| bd (l6[Int.toNat x121]?) fun x180 => gd ((0 : Int) ≤ x7 ∧ x7 < ((List.length l6 : Nat) : Int)) <| bd (l6[Int.toNat x7]?) fun x182 => bd (g_tarnref12_Below fuel x180 x182) fun t183 => lt (!t183) fun c184 => br c184 (some l6) (jn (fun (l187 : List TNode) => K117 l187 x121) fun K202 => gd ((0 : Int) ≤ x121 ∧ x121 < ((List.length l6 : Nat) : Int)) <| bd (l6[Int.toNat x121]?) fun x205 => gd ((0 : Int) ≤ x7 ∧ x7 < ((List.length l6 : Nat) : Int)) <| bd (l6[Int.toNat x7]?) fun x207 => gd ((0 : Int) ≤ x7 ∧ x7 < ((List.length l6 : Nat) : Int)) <| lt (List.set l6 (Int.toNat x7) x205) fun l209 => gd ((0 : Int) ≤ x121 ∧ x121 < ((List.length l6 : Nat) : Int)) <| lt (List.set l209 (Int.toNat x121) x207) fun l211 => K202 l211)) fun K141 => jn (fun (c158 : Bool) => br c158 (lt (wr .i64 (x119 + 1)) fun x175 => K141 x175) (K141 x119)) fun K159 => lt (wr .i64 (x119 + 1)) fun x160 => lt (decide (x160 < (((List.length l6 : Nat) : Int)))) fun c161 => br c161 (lt (wr .i64 (x119 + 1)) fun x164 => gd ((0 : Int) ≤ x164 ∧ x164 < ((List.length l6 : Nat) : Int)) <| bd (l6[Int.toNat x164]?) fun x166 => gd ((0 : Int) ≤ x119 ∧ x119 < ((List.length l6 : Nat) : Int)) <| bd (l6[Int.toNat x119]?) fun x168 => bd (g_tarnref12_Below fuel x166 x168) fun t169 => K159 t169) (K159 false))
def g_tarnref12_sinks (fuel : Nat) (l2 : List TNode) (p4 : Int) : Option (List TNode) :=
  g_tarnref12_sinks_l1 fuel fuel l2 p4
theorem g_tarnref12_sinks_w (fuel : Nat) (s1 : Value) (l2 : List TNode) (p4 : Int) (r : List TNode) (h : g_tarnref12_sinks fuel l2 p4 = some r) (w0 : World) (hm : (Own fTNode 33 s1 l2).holds w0) :
    Ret Try.prog 55 #[s1, vi p4] w0 (fun v w' => v = .tuple #[] ∧ St (Own fTNode 33 s1 l2).fp w0 w' [Own fTNode 33 s1 r]) := by
  unfold g_tarnref12_sinks at h
  refine ret_of_wp Try.func55 rfl #[s1, vi p4, Z, Z, Z, Z, Z, Z, Z, Z, Z, Z, Z, Z, Z, Z, Z, Z, Z, Z, Z, Z, Z, Z, Z, Z, Z, Z, Z, Z, Z, Z, Z, Z, Z, Z, Z, Z, Z, Z, Z, Z, Z, Z, Z, Z, Z, Z, Z, Z, Z, Z, Z, Z, Z, Z] (by kernel_rfl) ?_
  have H0 := St.start1 hm
  have sf5 := Own.isSl (St.get H0 0 rfl)
  refine WP.block ?_
  refine WP.loop (fun n a w => ∃ (l6 : List TNode) (x7 : Int) (g8 : Value) (g9 : Value) (g10 : Value) (g11 : Value) (g12 : Value) (g13 : Value) (g14 : Value) (g15 : Value) (g16 : Value) (g17 : Value) (g18 : Value) (g19 : Value) (g20 : Value) (g21 : Value) (g22 : Value) (g23 : Value) (g24 : Value) (g25 : Value) (g26 : Value) (g27 : Value) (g28 : Value) (g29 : Value) (g30 : Value) (g31 : Value) (g32 : Value) (g33 : Value) (g34 : Value) (g35 : Value) (g36 : Value) (g37 : Value) (g38 : Value) (g39 : Value) (g40 : Value) (g41 : Value) (g42 : Value) (g43 : Value) (g44 : Value) (g45 : Value) (g46 : Value) (g47 : Value) (g48 : Value) (g49 : Value) (g50 : Value) (g51 : Value) (g52 : Value) (g53 : Value) (g54 : Value) (g55 : Value) (g56 : Value) (g57 : Value) (g58 : Value) (g59 : Value), a = ⟨#[s1, vi x7, Z, Z, g8, g9, g10, g11, g12, g13, g14, g15, g16, g17, g18, g19, g20, g21, g22, g23, g24, g25, g26, g27, g28, g29, g30, g31, g32, g33, g34, g35, g36, g37, g38, g39, g40, g41, g42, g43, g44, g45, g46, g47, g48, g49, g50, g51, g52, g53, g54, g55, g56, g57, g58, g59], []⟩ ∧ St (Own fTNode 33 s1 l2).fp w0 w [Own fTNode 33 s1 l6] ∧ g_tarnref12_sinks_l1 fuel n l6 x7 = some r) fuel ⟨l2, p4, _, _, _, _, _, _, _, _, _, _, _, _, _, _, _, _, _, _, _, _, _, _, _, _, _, _, _, _, _, _, _, _, _, _, _, _, _, _, _, _, _, _, _, _, _, _, _, _, _, _, _, _, rfl, St.sel H0 [0] (by decide) rfl, h⟩ ?_
  rintro n a w ⟨l6, x7, g8, g9, g10, g11, g12, g13, g14, g15, g16, g17, g18, g19, g20, g21, g22, g23, g24, g25, g26, g27, g28, g29, g30, g31, g32, g33, g34, g35, g36, g37, g38, g39, g40, g41, g42, g43, g44, g45, g46, g47, g48, g49, g50, g51, g52, g53, g54, g55, g56, g57, g58, g59, rfl, H, h⟩
  cases n with
  | zero => rw [g_tarnref12_sinks_l1] at h; cases h
  | succ n =>
    rw [g_tarnref12_sinks_l1] at h
    obtain ⟨w60, rfl⟩ : ∃ x, x = w := ⟨_, rfl⟩
    have H61 := H; clear H
    have sf62 := Own.isSl (St.get H61 0 rfl)
    obtain ⟨K117, hK117, h⟩ := jn_some h
    refine WP.blockJ (fun a w => ∃ (l63 : List TNode) (x64 : Int) (g65 : Value) (g66 : Value) (g67 : Value) (g68 : Value) (g69 : Value) (g70 : Value) (g71 : Value) (g72 : Value) (g73 : Value) (g74 : Value) (g75 : Value) (g76 : Value) (g77 : Value) (g78 : Value) (g79 : Value) (g80 : Value) (g81 : Value) (g82 : Value) (g83 : Value) (g84 : Value) (g85 : Value) (g86 : Value) (g87 : Value) (g88 : Value) (g89 : Value) (g90 : Value) (g91 : Value) (g92 : Value) (g93 : Value) (g94 : Value) (g95 : Value) (g96 : Value) (g97 : Value) (g98 : Value) (g99 : Value) (g100 : Value) (g101 : Value) (g102 : Value) (g103 : Value) (g104 : Value) (g105 : Value) (g106 : Value) (g107 : Value) (g108 : Value) (g109 : Value) (g110 : Value) (g111 : Value) (g112 : Value) (g113 : Value) (g114 : Value) (g115 : Value) (g116 : Value), a = ⟨#[s1, vi x64, Z, Z, g65, g66, g67, g68, g69, g70, g71, g72, g73, g74, g75, g76, g77, g78, g79, g80, g81, g82, g83, g84, g85, g86, g87, g88, g89, g90, g91, g92, g93, g94, g95, g96, g97, g98, g99, g100, g101, g102, g103, g104, g105, g106, g107, g108, g109, g110, g111, g112, g113, g114, g115, g116], []⟩ ∧ St (Own fTNode 33 s1 l2).fp w0 w [Own fTNode 33 s1 l63] ∧ K117 l63 x64 = some r) ?_ ?_
    · skip
      refine WP.seq ?_
      refine WP.region ?_
      obtain ⟨x118, hx118, h⟩ := lt_some h
      obtain ⟨x119, hx119, h⟩ := lt_some h
      refine WPI.run 4 ⟨#[s1, vi x7, Z, Z, vi x119, vi x7, vi x118, vi x119, g12, g13, g14, g15, g16, g17, g18, g19, g20, g21, g22, g23, g24, g25, g26, g27, g28, g29, g30, g31, g32, g33, g34, g35, g36, g37, g38, g39, g40, g41, g42, g43, g44, g45, g46, g47, g48, g49, g50, g51, g52, g53, g54, g55, g56, g57, g58, g59], []⟩ w60 (fun K => by subst hx119 hx118; kernel_rfl) ?_
      refine WPI.done rfl ?_
      refine then_n ?_
      refine WP.seq ?_
      refine WP.seq ?_
      refine WP.region ?_
      refine WPI.run 2 ⟨#[s1, vi x7, Z, Z, vi x119, vi x7, vi x118, vi x119, vi x119, s1, g14, g15, g16, g17, g18, g19, g20, g21, g22, g23, g24, g25, g26, g27, g28, g29, g30, g31, g32, g33, g34, g35, g36, g37, g38, g39, g40, g41, g42, g43, g44, g45, g46, g47, g48, g49, g50, g51, g52, g53, g54, g55, g56, g57, g58, g59], []⟩ w60 (fun K => by kernel_rfl) ?_
      refine WPI.value (v := vi (((List.length l6 : Nat) : Int))) rfl (by kernel_rfl) (ev_len sf62 22 (.tmp 9) 33 6 48 rfl (by kernel_rfl) (by kernel_rfl)) ?_
      obtain ⟨c120, hc120, h⟩ := lt_some h
      refine WPI.run 1 ⟨#[s1, vi x7, Z, Z, vi x119, vi x7, vi x118, vi x119, vi x119, s1, vi (((List.length l6 : Nat) : Int)), vb c120, g16, g17, g18, g19, g20, g21, g22, g23, g24, g25, g26, g27, g28, g29, g30, g31, g32, g33, g34, g35, g36, g37, g38, g39, g40, g41, g42, g43, g44, g45, g46, g47, g48, g49, g50, g51, g52, g53, g54, g55, g56, g57, g58, g59], []⟩ w60 (fun K => by subst hc120; kernel_rfl) ?_
      refine WPI.done rfl ?_
      refine then_n ?_
      cases c120 with
      | false =>
        replace h := br_f h
        refine WP.condF (by kernel_rfl) ?_
        refine WP.skip ?_
        refine then_n ?_
        obtain ⟨K141, hK141, h⟩ := jn_some h
        refine WP.seqJ (fun a w => ∃ (x121 : Int) (g122 : Value) (g123 : Value) (g124 : Value) (g125 : Value) (g126 : Value) (g127 : Value) (g128 : Value) (g129 : Value) (g130 : Value) (g131 : Value) (g132 : Value) (g133 : Value) (g134 : Value) (g135 : Value) (g136 : Value) (g137 : Value) (g138 : Value) (g139 : Value) (g140 : Value), a = ⟨#[s1, vi x7, Z, Z, vi x121, vi x7, vi x118, vi x119, vi x119, s1, vi (((List.length l6 : Nat) : Int)), vb false, g122, g123, g124, g125, g126, g127, g128, g129, g130, g131, g132, g133, g134, g135, g136, g137, g138, g139, g140, g35, g36, g37, g38, g39, g40, g41, g42, g43, g44, g45, g46, g47, g48, g49, g50, g51, g52, g53, g54, g55, g56, g57, g58, g59], []⟩ ∧ St (Own fTNode 33 s1 l2).fp w0 w [Own fTNode 33 s1 l6] ∧ K141 x121 = some r) ?_ ?_
        · skip
          refine WP.seq ?_
          obtain ⟨K159, hK159, h⟩ := jn_some h
          refine WP.onlyN (fun a w => ∃ (c158 : Bool) (g142 : Value) (g143 : Value) (g144 : Value) (g145 : Value) (g146 : Value) (g147 : Value) (g148 : Value) (g149 : Value) (g150 : Value) (g151 : Value) (g152 : Value) (g153 : Value) (g154 : Value) (g155 : Value) (g156 : Value) (g157 : Value), a = ⟨#[s1, vi x7, Z, Z, vi x119, vi x7, vi x118, vi x119, vi x119, s1, vi (((List.length l6 : Nat) : Int)), vb false, g142, g143, g144, g145, g146, g147, g148, g149, g150, g151, g152, g153, g154, g155, g156, g157, vb c158, g33, g34, g35, g36, g37, g38, g39, g40, g41, g42, g43, g44, g45, g46, g47, g48, g49, g50, g51, g52, g53, g54, g55, g56, g57, g58, g59], []⟩ ∧ St (Own fTNode 33 s1 l2).fp w0 w [Own fTNode 33 s1 l6] ∧ K159 c158 = some r) ?_ ?_
          · skip
            refine WP.quiet (by kernel_rfl) (by kernel_rfl) (by kernel_rfl) (fun w => St (Own fTNode 33 s1 l2).fp w0 w [Own fTNode 33 s1 l6]) (St.drew H61) ?_
            refine WQ.value (v := vi x119) rfl (by kernel_rfl) (fun w _ => by kernel_rfl) ?_
            obtain ⟨x160, hx160, h⟩ := lt_some h
            refine WQ.value (v := vi x160) rfl (by kernel_rfl) (fun w _ => by subst hx160; kernel_rfl) ?_
            refine WQ.value (v := s1) rfl (by kernel_rfl) (fun w _ => by kernel_rfl) ?_
            refine WQ.value (v := vi (((List.length l6 : Nat) : Int))) rfl (by kernel_rfl) (fun w H => ev_len sf62 22 (.tmp 14) 33 6 48 rfl (by kernel_rfl) (by kernel_rfl)) ?_
            obtain ⟨c161, hc161, h⟩ := lt_some h
            refine WQ.value (v := vb c161) rfl (by kernel_rfl) (fun w _ => by subst hc161; kernel_rfl) ?_
            refine WQ.value (v := vb c161) rfl (by kernel_rfl) (fun w _ => by kernel_rfl) ?_
            cases c161 with
            | false =>
              replace h := br_f h
              refine WQ.off rfl (by kernel_rfl) ?_
              refine WQ.off rfl (by kernel_rfl) ?_
              refine WQ.off rfl (by kernel_rfl) ?_
              refine WQ.off rfl (by kernel_rfl) ?_
              refine WQ.off rfl (by kernel_rfl) ?_
              refine WQ.off rfl (by kernel_rfl) ?_
              refine WQ.off rfl (by kernel_rfl) ?_
              refine WQ.off rfl (by kernel_rfl) ?_
              refine WQ.off rfl (by kernel_rfl) ?_
              refine WQ.off rfl (by kernel_rfl) ?_
              refine WQ.value (v := vb false) rfl (by kernel_rfl) (fun w _ => by kernel_rfl) ?_
              refine WQ.frame (a' := ⟨#[s1, vi x7, Z, Z, vi x119, vi x7, vi x118, vi x119, vi x119, s1, vi (((List.length l6 : Nat) : Int)), vb false, vi x119, vi x160, s1, vi (((List.length l6 : Nat) : Int)), vb false, vb false, Z, Z, Z, Z, Z, Z, Z, Z, Z, Z, vb false, g33, g34, g35, g36, g37, g38, g39, g40, g41, g42, g43, g44, g45, g46, g47, g48, g49, g50, g51, g52, g53, g54, g55, g56, g57, g58, g59], []⟩) (by kernel_rfl) ?_
              refine WQ.done rfl ?_
              refine (fun w162 H163 => ?_)
              exact ⟨false, _, _, _, _, _, _, _, _, _, _, _, _, _, _, _, _, rfl, St.sel H163 [0] (by decide) rfl, h⟩
            | true =>
              replace h := br_t h
              refine WQ.value (v := s1) rfl (by kernel_rfl) (fun w _ => by kernel_rfl) ?_
              refine WQ.value (v := vi x119) rfl (by kernel_rfl) (fun w _ => by kernel_rfl) ?_
              obtain ⟨x164, hx164, h⟩ := lt_some h
              refine WQ.value (v := vi x164) rfl (by kernel_rfl) (fun w _ => by subst hx164; kernel_rfl) ?_
              obtain ⟨hg165, h⟩ := gd_some h
              refine WQ.value (v := va (slAt s1 6 (Int.toNat x164))) rfl (by kernel_rfl) (fun w H => ev_index sf62 22 (.tmp 18) (.tmp 20) 33 6 48 .i64 x164 rfl (by kernel_rfl) (by kernel_rfl) (by kernel_rfl) hg165) ?_
              obtain ⟨x166, hx166, h⟩ := bd_some h
              refine WQ.value (v := TNode.val x166) rfl (by kernel_rfl) (fun w H => ev_loadEl (F := fTNode) (St.rd H 0 rfl) (hp_no_le _) hx166 33 (.tmp 21) 0 (TNode.val x166) rfl (by kernel_rfl) (by kernel_rfl)) ?_
              refine WQ.value (v := s1) rfl (by kernel_rfl) (fun w _ => by kernel_rfl) ?_
              refine WQ.value (v := vi x119) rfl (by kernel_rfl) (fun w _ => by kernel_rfl) ?_
              obtain ⟨hg167, h⟩ := gd_some h
              refine WQ.value (v := va (slAt s1 6 (Int.toNat x119))) rfl (by kernel_rfl) (fun w H => ev_index sf62 22 (.tmp 23) (.tmp 24) 33 6 48 .i64 x119 rfl (by kernel_rfl) (by kernel_rfl) (by kernel_rfl) hg167) ?_
              obtain ⟨x168, hx168, h⟩ := bd_some h
              refine WQ.value (v := TNode.val x168) rfl (by kernel_rfl) (fun w H => ev_loadEl (F := fTNode) (St.rd H 0 rfl) (hp_no_le _) hx168 33 (.tmp 25) 0 (TNode.val x168) rfl (by kernel_rfl) (by kernel_rfl)) ?_
              obtain ⟨t169, ht169, h⟩ := bd_some h
              refine WQ.call (v := vb t169) rfl (by kernel_rfl) (fun w => by kernel_rfl) (fun w H => Ret.mono (g_tarnref12_Below_w fuel x166 x168 t169 ht169 _) fun u w1 hu => ⟨hu.1, St.call0' H hu.2⟩) ?_
              refine WQ.value (v := vb t169) rfl (by kernel_rfl) (fun w _ => by kernel_rfl) ?_
              refine WQ.frame (a' := ⟨#[s1, vi x7, Z, Z, vi x119, vi x7, vi x118, vi x119, vi x119, s1, vi (((List.length l6 : Nat) : Int)), vb false, vi x119, vi x160, s1, vi (((List.length l6 : Nat) : Int)), vb true, vb true, s1, vi x119, vi x164, va (slAt s1 6 (Int.toNat x164)), TNode.val x166, s1, vi x119, va (slAt s1 6 (Int.toNat x119)), TNode.val x168, vb t169, vb t169, g33, g34, g35, g36, g37, g38, g39, g40, g41, g42, g43, g44, g45, g46, g47, g48, g49, g50, g51, g52, g53, g54, g55, g56, g57, g58, g59], []⟩) (by kernel_rfl) ?_
              refine WQ.done rfl ?_
              refine (fun w170 H171 => ?_)
              exact ⟨t169, _, _, _, _, _, _, _, _, _, _, _, _, _, _, _, _, rfl, St.sel H171 [0] (by decide) rfl, h⟩
          · rintro a w ⟨c158, g142, g143, g144, g145, g146, g147, g148, g149, g150, g151, g152, g153, g154, g155, g156, g157, rfl, H, h⟩
            subst hK159
            obtain ⟨w172, rfl⟩ : ∃ x, x = w := ⟨_, rfl⟩
            have H173 := H; clear H
            have sf174 := Own.isSl (St.get H173 0 rfl)
            refine then_n ?_
            cases c158 with
            | false =>
              replace h := br_f h
              refine WP.condF (by kernel_rfl) ?_
              refine WP.skip ?_
              exact then_n ⟨x119, _, _, _, _, _, _, _, _, _, _, _, _, _, _, _, _, _, _, _, rfl, St.sel H173 [0] (by decide) rfl, h⟩
            | true =>
              replace h := br_t h
              refine WP.condT (by kernel_rfl) ?_
              refine WP.region ?_
              obtain ⟨x175, hx175, h⟩ := lt_some h
              refine WPI.run 3 ⟨#[s1, vi x7, Z, Z, vi x175, vi x7, vi x118, vi x119, vi x119, s1, vi (((List.length l6 : Nat) : Int)), vb false, g142, g143, g144, g145, g146, g147, g148, g149, g150, g151, g152, g153, g154, g155, g156, g157, vb true, vi x119, vi x175, g35, g36, g37, g38, g39, g40, g41, g42, g43, g44, g45, g46, g47, g48, g49, g50, g51, g52, g53, g54, g55, g56, g57, g58, g59], []⟩ w172 (fun K => by subst hx175; kernel_rfl) ?_
              refine WPI.done rfl ?_
              exact then_n ⟨x175, _, _, _, _, _, _, _, _, _, _, _, _, _, _, _, _, _, _, _, rfl, St.sel H173 [0] (by decide) rfl, h⟩
        · rintro a w ⟨x121, g122, g123, g124, g125, g126, g127, g128, g129, g130, g131, g132, g133, g134, g135, g136, g137, g138, g139, g140, rfl, H, h⟩
          subst hK141
          obtain ⟨w176, rfl⟩ : ∃ x, x = w := ⟨_, rfl⟩
          have H177 := H; clear H
          have sf178 := Own.isSl (St.get H177 0 rfl)
          refine WP.seq ?_
          refine WP.seq ?_
          refine WP.quiet (by kernel_rfl) (by kernel_rfl) (by kernel_rfl) (fun w => St (Own fTNode 33 s1 l2).fp w0 w [Own fTNode 33 s1 l6]) (St.drew H177) ?_
          refine WQ.value (v := s1) rfl (by kernel_rfl) (fun w _ => by kernel_rfl) ?_
          refine WQ.value (v := vi x121) rfl (by kernel_rfl) (fun w _ => by kernel_rfl) ?_
          obtain ⟨hg179, h⟩ := gd_some h
          refine WQ.value (v := va (slAt s1 6 (Int.toNat x121))) rfl (by kernel_rfl) (fun w H => ev_index sf178 22 (.tmp 31) (.tmp 32) 33 6 48 .i64 x121 rfl (by kernel_rfl) (by kernel_rfl) (by kernel_rfl) hg179) ?_
          obtain ⟨x180, hx180, h⟩ := bd_some h
          refine WQ.value (v := TNode.val x180) rfl (by kernel_rfl) (fun w H => ev_loadEl (F := fTNode) (St.rd H 0 rfl) (hp_no_le _) hx180 33 (.tmp 33) 0 (TNode.val x180) rfl (by kernel_rfl) (by kernel_rfl)) ?_
          refine WQ.value (v := s1) rfl (by kernel_rfl) (fun w _ => by kernel_rfl) ?_
          refine WQ.value (v := vi x7) rfl (by kernel_rfl) (fun w _ => by kernel_rfl) ?_
          obtain ⟨hg181, h⟩ := gd_some h
          refine WQ.value (v := va (slAt s1 6 (Int.toNat x7))) rfl (by kernel_rfl) (fun w H => ev_index sf178 22 (.tmp 35) (.tmp 36) 33 6 48 .i64 x7 rfl (by kernel_rfl) (by kernel_rfl) (by kernel_rfl) hg181) ?_
          obtain ⟨x182, hx182, h⟩ := bd_some h
          refine WQ.value (v := TNode.val x182) rfl (by kernel_rfl) (fun w H => ev_loadEl (F := fTNode) (St.rd H 0 rfl) (hp_no_le _) hx182 33 (.tmp 37) 0 (TNode.val x182) rfl (by kernel_rfl) (by kernel_rfl)) ?_
          obtain ⟨t183, ht183, h⟩ := bd_some h
          refine WQ.call (v := vb t183) rfl (by kernel_rfl) (fun w => by kernel_rfl) (fun w H => Ret.mono (g_tarnref12_Below_w fuel x180 x182 t183 ht183 _) fun u w1 hu => ⟨hu.1, St.call0' H hu.2⟩) ?_
          obtain ⟨c184, hc184, h⟩ := lt_some h
          refine WQ.value (v := vb c184) rfl (by kernel_rfl) (fun w _ => by subst hc184; kernel_rfl) ?_
          refine WQ.frame (a' := ⟨#[s1, vi x7, Z, Z, vi x121, vi x7, vi x118, vi x119, vi x119, s1, vi (((List.length l6 : Nat) : Int)), vb false, g122, g123, g124, g125, g126, g127, g128, g129, g130, g131, g132, g133, g134, g135, g136, g137, g138, g139, g140, s1, vi x121, va (slAt s1 6 (Int.toNat x121)), TNode.val x180, s1, vi x7, va (slAt s1 6 (Int.toNat x7)), TNode.val x182, vb t183, vb c184, g45, g46, g47, g48, g49, g50, g51, g52, g53, g54, g55, g56, g57, g58, g59], []⟩) (by kernel_rfl) ?_
          refine WQ.done rfl ?_
          refine (fun w185 H186 => ?_)
          refine then_n ?_
          cases c184 with
          | false =>
            replace h := br_f h
            refine WP.condF (by kernel_rfl) ?_
            refine WP.skip ?_
            refine then_n ?_
            refine WP.seq ?_
            obtain ⟨K202, hK202, h⟩ := jn_some h
            refine WP.draw (by kernel_rfl) (by kernel_rfl) (fun a w => ∃ (l187 : List TNode) (g188 : Value) (g189 : Value) (g190 : Value) (g191 : Value) (g192 : Value) (g193 : Value) (g194 : Value) (g195 : Value) (g196 : Value) (g197 : Value) (g198 : Value) (g199 : Value) (g200 : Value) (g201 : Value), a = ⟨#[s1, vi x7, Z, Z, vi x121, vi x7, vi x118, vi x119, vi x119, s1, vi (((List.length l6 : Nat) : Int)), vb false, g122, g123, g124, g125, g126, g127, g128, g129, g130, g131, g132, g133, g134, g135, g136, g137, g138, g139, g140, s1, vi x121, va (slAt s1 6 (Int.toNat x121)), TNode.val x180, s1, vi x7, va (slAt s1 6 (Int.toNat x7)), TNode.val x182, vb t183, vb false, g188, g189, g190, g191, g192, g193, g194, g195, g196, g197, g198, g199, g200, g201, g59], []⟩ ∧ St (Own fTNode 33 s1 l2).fp w0 w [Own fTNode 33 s1 l187] ∧ K202 l187 = some r) 16 #[false, false, false, false, false, false, false, false, false, false, false, false, false, false, false, false] (by kernel_rfl) (by kernel_rfl) ?_ ?_
            · skip
              have H203 := St.drew H186
              obtain ⟨hg204, h⟩ := gd_some h
              obtain ⟨x205, hx205, h⟩ := bd_some h
              obtain ⟨hg206, h⟩ := gd_some h
              obtain ⟨x207, hx207, h⟩ := bd_some h
              obtain ⟨hg208, h⟩ := gd_some h
              obtain ⟨l209, hl209, h⟩ := lt_some h
              obtain ⟨hg210, h⟩ := gd_some h
              obtain ⟨l211, hl211, h⟩ := lt_some h
              refine WA.take 0 (v := s1) rfl (by kernel_rfl) (by kernel_rfl) (fun w => by kernel_rfl) (fun w => by kernel_rfl) (l' := #[true, false, false, false, false, false, false, false, false, false, false, false, false, false, false, false]) (by kernel_rfl) ?_
              refine WA.take 1 (v := vi x7) rfl (by kernel_rfl) (by kernel_rfl) (fun w => by kernel_rfl) (fun w => by kernel_rfl) (l' := #[true, true, false, false, false, false, false, false, false, false, false, false, false, false, false, false]) (by kernel_rfl) ?_
              refine WA.take 2 (v := s1) rfl (by kernel_rfl) (by kernel_rfl) (fun w => by kernel_rfl) (fun w => by kernel_rfl) (l' := #[true, true, true, false, false, false, false, false, false, false, false, false, false, false, false, false]) (by kernel_rfl) ?_
              refine WA.take 3 (v := vi x121) rfl (by kernel_rfl) (by kernel_rfl) (fun w => by kernel_rfl) (fun w => by kernel_rfl) (l' := #[true, true, true, true, false, false, false, false, false, false, false, false, false, false, false, false]) (by kernel_rfl) ?_
              refine WA.take 4 (v := s1) rfl (by kernel_rfl) (by kernel_rfl) (fun w => by kernel_rfl) (fun w => by kernel_rfl) (l' := #[true, true, true, true, true, false, false, false, false, false, false, false, false, false, false, false]) (by kernel_rfl) ?_
              refine WA.take 5 (v := vi x121) rfl (by kernel_rfl) (by kernel_rfl) (fun w => by kernel_rfl) (fun w => by kernel_rfl) (l' := #[true, true, true, true, true, true, false, false, false, false, false, false, false, false, false, false]) (by kernel_rfl) ?_
              refine WA.take 6 (v := va (slAt s1 6 (Int.toNat x121))) rfl (by kernel_rfl) (by kernel_rfl) (fun w => ev_index sf178 22 (.tmp 45) (.tmp 46) 33 6 48 .i64 x121 rfl (by kernel_rfl) (by kernel_rfl) (by kernel_rfl) hg204) (fun w => by kernel_rfl) (l' := #[true, true, true, true, true, true, true, false, false, false, false, false, false, false, false, false]) (by kernel_rfl) ?_
              refine WA.take 8 (v := s1) rfl (by kernel_rfl) (by kernel_rfl) (fun w => by kernel_rfl) (fun w => by kernel_rfl) (l' := #[true, true, true, true, true, true, true, false, true, false, false, false, false, false, false, false]) (by kernel_rfl) ?_
              refine WA.take 9 (v := vi x7) rfl (by kernel_rfl) (by kernel_rfl) (fun w => by kernel_rfl) (fun w => by kernel_rfl) (l' := #[true, true, true, true, true, true, true, false, true, true, false, false, false, false, false, false]) (by kernel_rfl) ?_
              refine WA.take 10 (v := va (slAt s1 6 (Int.toNat x7))) rfl (by kernel_rfl) (by kernel_rfl) (fun w => ev_index sf178 22 (.tmp 49) (.tmp 50) 33 6 48 .i64 x7 rfl (by kernel_rfl) (by kernel_rfl) (by kernel_rfl) hg206) (fun w => by kernel_rfl) (l' := #[true, true, true, true, true, true, true, false, true, true, true, false, false, false, false, false]) (by kernel_rfl) ?_
              refine WA.any [7, 11] (by kernel_rfl) (by simp) ?_
              simp only [List.mem_cons, List.not_mem_nil, or_false, forall_eq_or_imp, forall_eq]
              refine ⟨?_, ?_⟩
              · skip
                refine WO.op rfl (Op1.val (v := TNode.val x205) (by kernel_rfl) (ev_loadEl (F := fTNode) (St.rd H203 0 rfl) (hp_no_le _) hx205 33 (.tmp 47) 0 (TNode.val x205) rfl (by kernel_rfl) (by kernel_rfl)) ?_)
                refine WA.lst (l := #[true, true, true, true, true, true, true, true, true, true, true, false, false, false, false, false]) (by kernel_rfl) ?_
                refine WA.any [11] (by kernel_rfl) (by simp) ?_
                simp only [List.mem_singleton, forall_eq]
                refine WO.op rfl (Op1.val (v := TNode.val x207) (by kernel_rfl) (ev_loadEl (F := fTNode) (St.rd H203 0 rfl) (hp_no_le _) hx207 33 (.tmp 51) 0 (TNode.val x207) rfl (by kernel_rfl) (by kernel_rfl)) ?_)
                refine WA.lst (l := #[true, true, true, true, true, true, true, true, true, true, true, true, false, false, false, false]) (by kernel_rfl) ?_
                refine WA.take 12 (v := va (slAt s1 6 (Int.toNat x7))) rfl (by kernel_rfl) (by kernel_rfl) (fun w => ev_index sf178 22 (.tmp 41) (.tmp 42) 33 6 48 .i64 x7 rfl (by kernel_rfl) (by kernel_rfl) (by kernel_rfl) hg208) (fun w => by kernel_rfl) (l' := #[true, true, true, true, true, true, true, true, true, true, true, true, true, false, false, false]) (by kernel_rfl) ?_
                refine WA.any [13] (by kernel_rfl) (by simp) ?_
                simp only [List.mem_singleton, forall_eq]
                refine WO.op rfl (Op1.storeOwn H203 0 rfl (by kernel_rfl) 33 (.tmp 53) (.tmp 48) (Int.toNat x7) x205 true rfl (by kernel_rfl) (by kernel_rfl) (by kernel_rfl) (idx_lt hg208) (fun w212 H213 => ?_))
                rw [← hl209] at H213
                clear H203
                refine WA.lst (l := #[true, true, true, true, true, true, true, true, true, true, true, true, true, true, false, false]) (by kernel_rfl) ?_
                refine WA.take 14 (v := va (slAt s1 6 (Int.toNat x121))) rfl (by kernel_rfl) (by kernel_rfl) (fun w => ev_index sf178 22 (.tmp 43) (.tmp 44) 33 6 48 .i64 x121 rfl (by kernel_rfl) (by kernel_rfl) (by kernel_rfl) hg210) (fun w => by kernel_rfl) (l' := #[true, true, true, true, true, true, true, true, true, true, true, true, true, true, true, false]) (by kernel_rfl) ?_
                refine WA.any [15] (by kernel_rfl) (by simp) ?_
                simp only [List.mem_singleton, forall_eq]
                refine WO.op rfl (Op1.storeOwn H213 0 rfl (by kernel_rfl) 33 (.tmp 54) (.tmp 52) (Int.toNat x121) x207 true rfl (by kernel_rfl) (by kernel_rfl) (by kernel_rfl) (by simp only [hl209, List.length_set]; exact idx_lt hg210) (fun w214 H215 => ?_))
                rw [← hl211] at H215
                clear H213
                refine WA.lst (l := #[true, true, true, true, true, true, true, true, true, true, true, true, true, true, true, true]) (by kernel_rfl) ?_
                refine WA.done (by kernel_rfl) ?_
                exact ⟨l211, s1, (vi x7), s1, (vi x121), s1, (vi x121), (va (slAt s1 6 (Int.toNat x121))), (TNode.val x205), s1, (vi x7), (va (slAt s1 6 (Int.toNat x7))), (TNode.val x207), (va (slAt s1 6 (Int.toNat x7))), (va (slAt s1 6 (Int.toNat x121))), (by kernel_rfl), St.sel H215 [0] (by decide) rfl, h⟩
              · skip
                refine WO.op rfl (Op1.val (v := TNode.val x207) (by kernel_rfl) (ev_loadEl (F := fTNode) (St.rd H203 0 rfl) (hp_no_le _) hx207 33 (.tmp 51) 0 (TNode.val x207) rfl (by kernel_rfl) (by kernel_rfl)) ?_)
                refine WA.lst (l := #[true, true, true, true, true, true, true, false, true, true, true, true, false, false, false, false]) (by kernel_rfl) ?_
                refine WA.any [7] (by kernel_rfl) (by simp) ?_
                simp only [List.mem_singleton, forall_eq]
                refine WO.op rfl (Op1.val (v := TNode.val x205) (by kernel_rfl) (ev_loadEl (F := fTNode) (St.rd H203 0 rfl) (hp_no_le _) hx205 33 (.tmp 47) 0 (TNode.val x205) rfl (by kernel_rfl) (by kernel_rfl)) ?_)
                refine WA.lst (l := #[true, true, true, true, true, true, true, true, true, true, true, true, false, false, false, false]) (by kernel_rfl) ?_
                refine WA.take 12 (v := va (slAt s1 6 (Int.toNat x7))) rfl (by kernel_rfl) (by kernel_rfl) (fun w => ev_index sf178 22 (.tmp 41) (.tmp 42) 33 6 48 .i64 x7 rfl (by kernel_rfl) (by kernel_rfl) (by kernel_rfl) hg208) (fun w => by kernel_rfl) (l' := #[true, true, true, true, true, true, true, true, true, true, true, true, true, false, false, false]) (by kernel_rfl) ?_
                refine WA.any [13] (by kernel_rfl) (by simp) ?_
                simp only [List.mem_singleton, forall_eq]
                refine WO.op rfl (Op1.storeOwn H203 0 rfl (by kernel_rfl) 33 (.tmp 53) (.tmp 48) (Int.toNat x7) x205 true rfl (by kernel_rfl) (by kernel_rfl) (by kernel_rfl) (idx_lt hg208) (fun w216 H217 => ?_))
                rw [← hl209] at H217
                clear H203
                refine WA.lst (l := #[true, true, true, true, true, true, true, true, true, true, true, true, true, true, false, false]) (by kernel_rfl) ?_
                refine WA.take 14 (v := va (slAt s1 6 (Int.toNat x121))) rfl (by kernel_rfl) (by kernel_rfl) (fun w => ev_index sf178 22 (.tmp 43) (.tmp 44) 33 6 48 .i64 x121 rfl (by kernel_rfl) (by kernel_rfl) (by kernel_rfl) hg210) (fun w => by kernel_rfl) (l' := #[true, true, true, true, true, true, true, true, true, true, true, true, true, true, true, false]) (by kernel_rfl) ?_
                refine WA.any [15] (by kernel_rfl) (by simp) ?_
                simp only [List.mem_singleton, forall_eq]
                refine WO.op rfl (Op1.storeOwn H217 0 rfl (by kernel_rfl) 33 (.tmp 54) (.tmp 52) (Int.toNat x121) x207 true rfl (by kernel_rfl) (by kernel_rfl) (by kernel_rfl) (by simp only [hl209, List.length_set]; exact idx_lt hg210) (fun w218 H219 => ?_))
                rw [← hl211] at H219
                clear H217
                refine WA.lst (l := #[true, true, true, true, true, true, true, true, true, true, true, true, true, true, true, true]) (by kernel_rfl) ?_
                refine WA.done (by kernel_rfl) ?_
                exact ⟨l211, s1, (vi x7), s1, (vi x121), s1, (vi x121), (va (slAt s1 6 (Int.toNat x121))), (TNode.val x205), s1, (vi x7), (va (slAt s1 6 (Int.toNat x7))), (TNode.val x207), (va (slAt s1 6 (Int.toNat x7))), (va (slAt s1 6 (Int.toNat x121))), (by kernel_rfl), St.sel H219 [0] (by decide) rfl, h⟩
            · rintro a w ⟨l187, g188, g189, g190, g191, g192, g193, g194, g195, g196, g197, g198, g199, g200, g201, rfl, H, h⟩
              subst hK202
              obtain ⟨w220, rfl⟩ : ∃ x, x = w := ⟨_, rfl⟩
              have H221 := H; clear H
              have sf222 := Own.isSl (St.get H221 0 rfl)
              refine then_n ?_
              refine WP.region ?_
              refine WPI.run 2 ⟨#[s1, vi x121, Z, Z, vi x121, vi x7, vi x118, vi x119, vi x119, s1, vi (((List.length l6 : Nat) : Int)), vb false, g122, g123, g124, g125, g126, g127, g128, g129, g130, g131, g132, g133, g134, g135, g136, g137, g138, g139, g140, s1, vi x121, va (slAt s1 6 (Int.toNat x121)), TNode.val x180, s1, vi x7, va (slAt s1 6 (Int.toNat x7)), TNode.val x182, vb t183, vb false, g188, g189, g190, g191, g192, g193, g194, g195, g196, g197, g198, g199, g200, g201, vi x121], []⟩ w220 (fun K => by kernel_rfl) ?_
              refine WPI.done rfl ?_
              exact inb_n (then_n ⟨l187, x121, _, _, _, _, _, _, _, _, _, _, _, _, _, _, _, _, _, _, _, _, _, _, _, _, _, _, _, _, _, _, _, _, _, _, _, _, _, _, _, _, _, _, _, _, _, _, _, _, _, _, _, _, rfl, St.sel H221 [0] (by decide) rfl, h⟩)
          | true =>
            replace h := br_t h
            refine WP.condT (by kernel_rfl) ?_
            refine WP.ret ?_
            obtain rfl := Option.some.inj h
            exact then_r (inb_r (then_r (then_r (inb_r (post_r (.tuple #[]) rfl (by kernel_rfl) ⟨rfl, St.sel H186 [0] (by decide) rfl⟩)))))
      | true =>
        replace h := br_t h
        refine WP.condT (by kernel_rfl) ?_
        refine WP.ret ?_
        obtain rfl := Option.some.inj h
        exact then_r (inb_r (then_r (then_r (inb_r (post_r (.tuple #[]) rfl (by kernel_rfl) ⟨rfl, St.sel H61 [0] (by decide) rfl⟩)))))
    · rintro a w ⟨l63, x64, g65, g66, g67, g68, g69, g70, g71, g72, g73, g74, g75, g76, g77, g78, g79, g80, g81, g82, g83, g84, g85, g86, g87, g88, g89, g90, g91, g92, g93, g94, g95, g96, g97, g98, g99, g100, g101, g102, g103, g104, g105, g106, g107, g108, g109, g110, g111, g112, g113, g114, g115, g116, rfl, H, h⟩
      subst hK117
      obtain ⟨w223, rfl⟩ : ∃ x, x = w := ⟨_, rfl⟩
      have H224 := H; clear H
      have sf225 := Own.isSl (St.get H224 0 rfl)
      exact then_n ⟨n, Nat.lt_succ_self n, l63, x64, _, _, _, _, _, _, _, _, _, _, _, _, _, _, _, _, _, _, _, _, _, _, _, _, _, _, _, _, _, _, _, _, _, _, _, _, _, _, _, _, _, _, _, _, _, _, _, _, _, _, _, _, rfl, St.sel H224 [0] (by decide) rfl, h⟩
/- tarn/tarnref12.moves -/
def g_tarnref12_moves (fuel : Nat) (l2 : List TNode) (p4 : Int) : Option (List TNode) :=
  jn (fun (l6 : List TNode) (c17 : Bool) => br c17 (bd (g_tarnref12_sinks fuel l6 p4) fun t29 => some t29) (some l6)) fun K18 => lt (decide (p4 < (((List.length l2 : Nat) : Int)))) fun c19 => br c19 (bd (g_tarnref12_rises fuel l2 p4) fun t20 => lt (t20.2 == p4) fun c25 => K18 t20.1 c25) (K18 l2 false)
theorem g_tarnref12_moves_w (fuel : Nat) (s1 : Value) (l2 : List TNode) (p4 : Int) (r : List TNode) (h : g_tarnref12_moves fuel l2 p4 = some r) (w0 : World) (hm : (Own fTNode 33 s1 l2).holds w0) :
    Ret Try.prog 53 #[s1, vi p4] w0 (fun v w' => v = .tuple #[] ∧ St (Own fTNode 33 s1 l2).fp w0 w' [Own fTNode 33 s1 r]) := by
  unfold g_tarnref12_moves at h
  refine ret_of_wp Try.func53 rfl #[s1, vi p4, Z, Z, Z, Z, Z, Z, Z, Z, Z, Z, Z, Z, Z, Z, Z, Z] (by kernel_rfl) ?_
  have H0 := St.start1 hm
  have sf5 := Own.isSl (St.get H0 0 rfl)
  refine WP.seq ?_
  obtain ⟨K18, hK18, h⟩ := jn_some h
  refine WP.onlyN (fun a w => ∃ (l6 : List TNode) (c17 : Bool) (g7 : Value) (g8 : Value) (g9 : Value) (g10 : Value) (g11 : Value) (g12 : Value) (g13 : Value) (g14 : Value) (g15 : Value) (g16 : Value), a = ⟨#[s1, vi p4, Z, Z, g7, g8, g9, g10, g11, g12, g13, g14, g15, g16, vb c17, Z, Z, Z], []⟩ ∧ St (Own fTNode 33 s1 l2).fp w0 w [Own fTNode 33 s1 l6] ∧ K18 l6 c17 = some r) ?_ ?_
  · skip
    refine WP.region ?_
    refine WPI.run 2 ⟨#[s1, vi p4, Z, Z, vi p4, s1, Z, Z, Z, Z, Z, Z, Z, Z, Z, Z, Z, Z], []⟩ w0 (fun K => by kernel_rfl) ?_
    refine WPI.value (v := vi (((List.length l2 : Nat) : Int))) rfl (by kernel_rfl) (ev_len sf5 22 (.tmp 5) 33 6 48 rfl (by kernel_rfl) (by kernel_rfl)) ?_
    obtain ⟨c19, hc19, h⟩ := lt_some h
    refine WPI.run 2 ⟨#[s1, vi p4, Z, Z, vi p4, s1, vi (((List.length l2 : Nat) : Int)), vb c19, vb c19, Z, Z, Z, Z, Z, Z, Z, Z, Z], []⟩ w0 (fun K => by subst hc19; kernel_rfl) ?_
    cases c19 with
    | false =>
      replace h := br_f h
      refine WPI.run 6 ⟨#[s1, vi p4, Z, Z, vi p4, s1, vi (((List.length l2 : Nat) : Int)), vb false, vb false, Z, Z, Z, Z, Z, vb false, Z, Z, Z], []⟩ w0 (fun K => by kernel_rfl) ?_
      refine WPI.done rfl ?_
      exact ⟨l2, false, _, _, _, _, _, _, _, _, _, _, rfl, St.sel H0 [0] (by decide) rfl, h⟩
    | true =>
      replace h := br_t h
      obtain ⟨t20, ht20, h⟩ := bd_some h
      refine WPI.run 2 ⟨#[s1, vi p4, Z, Z, vi p4, s1, vi (((List.length l2 : Nat) : Int)), vb true, vb true, s1, vi p4, Z, Z, Z, Z, Z, Z, Z], []⟩ w0 (fun K => by kernel_rfl) ?_
      refine WPI.op rfl (Op1.call (by kernel_rfl) (by kernel_rfl) (g_tarnref12_rises_w fuel s1 l2 p4 t20 ht20 _ (St.get H0 0 rfl)) ?_)
      rintro _ w22 ⟨rfl, Hc23⟩
      have H24 := St.call1 H0 0 rfl Hc23
      clear Hc23
      have sf21 := Own.isSl (St.get H24 0 rfl)
      obtain ⟨c25, hc25, h⟩ := lt_some h
      refine WPI.run 3 ⟨#[s1, vi p4, Z, Z, vi p4, s1, vi (((List.length l2 : Nat) : Int)), vb true, vb true, s1, vi p4, vi t20.2, vi p4, vb c25, vb c25, Z, Z, Z], []⟩ w22 (fun K => by subst hc25; kernel_rfl) ?_
      refine WPI.done rfl ?_
      exact ⟨t20.1, c25, _, _, _, _, _, _, _, _, _, _, rfl, St.sel H24 [0] (by decide) rfl, h⟩
  · rintro a w ⟨l6, c17, g7, g8, g9, g10, g11, g12, g13, g14, g15, g16, rfl, H, h⟩
    subst hK18
    obtain ⟨w26, rfl⟩ : ∃ x, x = w := ⟨_, rfl⟩
    have H27 := H; clear H
    have sf28 := Own.isSl (St.get H27 0 rfl)
    refine then_n ?_
    cases c17 with
    | false =>
      replace h := br_f h
      refine WP.condF (by kernel_rfl) ?_
      refine WP.skip ?_
      obtain rfl := Option.some.inj h
      exact post_n (.tuple #[]) rfl (by kernel_rfl) ⟨rfl, St.sel H27 [0] (by decide) rfl⟩
    | true =>
      replace h := br_t h
      refine WP.condT (by kernel_rfl) ?_
      refine WP.region ?_
      obtain ⟨t29, ht29, h⟩ := bd_some h
      refine WPI.run 2 ⟨#[s1, vi p4, Z, Z, g7, g8, g9, g10, g11, g12, g13, g14, g15, g16, vb true, s1, vi p4, Z], []⟩ w26 (fun K => by kernel_rfl) ?_
      refine WPI.op rfl (Op1.call (by kernel_rfl) (by kernel_rfl) (g_tarnref12_sinks_w fuel s1 l6 p4 t29 ht29 _ (St.get H27 0 rfl)) ?_)
      rintro _ w31 ⟨rfl, Hc32⟩
      have H33 := St.call1 H27 0 rfl Hc32
      clear H27 Hc32
      have sf30 := Own.isSl (St.get H33 0 rfl)
      refine WPI.run 0 ⟨#[s1, vi p4, Z, Z, g7, g8, g9, g10, g11, g12, g13, g14, g15, g16, vb true, s1, vi p4, .tuple #[]], []⟩ w31 (fun K => by kernel_rfl) ?_
      refine WPI.done rfl ?_
      obtain rfl := Option.some.inj h
      exact post_n (.tuple #[]) rfl (by kernel_rfl) ⟨rfl, St.sel H33 [0] (by decide) rfl⟩
/- tarn/tarnref12.Drop -/
def g_tarnref12_Drop (fuel : Nat) (l2 : List TNode) (p3 : Int) : Option ((List TNode) × Int) :=
  bd (g_tarnref12_Find fuel l2 p3) fun t4 => lt (decide (t4 < 0)) fun c8 => br c8 (some ([], 3)) (bd (g_tarnref0_CopyNodes fuel l2) fun t9 => lt (wr .i64 ((((List.length t9 : Nat) : Int)) - 1)) fun x16 => gd ((0 : Int) ≤ x16 ∧ x16 < ((List.length t9 : Nat) : Int)) <| bd (t9[Int.toNat x16]?) fun x18 => gd ((0 : Int) ≤ t4 ∧ t4 < ((List.length t9 : Nat) : Int)) <| lt (List.set t9 (Int.toNat t4) x18) fun l20 => lt (wr .i64 ((((List.length t9 : Nat) : Int)) - 1)) fun x23 => gd ((0 : Int) ≤ 0 ∧ 0 ≤ x23 ∧ x23 ≤ ((List.length t9 : Nat) : Int)) <| lt (List.take (Int.toNat x23) l20) fun l26 => bd (g_tarnref12_moves fuel l26 t4) fun t28 => some (t28, 0))
theorem g_tarnref12_Drop_w (fuel : Nat) (s1 : Value) (l2 : List TNode) (p3 : Int) (r : (List TNode) × Int) (h : g_tarnref12_Drop fuel l2 p3 = some r) (w0 : World) (hs1 : Rd fTNode (hp no w0) s1 l2) :
    Ret Try.prog 40 #[s1, vi p3] w0 (fun v w' => ∃ (q0 : Value), v = .tuple #[q0, vi r.2] ∧ St no w0 w' [Own fTNode 33 q0 r.1]) := by
  unfold g_tarnref12_Drop at h
  refine ret_of_wp Try.func40 rfl #[s1, vi p3, Z, Z, Z, Z, Z, Z, Z, Z, Z, Z, Z, Z, Z, Z, Z, Z, Z, Z, Z, Z, Z, Z, Z, Z, Z, Z, Z, Z, Z, Z, Z] (by kernel_rfl) ?_
  have H0 := St.start w0
  refine WP.seq ?_
  refine WP.region ?_
  refine WPI.run 2 ⟨#[s1, vi p3, Z, Z, vn, vi 0, Z, Z, Z, Z, Z, Z, Z, Z, Z, Z, Z, Z, Z, Z, Z, Z, Z, Z, Z, Z, Z, Z, Z, Z, Z, Z, Z], []⟩ w0 (fun K => by kernel_rfl) ?_
  refine WPI.done rfl ?_
  refine then_n ?_
  refine WP.seq ?_
  refine WP.region ?_
  obtain ⟨t4, ht4, h⟩ := bd_some h
  refine WPI.run 2 ⟨#[s1, vi p3, Z, Z, vn, vi 0, Z, Z, s1, vi p3, Z, Z, Z, Z, Z, Z, Z, Z, Z, Z, Z, Z, Z, Z, Z, Z, Z, Z, Z, Z, Z, Z, Z], []⟩ w0 (fun K => by kernel_rfl) ?_
  refine WPI.op rfl (Op1.call (by kernel_rfl) (by kernel_rfl) (g_tarnref12_Find_w fuel s1 l2 p3 t4 ht4 _ (Rd.arg0 hs1 H0)) ?_)
  rintro _ w5 ⟨rfl, Hc6⟩
  have H7 := St.call0' H0 Hc6
  clear Hc6
  refine WPI.run 1 ⟨#[s1, vi p3, Z, Z, vn, vi 0, vi t4, Z, s1, vi p3, vi t4, Z, Z, Z, Z, Z, Z, Z, Z, Z, Z, Z, Z, Z, Z, Z, Z, Z, Z, Z, Z, Z, Z], []⟩ w5 (fun K => by kernel_rfl) ?_
  refine WPI.done rfl ?_
  refine then_n ?_
  refine WP.seq ?_
  refine WP.seq ?_
  refine WP.region ?_
  obtain ⟨c8, hc8, h⟩ := lt_some h
  refine WPI.run 2 ⟨#[s1, vi p3, Z, Z, vn, vi 0, vi t4, Z, s1, vi p3, vi t4, vi t4, vb c8, Z, Z, Z, Z, Z, Z, Z, Z, Z, Z, Z, Z, Z, Z, Z, Z, Z, Z, Z, Z], []⟩ w5 (fun K => by subst hc8; kernel_rfl) ?_
  refine WPI.done rfl ?_
  refine then_n ?_
  cases c8 with
  | false =>
    replace h := br_f h
    refine WP.condF (by kernel_rfl) ?_
    refine WP.skip ?_
    refine then_n ?_
    refine WP.seq ?_
    refine WP.region ?_
    obtain ⟨t9, ht9, h⟩ := bd_some h
    refine WPI.run 1 ⟨#[s1, vi p3, Z, Z, vn, vi 0, vi t4, Z, s1, vi p3, vi t4, vi t4, vb false, s1, Z, Z, Z, Z, Z, Z, Z, Z, Z, Z, Z, Z, Z, Z, Z, Z, Z, Z, Z], []⟩ w5 (fun K => by kernel_rfl) ?_
    refine WPI.op rfl (Op1.call (by kernel_rfl) (by kernel_rfl) (g_tarnref0_CopyNodes_w fuel s1 l2 t9 ht9 _ (Rd.arg0 hs1 H7)) ?_)
    rintro s10 w13 ⟨_, rfl, Hc14⟩
    have H15 := St.call0 H7 Hc14
    clear H7 Hc14
    have sf12 := Own.isSl (St.get H15 0 rfl)
    refine WPI.run 1 ⟨#[s1, vi p3, Z, Z, vn, vi 0, vi t4, s10, s1, vi p3, vi t4, vi t4, vb false, s1, s10, Z, Z, Z, Z, Z, Z, Z, Z, Z, Z, Z, Z, Z, Z, Z, Z, Z, Z], []⟩ w13 (fun K => by kernel_rfl) ?_
    refine WPI.done rfl ?_
    refine then_n ?_
    refine WP.seq ?_
    refine WP.region ?_
    refine WPI.run 4 ⟨#[s1, vi p3, Z, Z, vn, vi 0, vi t4, s10, s1, vi p3, vi t4, vi t4, vb false, s1, s10, s10, vi t4, s10, s10, Z, Z, Z, Z, Z, Z, Z, Z, Z, Z, Z, Z, Z, Z], []⟩ w13 (fun K => by kernel_rfl) ?_
    refine WPI.value (v := vi (((List.length t9 : Nat) : Int))) rfl (by kernel_rfl) (ev_len sf12 22 (.tmp 18) 33 6 48 rfl (by kernel_rfl) (by kernel_rfl)) ?_
    obtain ⟨x16, hx16, h⟩ := lt_some h
    obtain ⟨hg17, h⟩ := gd_some h
    refine WPI.run 1 ⟨#[s1, vi p3, Z, Z, vn, vi 0, vi t4, s10, s1, vi p3, vi t4, vi t4, vb false, s1, s10, s10, vi t4, s10, s10, vi (((List.length t9 : Nat) : Int)), vi x16, Z, Z, Z, Z, Z, Z, Z, Z, Z, Z, Z, Z], []⟩ w13 (fun K => by subst hx16; kernel_rfl) ?_
    refine WPI.value (v := va (slAt s10 6 (Int.toNat x16))) rfl (by kernel_rfl) (ev_index sf12 22 (.tmp 17) (.tmp 20) 33 6 48 .i64 x16 rfl (by kernel_rfl) (by kernel_rfl) (by kernel_rfl) hg17) ?_
    obtain ⟨x18, hx18, h⟩ := bd_some h
    refine WPI.run 0 ⟨#[s1, vi p3, Z, Z, vn, vi 0, vi t4, s10, s1, vi p3, vi t4, vi t4, vb false, s1, s10, s10, vi t4, s10, s10, vi (((List.length t9 : Nat) : Int)), vi x16, va (slAt s10 6 (Int.toNat x16)), Z, Z, Z, Z, Z, Z, Z, Z, Z, Z, Z], []⟩ w13 (fun K => by kernel_rfl) ?_
    refine WPI.value (v := TNode.val x18) rfl (by kernel_rfl) (ev_loadEl (F := fTNode) (St.rd H15 0 rfl) (hp_no_le _) hx18 33 (.tmp 21) 0 (TNode.val x18) rfl (by kernel_rfl) (by kernel_rfl)) ?_
    obtain ⟨hg19, h⟩ := gd_some h
    refine WPI.run 0 ⟨#[s1, vi p3, Z, Z, vn, vi 0, vi t4, s10, s1, vi p3, vi t4, vi t4, vb false, s1, s10, s10, vi t4, s10, s10, vi (((List.length t9 : Nat) : Int)), vi x16, va (slAt s10 6 (Int.toNat x16)), TNode.val x18, Z, Z, Z, Z, Z, Z, Z, Z, Z, Z], []⟩ w13 (fun K => by kernel_rfl) ?_
    refine WPI.value (v := va (slAt s10 6 (Int.toNat t4))) rfl (by kernel_rfl) (ev_index sf12 22 (.tmp 15) (.tmp 16) 33 6 48 .i64 t4 rfl (by kernel_rfl) (by kernel_rfl) (by kernel_rfl) hg19) ?_
    obtain ⟨l20, hl20, h⟩ := lt_some h
    refine WPI.run 0 ⟨#[s1, vi p3, Z, Z, vn, vi 0, vi t4, s10, s1, vi p3, vi t4, vi t4, vb false, s1, s10, s10, vi t4, s10, s10, vi (((List.length t9 : Nat) : Int)), vi x16, va (slAt s10 6 (Int.toNat x16)), TNode.val x18, va (slAt s10 6 (Int.toNat t4)), Z, Z, Z, Z, Z, Z, Z, Z, Z], []⟩ w13 (fun K => by kernel_rfl) ?_
    refine WPI.op rfl (Op1.storeOwn H15 0 rfl (by kernel_rfl) 33 (.tmp 23) (.tmp 22) (Int.toNat t4) x18 true rfl (by kernel_rfl) (by kernel_rfl) (by kernel_rfl) (idx_lt hg19) (fun w21 H22 => ?_))
    rw [← hl20] at H22
    clear H15
    refine WPI.run 0 ⟨#[s1, vi p3, Z, Z, vn, vi 0, vi t4, s10, s1, vi p3, vi t4, vi t4, vb false, s1, s10, s10, vi t4, s10, s10, vi (((List.length t9 : Nat) : Int)), vi x16, va (slAt s10 6 (Int.toNat x16)), TNode.val x18, va (slAt s10 6 (Int.toNat t4)), Z, Z, Z, Z, Z, Z, Z, Z, Z], []⟩ w21 (fun K => by kernel_rfl) ?_
    refine WPI.done rfl ?_
    refine then_n ?_
    refine WP.seq ?_
    refine WP.region ?_
    refine WPI.run 2 ⟨#[s1, vi p3, Z, Z, vn, vi 0, vi t4, s10, s1, vi p3, vi t4, vi t4, vb false, s1, s10, s10, vi t4, s10, s10, vi (((List.length t9 : Nat) : Int)), vi x16, va (slAt s10 6 (Int.toNat x16)), TNode.val x18, va (slAt s10 6 (Int.toNat t4)), s10, s10, Z, Z, Z, Z, Z, Z, Z], []⟩ w21 (fun K => by kernel_rfl) ?_
    refine WPI.value (v := vi (((List.length t9 : Nat) : Int))) rfl (by kernel_rfl) (ev_len sf12 22 (.tmp 25) 33 6 48 rfl (by kernel_rfl) (by kernel_rfl)) ?_
    obtain ⟨x23, hx23, h⟩ := lt_some h
    obtain ⟨hg24, h⟩ := gd_some h
    refine WPI.run 1 ⟨#[s1, vi p3, Z, Z, vn, vi 0, vi t4, s10, s1, vi p3, vi t4, vi t4, vb false, s1, s10, s10, vi t4, s10, s10, vi (((List.length t9 : Nat) : Int)), vi x16, va (slAt s10 6 (Int.toNat x16)), TNode.val x18, va (slAt s10 6 (Int.toNat t4)), s10, s10, vi (((List.length t9 : Nat) : Int)), vi x23, Z, Z, Z, Z, Z], []⟩ w21 (fun K => by subst hx23; kernel_rfl) ?_
    refine WPI.value (v := (slSub s10 6 0 (Int.toNat x23))) rfl (by kernel_rfl) (ev_slice sf12 22 (.tmp 24) none (some (.tmp 27)) 33 6 48 0 x23 rfl (by kernel_rfl) (by kernel_rfl) (.inl ⟨rfl, rfl⟩) (.inr ⟨(.tmp 27), .i64, rfl, by kernel_rfl⟩) hg24) ?_
    refine WPI.run 1 ⟨#[s1, vi p3, Z, Z, vn, vi 0, vi t4, (slSub s10 6 0 (Int.toNat x23)), s1, vi p3, vi t4, vi t4, vb false, s1, s10, s10, vi t4, s10, s10, vi (((List.length t9 : Nat) : Int)), vi x16, va (slAt s10 6 (Int.toNat x16)), TNode.val x18, va (slAt s10 6 (Int.toNat t4)), s10, s10, vi (((List.length t9 : Nat) : Int)), vi x23, (slSub s10 6 0 (Int.toNat x23)), Z, Z, Z, Z], []⟩ w21 (fun K => by kernel_rfl) ?_
    refine WPI.done rfl ?_
    refine then_n ?_
    refine WP.seq ?_
    refine WP.region ?_
    obtain ⟨l26, hl26, h⟩ := lt_some h
    have H25 := St.cut H22 0 rfl (Int.toNat x23) (by simp only [hl20, List.length_set]; exact piece_hi hg24)
    rw [← hl26] at H25
    have sf27 := Own.isSl (St.get H25 0 rfl)
    obtain ⟨t28, ht28, h⟩ := bd_some h
    refine WPI.run 2 ⟨#[s1, vi p3, Z, Z, vn, vi 0, vi t4, (slSub s10 6 0 (Int.toNat x23)), s1, vi p3, vi t4, vi t4, vb false, s1, s10, s10, vi t4, s10, s10, vi (((List.length t9 : Nat) : Int)), vi x16, va (slAt s10 6 (Int.toNat x16)), TNode.val x18, va (slAt s10 6 (Int.toNat t4)), s10, s10, vi (((List.length t9 : Nat) : Int)), vi x23, (slSub s10 6 0 (Int.toNat x23)), (slSub s10 6 0 (Int.toNat x23)), vi t4, Z, Z], []⟩ w21 (fun K => by kernel_rfl) ?_
    refine WPI.op rfl (Op1.call (by kernel_rfl) (by kernel_rfl) (g_tarnref12_moves_w fuel (slSub s10 6 0 (Int.toNat x23)) l26 t4 t28 ht28 _ (St.get H25 0 rfl)) ?_)
    rintro _ w30 ⟨rfl, Hc31⟩
    have H32 := St.call1 H25 0 rfl Hc31
    clear H25 Hc31
    have sf29 := Own.isSl (St.get H32 0 rfl)
    refine WPI.run 0 ⟨#[s1, vi p3, Z, Z, vn, vi 0, vi t4, (slSub s10 6 0 (Int.toNat x23)), s1, vi p3, vi t4, vi t4, vb false, s1, s10, s10, vi t4, s10, s10, vi (((List.length t9 : Nat) : Int)), vi x16, va (slAt s10 6 (Int.toNat x16)), TNode.val x18, va (slAt s10 6 (Int.toNat t4)), s10, s10, vi (((List.length t9 : Nat) : Int)), vi x23, (slSub s10 6 0 (Int.toNat x23)), (slSub s10 6 0 (Int.toNat x23)), vi t4, .tuple #[], Z], []⟩ w30 (fun K => by kernel_rfl) ?_
    refine WPI.done rfl ?_
    refine then_n ?_
    refine WP.seq ?_
    refine WP.region ?_
    refine WPI.run 3 ⟨#[s1, vi p3, Z, Z, (slSub s10 6 0 (Int.toNat x23)), vi 0, vi t4, (slSub s10 6 0 (Int.toNat x23)), s1, vi p3, vi t4, vi t4, vb false, s1, s10, s10, vi t4, s10, s10, vi (((List.length t9 : Nat) : Int)), vi x16, va (slAt s10 6 (Int.toNat x16)), TNode.val x18, va (slAt s10 6 (Int.toNat t4)), s10, s10, vi (((List.length t9 : Nat) : Int)), vi x23, (slSub s10 6 0 (Int.toNat x23)), (slSub s10 6 0 (Int.toNat x23)), vi t4, .tuple #[], (slSub s10 6 0 (Int.toNat x23))], []⟩ w30 (fun K => by kernel_rfl) ?_
    refine WPI.done rfl ?_
    refine then_n ?_
    refine WP.ret ?_
    obtain rfl := Option.some.inj h
    exact post_r (.tuple #[(slSub s10 6 0 (Int.toNat x23)), vi 0]) rfl (by kernel_rfl) ⟨(slSub s10 6 0 (Int.toNat x23)), rfl, St.sel H32 [0] (by decide) rfl⟩
  | true =>
    replace h := br_t h
    refine WP.condT (by kernel_rfl) ?_
    refine WP.seq ?_
    refine WP.region ?_
    refine WPI.run 2 ⟨#[s1, vi p3, Z, Z, vn, vi 3, vi t4, Z, s1, vi p3, vi t4, vi t4, vb true, Z, Z, Z, Z, Z, Z, Z, Z, Z, Z, Z, Z, Z, Z, Z, Z, Z, Z, Z, Z], []⟩ w5 (fun K => by kernel_rfl) ?_
    refine WPI.done rfl ?_
    refine then_n ?_
    refine WP.ret ?_
    obtain rfl := Option.some.inj h
    exact then_r (post_r (.tuple #[vn, vi 3]) rfl (by kernel_rfl) ⟨vn, rfl, St.sel (St.nil H7 fTNode 33) [0] (by decide) rfl⟩)
/- tarn/rank.Check -/
def g_rank_Check (fuel : Nat) (p1 : TRank) : Option Int :=
  jn (fun (c13 : Bool) => br c13 (some 1) (some 0)) fun K14 => lt (decide (p1.Dist < ((-4096)))) fun c15 => br c15 (K14 true) (lt (decide (p1.Dist > 0)) fun c16 => K14 c16)
theorem g_rank_Check_w (fuel : Nat) (p1 : TRank) (r : Int) (h : g_rank_Check fuel p1 = some r) (w0 : World) :
    Ret Try.prog 47 #[TRank.val p1] w0 (fun v w' => v = vi r ∧ St no w0 w' []) := by
  unfold g_rank_Check at h
  refine ret_of_wp Try.func47 rfl #[TRank.val p1, Z, Z, Z, Z, Z, Z, Z, Z, Z, Z] (by kernel_rfl) ?_
  have H0 := St.start w0
  refine WP.seq ?_
  refine WP.region ?_
  refine WPI.op rfl (Op1.box H0 (TRank.cs p1).toArray (by kernel_rfl) 31 (.tmp 0) rfl (by kernel_rfl) (fun b2 w4 H5 => ?_))
  refine WPI.run 1 ⟨#[TRank.val p1, vp b2 0, vi 0, Z, Z, Z, Z, Z, Z, Z, Z], []⟩ w4 (fun K => by kernel_rfl) ?_
  refine WPI.done rfl ?_
  refine then_n ?_
  refine WP.seq ?_
  refine WP.seq ?_
  obtain ⟨K14, hK14, h⟩ := jn_some h
  refine WP.onlyN (fun a w => ∃ (c13 : Bool) (g6 : Value) (g7 : Value) (g8 : Value) (g9 : Value) (g10 : Value) (g11 : Value) (g12 : Value), a = ⟨#[TRank.val p1, vp b2 0, vi 0, g6, g7, g8, g9, g10, g11, g12, vb c13], []⟩ ∧ St no w0 w [Box b2 (TRank.cs p1).toArray 31] ∧ K14 c13 = some r) ?_ ?_
  · skip
    refine WP.region ?_
    refine WPI.run 1 ⟨#[TRank.val p1, vp b2 0, vi 0, vp b2 0, Z, Z, Z, Z, Z, Z, Z], []⟩ w4 (fun K => by kernel_rfl) ?_
    refine WPI.value (v := vi p1.Dist) rfl (by kernel_rfl) (ev_loadBox H5 0 rfl 3 (.tmp 3) 0 (vi p1.Dist) rfl (by kernel_rfl) (by kernel_rfl)) ?_
    obtain ⟨c15, hc15, h⟩ := lt_some h
    refine WPI.run 2 ⟨#[TRank.val p1, vp b2 0, vi 0, vp b2 0, vi p1.Dist, vb c15, vb c15, Z, Z, Z, Z], []⟩ w4 (fun K => by subst hc15; kernel_rfl) ?_
    cases c15 with
    | false =>
      replace h := br_f h
      refine WPI.run 1 ⟨#[TRank.val p1, vp b2 0, vi 0, vp b2 0, vi p1.Dist, vb false, vb false, vp b2 0, Z, Z, Z], []⟩ w4 (fun K => by kernel_rfl) ?_
      refine WPI.value (v := vi p1.Dist) rfl (by kernel_rfl) (ev_loadBox H5 0 rfl 3 (.tmp 7) 0 (vi p1.Dist) rfl (by kernel_rfl) (by kernel_rfl)) ?_
      obtain ⟨c16, hc16, h⟩ := lt_some h
      refine WPI.run 2 ⟨#[TRank.val p1, vp b2 0, vi 0, vp b2 0, vi p1.Dist, vb false, vb false, vp b2 0, vi p1.Dist, vb c16, vb c16], []⟩ w4 (fun K => by subst hc16; kernel_rfl) ?_
      refine WPI.done rfl ?_
      exact ⟨c16, _, _, _, _, _, _, _, rfl, St.sel H5 [0] (by decide) rfl, h⟩
    | true =>
      replace h := br_t h
      refine WPI.run 4 ⟨#[TRank.val p1, vp b2 0, vi 0, vp b2 0, vi p1.Dist, vb true, vb true, Z, Z, Z, vb true], []⟩ w4 (fun K => by kernel_rfl) ?_
      refine WPI.done rfl ?_
      exact ⟨true, _, _, _, _, _, _, _, rfl, St.sel H5 [0] (by decide) rfl, h⟩
  · rintro a w ⟨c13, g6, g7, g8, g9, g10, g11, g12, rfl, H, h⟩
    subst hK14
    obtain ⟨w17, rfl⟩ : ∃ x, x = w := ⟨_, rfl⟩
    have H18 := H; clear H
    refine then_n ?_
    cases c13 with
    | false =>
      replace h := br_f h
      refine WP.condF (by kernel_rfl) ?_
      refine WP.skip ?_
      refine then_n ?_
      refine WP.seq ?_
      refine WP.region ?_
      refine WPI.run 1 ⟨#[TRank.val p1, vp b2 0, vi 0, g6, g7, g8, g9, g10, g11, g12, vb false], []⟩ w17 (fun K => by kernel_rfl) ?_
      refine WPI.done rfl ?_
      refine then_n ?_
      refine WP.ret ?_
      obtain rfl := Option.some.inj h
      exact post_r (vi 0) rfl (by kernel_rfl) ⟨rfl, St.sel H18 [] (by decide) rfl⟩
    | true =>
      replace h := br_t h
      refine WP.condT (by kernel_rfl) ?_
      refine WP.seq ?_
      refine WP.region ?_
      refine WPI.run 1 ⟨#[TRank.val p1, vp b2 0, vi 1, g6, g7, g8, g9, g10, g11, g12, vb true], []⟩ w17 (fun K => by kernel_rfl) ?_
      refine WPI.done rfl ?_
      refine then_n ?_
      refine WP.ret ?_
      obtain rfl := Option.some.inj h
      exact then_r (post_r (vi 1) rfl (by kernel_rfl) ⟨rfl, St.sel H18 [] (by decide) rfl⟩)
/- tarn/heap.may -/
def g_heap_may (fuel : Nat) (p1 : TNode) : Option Bool :=
  jn (fun (c6 : Bool) => some c6) fun K21 => lt (decide (p1.Acct ≥ 0)) fun c22 => br c22 (lt (decide (p1.Acct < 8)) fun c23 => br c23 (bd (g_rank_Check fuel p1.Rank) fun t24 => lt (t24 == 0) fun c28 => K21 c28) (K21 false)) (K21 false)
theorem g_heap_may_w (fuel : Nat) (p1 : TNode) (r : Bool) (h : g_heap_may fuel p1 = some r) (w0 : World) :
    Ret Try.prog 33 #[TNode.val p1] w0 (fun v w' => v = vb r ∧ St no w0 w' []) := by
  unfold g_heap_may at h
  refine ret_of_wp Try.func33 rfl #[TNode.val p1, Z, Z, Z, Z, Z, Z, Z, Z, Z, Z, Z, Z, Z, Z, Z, Z] (by kernel_rfl) ?_
  have H0 := St.start w0
  refine WP.seq ?_
  refine WP.region ?_
  refine WPI.op rfl (Op1.box H0 (TNode.cs p1).toArray (by kernel_rfl) 33 (.tmp 0) rfl (by kernel_rfl) (fun b2 w4 H5 => ?_))
  refine WPI.run 1 ⟨#[TNode.val p1, vp b2 0, vb false, Z, Z, Z, Z, Z, Z, Z, Z, Z, Z, Z, Z, Z, Z], []⟩ w4 (fun K => by kernel_rfl) ?_
  refine WPI.done rfl ?_
  refine then_n ?_
  refine WP.seq ?_
  obtain ⟨K21, hK21, h⟩ := jn_some h
  refine WP.onlyN (fun a w => ∃ (c6 : Bool) (g7 : Value) (g8 : Value) (g9 : Value) (g10 : Value) (g11 : Value) (g12 : Value) (g13 : Value) (g14 : Value) (g15 : Value) (g16 : Value) (g17 : Value) (g18 : Value) (g19 : Value) (g20 : Value), a = ⟨#[TNode.val p1, vp b2 0, vb c6, g7, g8, g9, g10, g11, g12, g13, g14, g15, g16, g17, g18, g19, g20], []⟩ ∧ St no w0 w [Box b2 (TNode.cs p1).toArray 33] ∧ K21 c6 = some r) ?_ ?_
  · skip
    refine WP.region ?_
    refine WPI.run 1 ⟨#[TNode.val p1, vp b2 0, vb false, vp b2 0, Z, Z, Z, Z, Z, Z, Z, Z, Z, Z, Z, Z, Z], []⟩ w4 (fun K => by kernel_rfl) ?_
    refine WPI.value (v := vi p1.Acct) rfl (by kernel_rfl) (ev_loadBox H5 0 rfl 3 (.tmp 3) 0 (vi p1.Acct) rfl (by kernel_rfl) (by kernel_rfl)) ?_
    obtain ⟨c22, hc22, h⟩ := lt_some h
    refine WPI.run 2 ⟨#[TNode.val p1, vp b2 0, vb false, vp b2 0, vi p1.Acct, vb c22, vb c22, Z, Z, Z, Z, Z, Z, Z, Z, Z, Z], []⟩ w4 (fun K => by subst hc22; kernel_rfl) ?_
    cases c22 with
    | false =>
      replace h := br_f h
      refine WPI.run 11 ⟨#[TNode.val p1, vp b2 0, vb false, vp b2 0, vi p1.Acct, vb false, vb false, Z, Z, Z, vb false, vb false, Z, Z, Z, Z, vb false], []⟩ w4 (fun K => by kernel_rfl) ?_
      refine WPI.done rfl ?_
      exact ⟨false, _, _, _, _, _, _, _, _, _, _, _, _, _, _, rfl, St.sel H5 [0] (by decide) rfl, h⟩
    | true =>
      replace h := br_t h
      refine WPI.run 1 ⟨#[TNode.val p1, vp b2 0, vb false, vp b2 0, vi p1.Acct, vb true, vb true, vp b2 0, Z, Z, Z, Z, Z, Z, Z, Z, Z], []⟩ w4 (fun K => by kernel_rfl) ?_
      refine WPI.value (v := vi p1.Acct) rfl (by kernel_rfl) (ev_loadBox H5 0 rfl 3 (.tmp 7) 0 (vi p1.Acct) rfl (by kernel_rfl) (by kernel_rfl)) ?_
      obtain ⟨c23, hc23, h⟩ := lt_some h
      refine WPI.run 3 ⟨#[TNode.val p1, vp b2 0, vb false, vp b2 0, vi p1.Acct, vb true, vb true, vp b2 0, vi p1.Acct, vb c23, vb c23, vb c23, Z, Z, Z, Z, Z], []⟩ w4 (fun K => by subst hc23; kernel_rfl) ?_
      cases c23 with
      | false =>
        replace h := br_f h
        refine WPI.run 6 ⟨#[TNode.val p1, vp b2 0, vb false, vp b2 0, vi p1.Acct, vb true, vb true, vp b2 0, vi p1.Acct, vb false, vb false, vb false, Z, Z, Z, Z, vb false], []⟩ w4 (fun K => by kernel_rfl) ?_
        refine WPI.done rfl ?_
        exact ⟨false, _, _, _, _, _, _, _, _, _, _, _, _, _, _, rfl, St.sel H5 [0] (by decide) rfl, h⟩
      | true =>
        replace h := br_t h
        refine WPI.run 1 ⟨#[TNode.val p1, vp b2 0, vb false, vp b2 0, vi p1.Acct, vb true, vb true, vp b2 0, vi p1.Acct, vb true, vb true, vb true, vp b2 1, Z, Z, Z, Z], []⟩ w4 (fun K => by kernel_rfl) ?_
        refine WPI.value (v := TRank.val p1.Rank) rfl (by kernel_rfl) (ev_loadBox H5 0 rfl 31 (.tmp 12) 1 (TRank.val p1.Rank) rfl (by kernel_rfl) (by kernel_rfl)) ?_
        obtain ⟨t24, ht24, h⟩ := bd_some h
        refine WPI.run 0 ⟨#[TNode.val p1, vp b2 0, vb false, vp b2 0, vi p1.Acct, vb true, vb true, vp b2 0, vi p1.Acct, vb true, vb true, vb true, vp b2 1, TRank.val p1.Rank, Z, Z, Z], []⟩ w4 (fun K => by kernel_rfl) ?_
        refine WPI.op rfl (Op1.call (by kernel_rfl) (by kernel_rfl) (g_rank_Check_w fuel p1.Rank t24 ht24 _) ?_)
        rintro _ w25 ⟨rfl, Hc26⟩
        have H27 := St.call0' H5 Hc26
        clear H5 Hc26
        obtain ⟨c28, hc28, h⟩ := lt_some h
        refine WPI.run 3 ⟨#[TNode.val p1, vp b2 0, vb c28, vp b2 0, vi p1.Acct, vb true, vb true, vp b2 0, vi p1.Acct, vb true, vb true, vb true, vp b2 1, TRank.val p1.Rank, vi t24, vb c28, vb c28], []⟩ w25 (fun K => by subst hc28; kernel_rfl) ?_
        refine WPI.done rfl ?_
        exact ⟨c28, _, _, _, _, _, _, _, _, _, _, _, _, _, _, rfl, St.sel H27 [0] (by decide) rfl, h⟩
  · rintro a w ⟨c6, g7, g8, g9, g10, g11, g12, g13, g14, g15, g16, g17, g18, g19, g20, rfl, H, h⟩
    subst hK21
    obtain ⟨w29, rfl⟩ : ∃ x, x = w := ⟨_, rfl⟩
    have H30 := H; clear H
    refine then_n ?_
    refine WP.ret ?_
    obtain rfl := Option.some.inj h
    exact post_r (vb c6) rfl (by kernel_rfl) ⟨rfl, St.sel H30 [] (by decide) rfl⟩
/- slices.IndexFunc[[]tarn/api.Node,tarn/api.Node] -/
def g_slices_IndexFunc_api_Node_api_Node_l1 (l2 : List TNode) (q4 : TNode → Option Bool) (K19 : Option Int) (fuel : Nat) : Nat → Int → Option Int
  | 0, _ => none
  | n + 1, x22 => lt (decide (x22 < (((List.length l2 : Nat) : Int)))) fun c35 => br c35 (gd ((0 : Int) ≤ x22 ∧ x22 < ((List.length l2 : Nat) : Int)) <| bd (l2[Int.toNat x22]?) fun x37 => bd (q4 x37) fun t38 => br t38 (some x22) (lt (wr .i64 (x22 + 1)) fun x42 => g_slices_IndexFunc_api_Node_api_Node_l1 l2 q4 K19 fuel n x42)) (K19)
def g_slices_IndexFunc_api_Node_api_Node (fuel : Nat) (l2 : List TNode) (q4 : TNode → Option Bool) : Option Int :=
  jn (some ((-1))) fun K19 => g_slices_IndexFunc_api_Node_api_Node_l1 l2 q4 K19 fuel fuel 0
theorem g_slices_IndexFunc_api_Node_api_Node_w (fuel : Nat) (s1 : Value) (l2 : List TNode) (f3 : Value) (q4 : TNode → Option Bool) (C5 : World → Prop) (r : Int) (h : g_slices_IndexFunc_api_Node_api_Node fuel l2 q4 = some r) (w0 : World) (hs1 : Rd fTNode (hp no w0) s1 l2) (hf3 : FnOk Try.prog fTNode fBool C5 f3 q4) (hcf3 : C5 w0) :
    Ret Try.prog 44 #[s1, f3] w0 (fun v w' => v = vi r ∧ St no w0 w' []) := by
  unfold g_slices_IndexFunc_api_Node_api_Node at h
  refine ret_of_wp Try.func44 rfl #[s1, f3, Z, Z, Z, Z, Z, Z, Z, Z, Z, Z, Z, Z, Z, Z, Z, Z, Z] (by kernel_rfl) ?_
  have H0 := St.start w0
  refine WP.seq ?_
  refine WP.region ?_
  refine WPI.run 1 ⟨#[s1, f3, Z, Z, vi 0, Z, Z, Z, Z, Z, Z, Z, Z, Z, Z, Z, Z, Z, Z], []⟩ w0 (fun K => by kernel_rfl) ?_
  refine WPI.done rfl ?_
  refine then_n ?_
  refine WP.seq ?_
  refine WP.seq ?_
  refine WP.region ?_
  refine WPI.run 1 ⟨#[s1, f3, Z, Z, vi 0, Z, s1, Z, Z, Z, Z, Z, Z, Z, Z, Z, Z, Z, Z], []⟩ w0 (fun K => by kernel_rfl) ?_
  refine WPI.value (v := vi (((List.length l2 : Nat) : Int))) rfl (by kernel_rfl) (ev_len (Rd.sl hs1) 22 (.tmp 6) 33 6 48 rfl (by kernel_rfl) (by kernel_rfl)) ?_
  refine WPI.run 1 ⟨#[s1, f3, Z, Z, vi 0, Z, s1, vi (((List.length l2 : Nat) : Int)), vi 0, Z, Z, Z, Z, Z, Z, Z, Z, Z, Z], []⟩ w0 (fun K => by kernel_rfl) ?_
  refine WPI.done rfl ?_
  refine then_n ?_
  obtain ⟨K19, hK19, h⟩ := jn_some h
  refine WP.blockJ (fun a w => ∃ (g6 : Value) (g7 : Value) (g8 : Value) (g9 : Value) (g10 : Value) (g11 : Value) (g12 : Value) (g13 : Value) (g14 : Value) (g15 : Value) (g16 : Value) (g17 : Value) (g18 : Value), a = ⟨#[s1, f3, Z, Z, g6, g7, s1, vi (((List.length l2 : Nat) : Int)), g8, g9, g10, g11, g12, g13, g14, g15, g16, g17, g18], []⟩ ∧ St no w0 w [] ∧ K19 = some r) ?_ ?_
  · skip
    refine WP.loop (fun n a w => ∃ (x22 : Int) (g20 : Value) (g21 : Value) (g23 : Value) (g24 : Value) (g25 : Value) (g26 : Value) (g27 : Value) (g28 : Value) (g29 : Value) (g30 : Value) (g31 : Value) (g32 : Value), a = ⟨#[s1, f3, Z, Z, g20, g21, s1, vi (((List.length l2 : Nat) : Int)), vi x22, g23, g24, g25, g26, g27, g28, g29, g30, g31, g32], []⟩ ∧ St no w0 w [] ∧ g_slices_IndexFunc_api_Node_api_Node_l1 l2 q4 K19 fuel n x22 = some r) fuel ⟨0, _, _, _, _, _, _, _, _, _, _, _, _, rfl, St.sel H0 [] (by decide) rfl, h⟩ ?_
    rintro n a w ⟨x22, g20, g21, g23, g24, g25, g26, g27, g28, g29, g30, g31, g32, rfl, H, h⟩
    cases n with
    | zero => rw [g_slices_IndexFunc_api_Node_api_Node_l1] at h; cases h
    | succ n =>
      rw [g_slices_IndexFunc_api_Node_api_Node_l1] at h
      obtain ⟨w33, rfl⟩ : ∃ x, x = w := ⟨_, rfl⟩
      have H34 := H; clear H
      refine WP.seq ?_
      refine WP.region ?_
      obtain ⟨c35, hc35, h⟩ := lt_some h
      refine WPI.run 1 ⟨#[s1, f3, Z, Z, g20, g21, s1, vi (((List.length l2 : Nat) : Int)), vi x22, vb c35, g24, g25, g26, g27, g28, g29, g30, g31, g32], []⟩ w33 (fun K => by subst hc35; kernel_rfl) ?_
      refine WPI.done rfl ?_
      refine then_n ?_
      refine WP.seq ?_
      cases c35 with
      | false =>
        replace h := br_f h
        refine WP.condF (by kernel_rfl) ?_
        refine WP.exit ?_
        exact then_e (then_e (inb_e (then_n ⟨_, _, _, _, _, _, _, _, _, _, _, _, _, rfl, St.sel H34 [] (by decide) rfl, h⟩)))
      | true =>
        replace h := br_t h
        refine WP.condT (by kernel_rfl) ?_
        refine WP.skip ?_
        refine then_n ?_
        refine WP.seq ?_
        refine WP.block ?_
        refine WP.seq ?_
        refine WP.region ?_
        refine WPI.run 2 ⟨#[s1, f3, Z, Z, g20, vi x22, s1, vi (((List.length l2 : Nat) : Int)), vi x22, vb true, vi x22, g25, g26, g27, g28, g29, g30, g31, g32], []⟩ w33 (fun K => by kernel_rfl) ?_
        refine WPI.done rfl ?_
        refine then_n ?_
        refine WP.seq ?_
        refine WP.region ?_
        obtain ⟨hg36, h⟩ := gd_some h
        refine WPI.run 3 ⟨#[s1, f3, Z, Z, g20, vi x22, s1, vi (((List.length l2 : Nat) : Int)), vi x22, vb true, vi x22, f3, s1, vi x22, g28, g29, g30, g31, g32], []⟩ w33 (fun K => by kernel_rfl) ?_
        refine WPI.value (v := va (slAt s1 6 (Int.toNat x22))) rfl (by kernel_rfl) (ev_index (Rd.sl hs1) 22 (.tmp 12) (.tmp 13) 33 6 48 .i64 x22 rfl (by kernel_rfl) (by kernel_rfl) (by kernel_rfl) hg36) ?_
        obtain ⟨x37, hx37, h⟩ := bd_some h
        refine WPI.run 0 ⟨#[s1, f3, Z, Z, g20, vi x22, s1, vi (((List.length l2 : Nat) : Int)), vi x22, vb true, vi x22, f3, s1, vi x22, va (slAt s1 6 (Int.toNat x22)), g29, g30, g31, g32], []⟩ w33 (fun K => by kernel_rfl) ?_
        refine WPI.value (v := TNode.val x37) rfl (by kernel_rfl) (ev_loadEl (F := fTNode) hs1 (St.hp_le H34) hx37 33 (.tmp 14) 0 (TNode.val x37) rfl (by kernel_rfl) (by kernel_rfl)) ?_
        obtain ⟨t38, ht38, h⟩ := bd_some h
        refine WPI.run 0 ⟨#[s1, f3, Z, Z, g20, vi x22, s1, vi (((List.length l2 : Nat) : Int)), vi x22, vb true, vi x22, f3, s1, vi x22, va (slAt s1 6 (Int.toNat x22)), TNode.val x37, g30, g31, g32], []⟩ w33 (fun K => by kernel_rfl) ?_
        refine WPI.op rfl (FnOk.op1 hf3 hcf3 H34 ht38 (by kernel_rfl) rfl (by kernel_rfl) (by kernel_rfl) ?_)
        rintro _ w39 ⟨rfl, Hc40⟩
        have H41 := St.call0' H34 Hc40
        clear H34 Hc40
        refine WPI.run 0 ⟨#[s1, f3, Z, Z, g20, vi x22, s1, vi (((List.length l2 : Nat) : Int)), vi x22, vb true, vi x22, f3, s1, vi x22, va (slAt s1 6 (Int.toNat x22)), TNode.val x37, vb t38, g31, g32], []⟩ w39 (fun K => by kernel_rfl) ?_
        refine WPI.done rfl ?_
        refine then_n ?_
        cases t38 with
        | false =>
          replace h := br_f h
          refine WP.condF (by kernel_rfl) ?_
          refine WP.skip ?_
          refine inb_n (then_n ?_)
          refine WP.region ?_
          obtain ⟨x42, hx42, h⟩ := lt_some h
          refine WPI.run 2 ⟨#[s1, f3, Z, Z, g20, vi x22, s1, vi (((List.length l2 : Nat) : Int)), vi x42, vb true, vi x22, f3, s1, vi x22, va (slAt s1 6 (Int.toNat x22)), TNode.val x37, vb false, g31, vi x42], []⟩ w39 (fun K => by subst hx42; kernel_rfl) ?_
          refine WPI.done rfl ?_
          exact then_n ⟨n, Nat.lt_succ_self n, x42, _, _, _, _, _, _, _, _, _, _, _, _, rfl, St.sel H41 [] (by decide) rfl, h⟩
        | true =>
          replace h := br_t h
          refine WP.condT (by kernel_rfl) ?_
          refine WP.seq ?_
          refine WP.region ?_
          refine WPI.run 2 ⟨#[s1, f3, Z, Z, vi x22, vi x22, s1, vi (((List.length l2 : Nat) : Int)), vi x22, vb true, vi x22, f3, s1, vi x22, va (slAt s1 6 (Int.toNat x22)), TNode.val x37, vb true, vi x22, g32], []⟩ w39 (fun K => by kernel_rfl) ?_
          refine WPI.done rfl ?_
          refine then_n ?_
          refine WP.ret ?_
          obtain rfl := Option.some.inj h
          exact inb_r (then_r (then_r (inb_r (then_r (then_r (post_r (vi x22) rfl (by kernel_rfl) ⟨rfl, St.sel H41 [] (by decide) rfl⟩))))))
  · rintro a w ⟨g6, g7, g8, g9, g10, g11, g12, g13, g14, g15, g16, g17, g18, rfl, H, h⟩
    subst hK19
    obtain ⟨w43, rfl⟩ : ∃ x, x = w := ⟨_, rfl⟩
    have H44 := H; clear H
    refine then_n ?_
    refine WP.seq ?_
    refine WP.region ?_
    refine WPI.run 1 ⟨#[s1, f3, Z, Z, vi ((-1)), g7, s1, vi (((List.length l2 : Nat) : Int)), g8, g9, g10, g11, g12, g13, g14, g15, g16, g17, g18], []⟩ w43 (fun K => by kernel_rfl) ?_
    refine WPI.done rfl ?_
    refine then_n ?_
    refine WP.ret ?_
    obtain rfl := Option.some.inj h
    exact post_r (vi ((-1))) rfl (by kernel_rfl) ⟨rfl, St.sel H44 [] (by decide) rfl⟩
end Go.Proofs
