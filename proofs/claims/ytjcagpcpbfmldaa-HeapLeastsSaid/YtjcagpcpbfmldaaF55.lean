import Derived.Test.YtjcagpcpbfmldaaGw
import Derived.Test.YtjcagpcpbfmldaaProg
import Derived.Test.YtjcagpcpbfmldaaT
import Derived.Test.YtjcagpcpbfmldaaF22
set_option linter.unusedVariables false
set_option linter.unusedSimpArgs false
set_option maxRecDepth 100000
set_option maxHeartbeats 4000000
namespace Go.Proofs
open Gw Go.RowKit
/- tarn/tarnref12.sinks -/
def g_tarnref12_sinks_l1 (fuel : Nat) : Nat → (List TNode) → Int → Option (List TNode)
  | 0, _, _ => none
  | n + 1, l6, x7 => jn (fun (l63 : List TNode) (x64 : Int) => g_tarnref12_sinks_l1 fuel n l63 x64) fun K117 => lt (wr .i64 (2 * x7)) fun x118 => lt (wr .i64 (x118 + 1)) fun x119 => lt (decide (x119 ≥ (((List.length l6 : Nat) : Int)))) fun c120 => br c120 (some l6) (jn (fun (x121 : Int) => gd ((0 : Int) ≤ x121 ∧ x121 < ((List.length l6 : Nat) : Int)) <| bd (l6[Int.toNat x121]?) fun x180 => gd ((0 : Int) ≤ x7 ∧ x7 < ((List.length l6 : Nat) : Int)) <| bd (l6[Int.toNat x7]?) fun x182 => bd (g_tarnref12_Below fuel x180 x182) fun t183 => lt (!t183) fun c184 => br c184 (some l6) (jn (fun (l187 : List TNode) => K117 l187 x121) fun K202 => gd ((0 : Int) ≤ x121 ∧ x121 < ((List.length l6 : Nat) : Int)) <| bd (l6[Int.toNat x121]?) fun x205 => gd ((0 : Int) ≤ x7 ∧ x7 < ((List.length l6 : Nat) : Int)) <| bd (l6[Int.toNat x7]?) fun x207 => gd ((0 : Int) ≤ x7 ∧ x7 < ((List.length l6 : Nat) : Int)) <| lt (List.set l6 (Int.toNat x7) x205) fun l209 => gd ((0 : Int) ≤ x121 ∧ x121 < ((List.length l6 : Nat) : Int)) <| lt (List.set l209 (Int.toNat x121) x207) fun l211 => K202 l211)) fun K141 => jn (fun (c158 : Bool) => br c158 (lt (wr .i64 (x119 + 1)) fun x175 => K141 x175) (K141 x119)) fun K159 => lt (wr .i64 (x119 + 1)) fun x160 => lt (decide (x160 < (((List.length l6 : Nat) : Int)))) fun c161 => br c161 (lt (wr .i64 (x119 + 1)) fun x164 => gd ((0 : Int) ≤ x164 ∧ x164 < ((List.length l6 : Nat) : Int)) <| bd (l6[Int.toNat x164]?) fun x166 => gd ((0 : Int) ≤ x119 ∧ x119 < ((List.length l6 : Nat) : Int)) <| bd (l6[Int.toNat x119]?) fun x168 => bd (g_tarnref12_Below fuel x166 x168) fun t169 => K159 t169) (K159 false))
def g_tarnref12_sinks (fuel : Nat) (l2 : List TNode) (p4 : Int) : Option (List TNode) :=
  g_tarnref12_sinks_l1 fuel fuel l2 p4
theorem g_tarnref12_sinks_w (fuel : Nat) (s1 : Value) (l2 : List TNode) (p4 : Int) (r : List TNode) (h : g_tarnref12_sinks fuel l2 p4 = some r) (w0 : World) (hm : (Own fTNode 33 s1 l2).holds w0) :
    Ret Try.prog 55 #[s1, vi p4] w0 (fun v w' => v = .tuple #[] ∧ St (Own fTNode 33 s1 l2).fp w0 w' [Own fTNode 33 s1 r]) := by
  unfold g_tarnref12_sinks at h
  refine ret_of_wp Try.func55 rfl #[s1, vi p4, Z, Z, Z, Z, Z, Z, Z, Z, Z, Z, Z, Z, Z, Z, Z, Z, Z, Z, Z, Z, Z, Z, Z, Z, Z, Z, Z, Z, Z, Z, Z, Z, Z, Z, Z, Z, Z, Z, Z, Z, Z, Z, Z, Z, Z, Z, Z, Z, Z, Z, Z, Z, Z, Z] (by kernel_rfl) ?_
  have H0 := St.start1 hm
  have sf5 := Own.isSl (St.get H0 0 rfl)
  refine WP.block ?_
  refine WP.loop (fun n a w => ∃ (l6 : List TNode) (x7 : Int) (g8 g9 g10 g11 g12 g13 g14 g15 g16 g17 g18 g19 g20 g21 g22 g23 g24 g25 g26 g27 g28 g29 g30 g31 g32 g33 g34 g35 g36 g37 g38 g39 g40 g41 g42 g43 g44 g45 g46 g47 g48 g49 g50 g51 g52 g53 g54 g55 g56 g57 g58 g59 : Value), a = ⟨#[s1, vi x7, Z, Z, g8, g9, g10, g11, g12, g13, g14, g15, g16, g17, g18, g19, g20, g21, g22, g23, g24, g25, g26, g27, g28, g29, g30, g31, g32, g33, g34, g35, g36, g37, g38, g39, g40, g41, g42, g43, g44, g45, g46, g47, g48, g49, g50, g51, g52, g53, g54, g55, g56, g57, g58, g59], []⟩ ∧ St (Own fTNode 33 s1 l2).fp w0 w [Own fTNode 33 s1 l6] ∧ g_tarnref12_sinks_l1 fuel n l6 x7 = some r) fuel ⟨l2, p4, _, _, _, _, _, _, _, _, _, _, _, _, _, _, _, _, _, _, _, _, _, _, _, _, _, _, _, _, _, _, _, _, _, _, _, _, _, _, _, _, _, _, _, _, _, _, _, _, _, _, _, _, rfl, St.sel H0 [0] (by decide) rfl, h⟩ ?_
  rintro n a w ⟨l6, x7, g8, g9, g10, g11, g12, g13, g14, g15, g16, g17, g18, g19, g20, g21, g22, g23, g24, g25, g26, g27, g28, g29, g30, g31, g32, g33, g34, g35, g36, g37, g38, g39, g40, g41, g42, g43, g44, g45, g46, g47, g48, g49, g50, g51, g52, g53, g54, g55, g56, g57, g58, g59, rfl, H, h⟩
  cases n with
  | zero => rw [g_tarnref12_sinks_l1] at h; cases h
  | succ n =>
    rw [g_tarnref12_sinks_l1] at h
    obtain ⟨w60, rfl⟩ : ∃ x, x = w := ⟨_, rfl⟩
    have H61 := H; clear H
    have sf62 := Own.isSl (St.get H61 0 rfl)
    obtain ⟨K117, hK117, h⟩ := jn_some h
    refine WP.blockJ (fun a w => ∃ (l63 : List TNode) (x64 : Int) (g65 g66 g67 g68 g69 g70 g71 g72 g73 g74 g75 g76 g77 g78 g79 g80 g81 g82 g83 g84 g85 g86 g87 g88 g89 g90 g91 g92 g93 g94 g95 g96 g97 g98 g99 g100 g101 g102 g103 g104 g105 g106 g107 g108 g109 g110 g111 g112 g113 g114 g115 g116 : Value), a = ⟨#[s1, vi x64, Z, Z, g65, g66, g67, g68, g69, g70, g71, g72, g73, g74, g75, g76, g77, g78, g79, g80, g81, g82, g83, g84, g85, g86, g87, g88, g89, g90, g91, g92, g93, g94, g95, g96, g97, g98, g99, g100, g101, g102, g103, g104, g105, g106, g107, g108, g109, g110, g111, g112, g113, g114, g115, g116], []⟩ ∧ St (Own fTNode 33 s1 l2).fp w0 w [Own fTNode 33 s1 l63] ∧ K117 l63 x64 = some r) ?_ ?_
    · skip
      refine WP.seq ?_
      refine WP.region ?_
      obtain ⟨x118, hx118, h⟩ := lt_some h
      obtain ⟨x119, hx119, h⟩ := lt_some h
      refine WPI.run 4 ⟨#[s1, vi x7, Z, Z, vi x119, vi x7, vi x118, vi x119, g12, g13, g14, g15, g16, g17, g18, g19, g20, g21, g22, g23, g24, g25, g26, g27, g28, g29, g30, g31, g32, g33, g34, g35, g36, g37, g38, g39, g40, g41, g42, g43, g44, g45, g46, g47, g48, g49, g50, g51, g52, g53, g54, g55, g56, g57, g58, g59], []⟩ w60 (fun K => by subst hx119 hx118; kernel_rfl) ?_
      refine WPI.done rfl ?_
      refine then_n ?_
      refine WP.seq ?_
      refine WP.seq ?_
      refine WP.region ?_
      refine WPI.run 2 ⟨#[s1, vi x7, Z, Z, vi x119, vi x7, vi x118, vi x119, vi x119, s1, g14, g15, g16, g17, g18, g19, g20, g21, g22, g23, g24, g25, g26, g27, g28, g29, g30, g31, g32, g33, g34, g35, g36, g37, g38, g39, g40, g41, g42, g43, g44, g45, g46, g47, g48, g49, g50, g51, g52, g53, g54, g55, g56, g57, g58, g59], []⟩ w60 (fun K => by kernel_rfl) ?_
      refine WPI.value (v := vi (((List.length l6 : Nat) : Int))) rfl (by kernel_rfl) (ev_len sf62 22 (.tmp 9) 33 6 48 rfl (by kernel_rfl) (by kernel_rfl)) ?_
      obtain ⟨c120, hc120, h⟩ := lt_some h
      refine WPI.run 1 ⟨#[s1, vi x7, Z, Z, vi x119, vi x7, vi x118, vi x119, vi x119, s1, vi (((List.length l6 : Nat) : Int)), vb c120, g16, g17, g18, g19, g20, g21, g22, g23, g24, g25, g26, g27, g28, g29, g30, g31, g32, g33, g34, g35, g36, g37, g38, g39, g40, g41, g42, g43, g44, g45, g46, g47, g48, g49, g50, g51, g52, g53, g54, g55, g56, g57, g58, g59], []⟩ w60 (fun K => by subst hc120; kernel_rfl) ?_
      refine WPI.done rfl ?_
      refine then_n ?_
      cases c120 with
      | false =>
        replace h := br_f h
        refine WP.condF (by kernel_rfl) ?_
        refine WP.skip ?_
        refine then_n ?_
        obtain ⟨K141, hK141, h⟩ := jn_some h
        refine WP.seqJ (fun a w => ∃ (x121 : Int) (g122 g123 g124 g125 g126 g127 g128 g129 g130 g131 g132 g133 g134 g135 g136 g137 g138 g139 g140 : Value), a = ⟨#[s1, vi x7, Z, Z, vi x121, vi x7, vi x118, vi x119, vi x119, s1, vi (((List.length l6 : Nat) : Int)), vb false, g122, g123, g124, g125, g126, g127, g128, g129, g130, g131, g132, g133, g134, g135, g136, g137, g138, g139, g140, g35, g36, g37, g38, g39, g40, g41, g42, g43, g44, g45, g46, g47, g48, g49, g50, g51, g52, g53, g54, g55, g56, g57, g58, g59], []⟩ ∧ St (Own fTNode 33 s1 l2).fp w0 w [Own fTNode 33 s1 l6] ∧ K141 x121 = some r) ?_ ?_
        · skip
          refine WP.seq ?_
          obtain ⟨K159, hK159, h⟩ := jn_some h
          refine WP.onlyN (fun a w => ∃ (c158 : Bool) (g142 g143 g144 g145 g146 g147 g148 g149 g150 g151 g152 g153 g154 g155 g156 g157 : Value), a = ⟨#[s1, vi x7, Z, Z, vi x119, vi x7, vi x118, vi x119, vi x119, s1, vi (((List.length l6 : Nat) : Int)), vb false, g142, g143, g144, g145, g146, g147, g148, g149, g150, g151, g152, g153, g154, g155, g156, g157, vb c158, g33, g34, g35, g36, g37, g38, g39, g40, g41, g42, g43, g44, g45, g46, g47, g48, g49, g50, g51, g52, g53, g54, g55, g56, g57, g58, g59], []⟩ ∧ St (Own fTNode 33 s1 l2).fp w0 w [Own fTNode 33 s1 l6] ∧ K159 c158 = some r) ?_ ?_
          · skip
            refine WP.quiet (by kernel_rfl) (by kernel_rfl) (by kernel_rfl) (fun w => St (Own fTNode 33 s1 l2).fp w0 w [Own fTNode 33 s1 l6]) (St.drew H61) ?_
            refine WQ.value (v := vi x119) rfl (by kernel_rfl) (fun w _ => by kernel_rfl) ?_
            obtain ⟨x160, hx160, h⟩ := lt_some h
            refine WQ.value (v := vi x160) rfl (by kernel_rfl) (fun w _ => by subst hx160; kernel_rfl) ?_
            refine WQ.value (v := s1) rfl (by kernel_rfl) (fun w _ => by kernel_rfl) ?_
            refine WQ.value (v := vi (((List.length l6 : Nat) : Int))) rfl (by kernel_rfl) (fun w H => ev_len sf62 22 (.tmp 14) 33 6 48 rfl (by kernel_rfl) (by kernel_rfl)) ?_
            obtain ⟨c161, hc161, h⟩ := lt_some h
            refine WQ.value (v := vb c161) rfl (by kernel_rfl) (fun w _ => by subst hc161; kernel_rfl) ?_
            refine WQ.value (v := vb c161) rfl (by kernel_rfl) (fun w _ => by kernel_rfl) ?_
            cases c161 with
            | false =>
              replace h := br_f h
              refine WQ.off rfl (by kernel_rfl) ?_
              refine WQ.off rfl (by kernel_rfl) ?_
              refine WQ.off rfl (by kernel_rfl) ?_
              refine WQ.off rfl (by kernel_rfl) ?_
              refine WQ.off rfl (by kernel_rfl) ?_
              refine WQ.off rfl (by kernel_rfl) ?_
              refine WQ.off rfl (by kernel_rfl) ?_
              refine WQ.off rfl (by kernel_rfl) ?_
              refine WQ.off rfl (by kernel_rfl) ?_
              refine WQ.off rfl (by kernel_rfl) ?_
              refine WQ.value (v := vb false) rfl (by kernel_rfl) (fun w _ => by kernel_rfl) ?_
              refine WQ.frame (a' := ⟨#[s1, vi x7, Z, Z, vi x119, vi x7, vi x118, vi x119, vi x119, s1, vi (((List.length l6 : Nat) : Int)), vb false, vi x119, vi x160, s1, vi (((List.length l6 : Nat) : Int)), vb false, vb false, Z, Z, Z, Z, Z, Z, Z, Z, Z, Z, vb false, g33, g34, g35, g36, g37, g38, g39, g40, g41, g42, g43, g44, g45, g46, g47, g48, g49, g50, g51, g52, g53, g54, g55, g56, g57, g58, g59], []⟩) (by kernel_rfl) ?_
              refine WQ.done rfl ?_
              refine (fun w162 H163 => ?_)
              exact ⟨false, _, _, _, _, _, _, _, _, _, _, _, _, _, _, _, _, rfl, St.sel H163 [0] (by decide) rfl, h⟩
            | true =>
              replace h := br_t h
              refine WQ.value (v := s1) rfl (by kernel_rfl) (fun w _ => by kernel_rfl) ?_
              refine WQ.value (v := vi x119) rfl (by kernel_rfl) (fun w _ => by kernel_rfl) ?_
              obtain ⟨x164, hx164, h⟩ := lt_some h
              refine WQ.value (v := vi x164) rfl (by kernel_rfl) (fun w _ => by subst hx164; kernel_rfl) ?_
              obtain ⟨hg165, h⟩ := gd_some h
              refine WQ.value (v := va (slAt s1 6 (Int.toNat x164))) rfl (by kernel_rfl) (fun w H => ev_index sf62 22 (.tmp 18) (.tmp 20) 33 6 48 .i64 x164 rfl (by kernel_rfl) (by kernel_rfl) (by kernel_rfl) hg165) ?_
              obtain ⟨x166, hx166, h⟩ := bd_some h
              refine WQ.value (v := TNode.val x166) rfl (by kernel_rfl) (fun w H => ev_loadEl (F := fTNode) (St.rd H 0 rfl) (hp_no_le _) hx166 33 (.tmp 21) 0 (TNode.val x166) rfl (by kernel_rfl) (by kernel_rfl)) ?_
              refine WQ.value (v := s1) rfl (by kernel_rfl) (fun w _ => by kernel_rfl) ?_
              refine WQ.value (v := vi x119) rfl (by kernel_rfl) (fun w _ => by kernel_rfl) ?_
              obtain ⟨hg167, h⟩ := gd_some h
              refine WQ.value (v := va (slAt s1 6 (Int.toNat x119))) rfl (by kernel_rfl) (fun w H => ev_index sf62 22 (.tmp 23) (.tmp 24) 33 6 48 .i64 x119 rfl (by kernel_rfl) (by kernel_rfl) (by kernel_rfl) hg167) ?_
              obtain ⟨x168, hx168, h⟩ := bd_some h
              refine WQ.value (v := TNode.val x168) rfl (by kernel_rfl) (fun w H => ev_loadEl (F := fTNode) (St.rd H 0 rfl) (hp_no_le _) hx168 33 (.tmp 25) 0 (TNode.val x168) rfl (by kernel_rfl) (by kernel_rfl)) ?_
              obtain ⟨t169, ht169, h⟩ := bd_some h
              refine WQ.call (v := vb t169) rfl (by kernel_rfl) (fun w => by kernel_rfl) (fun w H => Ret.mono (g_tarnref12_Below_w fuel x166 x168 t169 ht169 _) fun u w1 hu => ⟨hu.1, St.call0' H hu.2⟩) ?_
              refine WQ.value (v := vb t169) rfl (by kernel_rfl) (fun w _ => by kernel_rfl) ?_
              refine WQ.frame (a' := ⟨#[s1, vi x7, Z, Z, vi x119, vi x7, vi x118, vi x119, vi x119, s1, vi (((List.length l6 : Nat) : Int)), vb false, vi x119, vi x160, s1, vi (((List.length l6 : Nat) : Int)), vb true, vb true, s1, vi x119, vi x164, va (slAt s1 6 (Int.toNat x164)), TNode.val x166, s1, vi x119, va (slAt s1 6 (Int.toNat x119)), TNode.val x168, vb t169, vb t169, g33, g34, g35, g36, g37, g38, g39, g40, g41, g42, g43, g44, g45, g46, g47, g48, g49, g50, g51, g52, g53, g54, g55, g56, g57, g58, g59], []⟩) (by kernel_rfl) ?_
              refine WQ.done rfl ?_
              refine (fun w170 H171 => ?_)
              exact ⟨t169, _, _, _, _, _, _, _, _, _, _, _, _, _, _, _, _, rfl, St.sel H171 [0] (by decide) rfl, h⟩
          · rintro a w ⟨c158, g142, g143, g144, g145, g146, g147, g148, g149, g150, g151, g152, g153, g154, g155, g156, g157, rfl, H, h⟩
            subst hK159
            obtain ⟨w172, rfl⟩ : ∃ x, x = w := ⟨_, rfl⟩
            have H173 := H; clear H
            have sf174 := Own.isSl (St.get H173 0 rfl)
            refine then_n ?_
            cases c158 with
            | false =>
              replace h := br_f h
              refine WP.condF (by kernel_rfl) ?_
              refine WP.skip ?_
              exact then_n ⟨x119, _, _, _, _, _, _, _, _, _, _, _, _, _, _, _, _, _, _, _, rfl, St.sel H173 [0] (by decide) rfl, h⟩
            | true =>
              replace h := br_t h
              refine WP.condT (by kernel_rfl) ?_
              refine WP.region ?_
              obtain ⟨x175, hx175, h⟩ := lt_some h
              refine WPI.run 3 ⟨#[s1, vi x7, Z, Z, vi x175, vi x7, vi x118, vi x119, vi x119, s1, vi (((List.length l6 : Nat) : Int)), vb false, g142, g143, g144, g145, g146, g147, g148, g149, g150, g151, g152, g153, g154, g155, g156, g157, vb true, vi x119, vi x175, g35, g36, g37, g38, g39, g40, g41, g42, g43, g44, g45, g46, g47, g48, g49, g50, g51, g52, g53, g54, g55, g56, g57, g58, g59], []⟩ w172 (fun K => by subst hx175; kernel_rfl) ?_
              refine WPI.done rfl ?_
              exact then_n ⟨x175, _, _, _, _, _, _, _, _, _, _, _, _, _, _, _, _, _, _, _, rfl, St.sel H173 [0] (by decide) rfl, h⟩
        · rintro a w ⟨x121, g122, g123, g124, g125, g126, g127, g128, g129, g130, g131, g132, g133, g134, g135, g136, g137, g138, g139, g140, rfl, H, h⟩
          subst hK141
          obtain ⟨w176, rfl⟩ : ∃ x, x = w := ⟨_, rfl⟩
          have H177 := H; clear H
          have sf178 := Own.isSl (St.get H177 0 rfl)
          refine WP.seq ?_
          refine WP.seq ?_
          refine WP.quiet (by kernel_rfl) (by kernel_rfl) (by kernel_rfl) (fun w => St (Own fTNode 33 s1 l2).fp w0 w [Own fTNode 33 s1 l6]) (St.drew H177) ?_
          refine WQ.value (v := s1) rfl (by kernel_rfl) (fun w _ => by kernel_rfl) ?_
          refine WQ.value (v := vi x121) rfl (by kernel_rfl) (fun w _ => by kernel_rfl) ?_
          obtain ⟨hg179, h⟩ := gd_some h
          refine WQ.value (v := va (slAt s1 6 (Int.toNat x121))) rfl (by kernel_rfl) (fun w H => ev_index sf178 22 (.tmp 31) (.tmp 32) 33 6 48 .i64 x121 rfl (by kernel_rfl) (by kernel_rfl) (by kernel_rfl) hg179) ?_
          obtain ⟨x180, hx180, h⟩ := bd_some h
          refine WQ.value (v := TNode.val x180) rfl (by kernel_rfl) (fun w H => ev_loadEl (F := fTNode) (St.rd H 0 rfl) (hp_no_le _) hx180 33 (.tmp 33) 0 (TNode.val x180) rfl (by kernel_rfl) (by kernel_rfl)) ?_
          refine WQ.value (v := s1) rfl (by kernel_rfl) (fun w _ => by kernel_rfl) ?_
          refine WQ.value (v := vi x7) rfl (by kernel_rfl) (fun w _ => by kernel_rfl) ?_
          obtain ⟨hg181, h⟩ := gd_some h
          refine WQ.value (v := va (slAt s1 6 (Int.toNat x7))) rfl (by kernel_rfl) (fun w H => ev_index sf178 22 (.tmp 35) (.tmp 36) 33 6 48 .i64 x7 rfl (by kernel_rfl) (by kernel_rfl) (by kernel_rfl) hg181) ?_
          obtain ⟨x182, hx182, h⟩ := bd_some h
          refine WQ.value (v := TNode.val x182) rfl (by kernel_rfl) (fun w H => ev_loadEl (F := fTNode) (St.rd H 0 rfl) (hp_no_le _) hx182 33 (.tmp 37) 0 (TNode.val x182) rfl (by kernel_rfl) (by kernel_rfl)) ?_
          obtain ⟨t183, ht183, h⟩ := bd_some h
          refine WQ.call (v := vb t183) rfl (by kernel_rfl) (fun w => by kernel_rfl) (fun w H => Ret.mono (g_tarnref12_Below_w fuel x180 x182 t183 ht183 _) fun u w1 hu => ⟨hu.1, St.call0' H hu.2⟩) ?_
          obtain ⟨c184, hc184, h⟩ := lt_some h
          refine WQ.value (v := vb c184) rfl (by kernel_rfl) (fun w _ => by subst hc184; kernel_rfl) ?_
          refine WQ.frame (a' := ⟨#[s1, vi x7, Z, Z, vi x121, vi x7, vi x118, vi x119, vi x119, s1, vi (((List.length l6 : Nat) : Int)), vb false, g122, g123, g124, g125, g126, g127, g128, g129, g130, g131, g132, g133, g134, g135, g136, g137, g138, g139, g140, s1, vi x121, va (slAt s1 6 (Int.toNat x121)), TNode.val x180, s1, vi x7, va (slAt s1 6 (Int.toNat x7)), TNode.val x182, vb t183, vb c184, g45, g46, g47, g48, g49, g50, g51, g52, g53, g54, g55, g56, g57, g58, g59], []⟩) (by kernel_rfl) ?_
          refine WQ.done rfl ?_
          refine (fun w185 H186 => ?_)
          refine then_n ?_
          cases c184 with
          | false =>
            replace h := br_f h
            refine WP.condF (by kernel_rfl) ?_
            refine WP.skip ?_
            refine then_n ?_
            refine WP.seq ?_
            obtain ⟨K202, hK202, h⟩ := jn_some h
            refine WP.draw (by kernel_rfl) (by kernel_rfl) (fun a w => ∃ (l187 : List TNode) (g188 g189 g190 g191 g192 g193 g194 g195 g196 g197 g198 g199 g200 g201 : Value), a = ⟨#[s1, vi x7, Z, Z, vi x121, vi x7, vi x118, vi x119, vi x119, s1, vi (((List.length l6 : Nat) : Int)), vb false, g122, g123, g124, g125, g126, g127, g128, g129, g130, g131, g132, g133, g134, g135, g136, g137, g138, g139, g140, s1, vi x121, va (slAt s1 6 (Int.toNat x121)), TNode.val x180, s1, vi x7, va (slAt s1 6 (Int.toNat x7)), TNode.val x182, vb t183, vb false, g188, g189, g190, g191, g192, g193, g194, g195, g196, g197, g198, g199, g200, g201, g59], []⟩ ∧ St (Own fTNode 33 s1 l2).fp w0 w [Own fTNode 33 s1 l187] ∧ K202 l187 = some r) 16 #[false, false, false, false, false, false, false, false, false, false, false, false, false, false, false, false] (by kernel_rfl) (by kernel_rfl) ?_ ?_
            · skip
              have H203 := St.drew H186
              obtain ⟨hg204, h⟩ := gd_some h
              obtain ⟨x205, hx205, h⟩ := bd_some h
              obtain ⟨hg206, h⟩ := gd_some h
              obtain ⟨x207, hx207, h⟩ := bd_some h
              obtain ⟨hg208, h⟩ := gd_some h
              obtain ⟨l209, hl209, h⟩ := lt_some h
              obtain ⟨hg210, h⟩ := gd_some h
              obtain ⟨l211, hl211, h⟩ := lt_some h
              refine WA.take 0 (v := s1) rfl (by kernel_rfl) (by kernel_rfl) (fun w => by kernel_rfl) (fun w => by kernel_rfl) (l' := #[true, false, false, false, false, false, false, false, false, false, false, false, false, false, false, false]) (by kernel_rfl) ?_
              refine WA.take 1 (v := vi x7) rfl (by kernel_rfl) (by kernel_rfl) (fun w => by kernel_rfl) (fun w => by kernel_rfl) (l' := #[true, true, false, false, false, false, false, false, false, false, false, false, false, false, false, false]) (by kernel_rfl) ?_
              refine WA.take 2 (v := s1) rfl (by kernel_rfl) (by kernel_rfl) (fun w => by kernel_rfl) (fun w => by kernel_rfl) (l' := #[true, true, true, false, false, false, false, false, false, false, false, false, false, false, false, false]) (by kernel_rfl) ?_
              refine WA.take 3 (v := vi x121) rfl (by kernel_rfl) (by kernel_rfl) (fun w => by kernel_rfl) (fun w => by kernel_rfl) (l' := #[true, true, true, true, false, false, false, false, false, false, false, false, false, false, false, false]) (by kernel_rfl) ?_
              refine WA.take 4 (v := s1) rfl (by kernel_rfl) (by kernel_rfl) (fun w => by kernel_rfl) (fun w => by kernel_rfl) (l' := #[true, true, true, true, true, false, false, false, false, false, false, false, false, false, false, false]) (by kernel_rfl) ?_
              refine WA.take 5 (v := vi x121) rfl (by kernel_rfl) (by kernel_rfl) (fun w => by kernel_rfl) (fun w => by kernel_rfl) (l' := #[true, true, true, true, true, true, false, false, false, false, false, false, false, false, false, false]) (by kernel_rfl) ?_
              refine WA.take 6 (v := va (slAt s1 6 (Int.toNat x121))) rfl (by kernel_rfl) (by kernel_rfl) (fun w => ev_index sf178 22 (.tmp 45) (.tmp 46) 33 6 48 .i64 x121 rfl (by kernel_rfl) (by kernel_rfl) (by kernel_rfl) hg204) (fun w => by kernel_rfl) (l' := #[true, true, true, true, true, true, true, false, false, false, false, false, false, false, false, false]) (by kernel_rfl) ?_
              refine WA.take 8 (v := s1) rfl (by kernel_rfl) (by kernel_rfl) (fun w => by kernel_rfl) (fun w => by kernel_rfl) (l' := #[true, true, true, true, true, true, true, false, true, false, false, false, false, false, false, false]) (by kernel_rfl) ?_
              refine WA.take 9 (v := vi x7) rfl (by kernel_rfl) (by kernel_rfl) (fun w => by kernel_rfl) (fun w => by kernel_rfl) (l' := #[true, true, true, true, true, true, true, false, true, true, false, false, false, false, false, false]) (by kernel_rfl) ?_
              refine WA.take 10 (v := va (slAt s1 6 (Int.toNat x7))) rfl (by kernel_rfl) (by kernel_rfl) (fun w => ev_index sf178 22 (.tmp 49) (.tmp 50) 33 6 48 .i64 x7 rfl (by kernel_rfl) (by kernel_rfl) (by kernel_rfl) hg206) (fun w => by kernel_rfl) (l' := #[true, true, true, true, true, true, true, false, true, true, true, false, false, false, false, false]) (by kernel_rfl) ?_
              refine WA.any [7, 11] (by kernel_rfl) (by simp) ?_
              simp only [List.mem_cons, List.not_mem_nil, or_false, forall_eq_or_imp, forall_eq]
              refine ⟨?_, ?_⟩
              · skip
                refine WO.op rfl (Op1.val (v := TNode.val x205) (by kernel_rfl) (ev_loadEl (F := fTNode) (St.rd H203 0 rfl) (hp_no_le _) hx205 33 (.tmp 47) 0 (TNode.val x205) rfl (by kernel_rfl) (by kernel_rfl)) ?_)
                refine WA.lst (l := #[true, true, true, true, true, true, true, true, true, true, true, false, false, false, false, false]) (by kernel_rfl) ?_
                refine WA.any [11] (by kernel_rfl) (by simp) ?_
                simp only [List.mem_singleton, forall_eq]
                refine WO.op rfl (Op1.val (v := TNode.val x207) (by kernel_rfl) (ev_loadEl (F := fTNode) (St.rd H203 0 rfl) (hp_no_le _) hx207 33 (.tmp 51) 0 (TNode.val x207) rfl (by kernel_rfl) (by kernel_rfl)) ?_)
                refine WA.lst (l := #[true, true, true, true, true, true, true, true, true, true, true, true, false, false, false, false]) (by kernel_rfl) ?_
                refine WA.take 12 (v := va (slAt s1 6 (Int.toNat x7))) rfl (by kernel_rfl) (by kernel_rfl) (fun w => ev_index sf178 22 (.tmp 41) (.tmp 42) 33 6 48 .i64 x7 rfl (by kernel_rfl) (by kernel_rfl) (by kernel_rfl) hg208) (fun w => by kernel_rfl) (l' := #[true, true, true, true, true, true, true, true, true, true, true, true, true, false, false, false]) (by kernel_rfl) ?_
                refine WA.any [13] (by kernel_rfl) (by simp) ?_
                simp only [List.mem_singleton, forall_eq]
                refine WO.op rfl (Op1.storeOwn H203 0 rfl (by kernel_rfl) 33 (.tmp 53) (.tmp 48) (Int.toNat x7) x205 true rfl (by kernel_rfl) (by kernel_rfl) (by kernel_rfl) (idx_lt hg208) (fun w212 H213 => ?_))
                rw [← hl209] at H213
                clear H203
                refine WA.lst (l := #[true, true, true, true, true, true, true, true, true, true, true, true, true, true, false, false]) (by kernel_rfl) ?_
                refine WA.take 14 (v := va (slAt s1 6 (Int.toNat x121))) rfl (by kernel_rfl) (by kernel_rfl) (fun w => ev_index sf178 22 (.tmp 43) (.tmp 44) 33 6 48 .i64 x121 rfl (by kernel_rfl) (by kernel_rfl) (by kernel_rfl) hg210) (fun w => by kernel_rfl) (l' := #[true, true, true, true, true, true, true, true, true, true, true, true, true, true, true, false]) (by kernel_rfl) ?_
                refine WA.any [15] (by kernel_rfl) (by simp) ?_
                simp only [List.mem_singleton, forall_eq]
                refine WO.op rfl (Op1.storeOwn H213 0 rfl (by kernel_rfl) 33 (.tmp 54) (.tmp 52) (Int.toNat x121) x207 true rfl (by kernel_rfl) (by kernel_rfl) (by kernel_rfl) (by simp only [hl209, List.length_set]; exact idx_lt hg210) (fun w214 H215 => ?_))
                rw [← hl211] at H215
                clear H213
                refine WA.lst (l := #[true, true, true, true, true, true, true, true, true, true, true, true, true, true, true, true]) (by kernel_rfl) ?_
                refine WA.done (by kernel_rfl) ?_
                exact ⟨l211, s1, (vi x7), s1, (vi x121), s1, (vi x121), (va (slAt s1 6 (Int.toNat x121))), (TNode.val x205), s1, (vi x7), (va (slAt s1 6 (Int.toNat x7))), (TNode.val x207), (va (slAt s1 6 (Int.toNat x7))), (va (slAt s1 6 (Int.toNat x121))), (by kernel_rfl), St.sel H215 [0] (by decide) rfl, h⟩
              · skip
                refine WO.op rfl (Op1.val (v := TNode.val x207) (by kernel_rfl) (ev_loadEl (F := fTNode) (St.rd H203 0 rfl) (hp_no_le _) hx207 33 (.tmp 51) 0 (TNode.val x207) rfl (by kernel_rfl) (by kernel_rfl)) ?_)
                refine WA.lst (l := #[true, true, true, true, true, true, true, false, true, true, true, true, false, false, false, false]) (by kernel_rfl) ?_
                refine WA.any [7] (by kernel_rfl) (by simp) ?_
                simp only [List.mem_singleton, forall_eq]
                refine WO.op rfl (Op1.val (v := TNode.val x205) (by kernel_rfl) (ev_loadEl (F := fTNode) (St.rd H203 0 rfl) (hp_no_le _) hx205 33 (.tmp 47) 0 (TNode.val x205) rfl (by kernel_rfl) (by kernel_rfl)) ?_)
                refine WA.lst (l := #[true, true, true, true, true, true, true, true, true, true, true, true, false, false, false, false]) (by kernel_rfl) ?_
                refine WA.take 12 (v := va (slAt s1 6 (Int.toNat x7))) rfl (by kernel_rfl) (by kernel_rfl) (fun w => ev_index sf178 22 (.tmp 41) (.tmp 42) 33 6 48 .i64 x7 rfl (by kernel_rfl) (by kernel_rfl) (by kernel_rfl) hg208) (fun w => by kernel_rfl) (l' := #[true, true, true, true, true, true, true, true, true, true, true, true, true, false, false, false]) (by kernel_rfl) ?_
                refine WA.any [13] (by kernel_rfl) (by simp) ?_
                simp only [List.mem_singleton, forall_eq]
                refine WO.op rfl (Op1.storeOwn H203 0 rfl (by kernel_rfl) 33 (.tmp 53) (.tmp 48) (Int.toNat x7) x205 true rfl (by kernel_rfl) (by kernel_rfl) (by kernel_rfl) (idx_lt hg208) (fun w216 H217 => ?_))
                rw [← hl209] at H217
                clear H203
                refine WA.lst (l := #[true, true, true, true, true, true, true, true, true, true, true, true, true, true, false, false]) (by kernel_rfl) ?_
                refine WA.take 14 (v := va (slAt s1 6 (Int.toNat x121))) rfl (by kernel_rfl) (by kernel_rfl) (fun w => ev_index sf178 22 (.tmp 43) (.tmp 44) 33 6 48 .i64 x121 rfl (by kernel_rfl) (by kernel_rfl) (by kernel_rfl) hg210) (fun w => by kernel_rfl) (l' := #[true, true, true, true, true, true, true, true, true, true, true, true, true, true, true, false]) (by kernel_rfl) ?_
                refine WA.any [15] (by kernel_rfl) (by simp) ?_
                simp only [List.mem_singleton, forall_eq]
                refine WO.op rfl (Op1.storeOwn H217 0 rfl (by kernel_rfl) 33 (.tmp 54) (.tmp 52) (Int.toNat x121) x207 true rfl (by kernel_rfl) (by kernel_rfl) (by kernel_rfl) (by simp only [hl209, List.length_set]; exact idx_lt hg210) (fun w218 H219 => ?_))
                rw [← hl211] at H219
                clear H217
                refine WA.lst (l := #[true, true, true, true, true, true, true, true, true, true, true, true, true, true, true, true]) (by kernel_rfl) ?_
                refine WA.done (by kernel_rfl) ?_
                exact ⟨l211, s1, (vi x7), s1, (vi x121), s1, (vi x121), (va (slAt s1 6 (Int.toNat x121))), (TNode.val x205), s1, (vi x7), (va (slAt s1 6 (Int.toNat x7))), (TNode.val x207), (va (slAt s1 6 (Int.toNat x7))), (va (slAt s1 6 (Int.toNat x121))), (by kernel_rfl), St.sel H219 [0] (by decide) rfl, h⟩
            · rintro a w ⟨l187, g188, g189, g190, g191, g192, g193, g194, g195, g196, g197, g198, g199, g200, g201, rfl, H, h⟩
              subst hK202
              obtain ⟨w220, rfl⟩ : ∃ x, x = w := ⟨_, rfl⟩
              have H221 := H; clear H
              have sf222 := Own.isSl (St.get H221 0 rfl)
              refine then_n ?_
              refine WP.region ?_
              refine WPI.run 2 ⟨#[s1, vi x121, Z, Z, vi x121, vi x7, vi x118, vi x119, vi x119, s1, vi (((List.length l6 : Nat) : Int)), vb false, g122, g123, g124, g125, g126, g127, g128, g129, g130, g131, g132, g133, g134, g135, g136, g137, g138, g139, g140, s1, vi x121, va (slAt s1 6 (Int.toNat x121)), TNode.val x180, s1, vi x7, va (slAt s1 6 (Int.toNat x7)), TNode.val x182, vb t183, vb false, g188, g189, g190, g191, g192, g193, g194, g195, g196, g197, g198, g199, g200, g201, vi x121], []⟩ w220 (fun K => by kernel_rfl) ?_
              refine WPI.done rfl ?_
              exact inb_n (then_n ⟨l187, x121, _, _, _, _, _, _, _, _, _, _, _, _, _, _, _, _, _, _, _, _, _, _, _, _, _, _, _, _, _, _, _, _, _, _, _, _, _, _, _, _, _, _, _, _, _, _, _, _, _, _, _, _, rfl, St.sel H221 [0] (by decide) rfl, h⟩)
          | true =>
            replace h := br_t h
            refine WP.condT (by kernel_rfl) ?_
            refine WP.ret ?_
            obtain rfl := Option.some.inj h
            exact then_r (inb_r (then_r (then_r (inb_r (post_r (.tuple #[]) rfl (by kernel_rfl) ⟨rfl, St.sel H186 [0] (by decide) rfl⟩)))))
      | true =>
        replace h := br_t h
        refine WP.condT (by kernel_rfl) ?_
        refine WP.ret ?_
        obtain rfl := Option.some.inj h
        exact then_r (inb_r (then_r (then_r (inb_r (post_r (.tuple #[]) rfl (by kernel_rfl) ⟨rfl, St.sel H61 [0] (by decide) rfl⟩)))))
    · rintro a w ⟨l63, x64, g65, g66, g67, g68, g69, g70, g71, g72, g73, g74, g75, g76, g77, g78, g79, g80, g81, g82, g83, g84, g85, g86, g87, g88, g89, g90, g91, g92, g93, g94, g95, g96, g97, g98, g99, g100, g101, g102, g103, g104, g105, g106, g107, g108, g109, g110, g111, g112, g113, g114, g115, g116, rfl, H, h⟩
      subst hK117
      obtain ⟨w223, rfl⟩ : ∃ x, x = w := ⟨_, rfl⟩
      have H224 := H; clear H
      have sf225 := Own.isSl (St.get H224 0 rfl)
      exact then_n ⟨n, Nat.lt_succ_self n, l63, x64, _, _, _, _, _, _, _, _, _, _, _, _, _, _, _, _, _, _, _, _, _, _, _, _, _, _, _, _, _, _, _, _, _, _, _, _, _, _, _, _, _, _, _, _, _, _, _, _, _, _, _, _, rfl, St.sel H224 [0] (by decide) rfl, h⟩
end Go.Proofs
