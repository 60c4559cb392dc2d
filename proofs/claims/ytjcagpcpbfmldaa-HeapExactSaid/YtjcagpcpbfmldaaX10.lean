import Derived.Test.YtjcagpcpbfmldaaGw
import Derived.Test.YtjcagpcpbfmldaaProg
import Derived.Test.YtjcagpcpbfmldaaT
import Derived.Test.YtjcagpcpbfmldaaGwi
import Derived.Test.YtjcagpcpbfmldaaW11
set_option linter.unusedVariables false
set_option linter.unusedSimpArgs false
set_option maxRecDepth 100000
set_option maxHeartbeats 0
namespace Go.Proofs
open Gw Go.RowKit
attribute [local irreducible] Gw.WP Gw.WPI Gw.WPL Gw.WA Gw.WQ Gw.PR Gw.Op1 Gw.Ret Go.Exit.then Go.Exit.inBlock Go.wpOpIn Gw.Rnd Gw.Aft Gw.Begun
/- tarn/tarnlaw13.HeapExact -/
def g_tarnlaw13_HeapExact_l1 (fuel : Nat) (l4 : List Ttarnlaw13_Act) (K119 : Option Bool) : Nat → (List TNode) → Int → Option Bool
  | 0, _, _ => none
  | n + 1, l122, x124 => jn (fun (c232 : Bool) => br c232 (jn (fun (l241 : List TNode) => lt (wr .i64 (x124 + 1)) fun x634 => g_tarnlaw13_HeapExact_l1 fuel l4 K119 n l241 x634) fun K328 => jn (fun (l331 : List TNode) => K328 l331) fun K418 => bd (g_tarnref12_Heap fuel l122) fun t419 => bd (g_heap_Check fuel l122) fun t423 => bd (g_tarnlaw13_num fuel t423) fun t427 => jn (fun (c442 : Bool) => br c442 (some false) (bd (g_heap_Least fuel l122) fun t451 => jn (fun (x467 : TNode) (x468 : Int) (l470 : List TNode) => jn (fun (c537 : Bool) => br c537 (some false) (gd ((0 : Int) ≤ x124 ∧ x124 < ((List.length l4 : Nat) : Int)) <| bd (l4[Int.toNat x124]?) fun x611 => bd (g_tarnlaw13_step fuel l122 x611) fun t612 => lt (!t612.2) fun c618 => br c618 (some false) (bd (g_tarnref0_CopyNodes fuel t612.1) fun t619 => K418 t619))) fun K538 => bd (g_tarnlaw13_num fuel t451.2) fun t540 => lt (t540 != x468) fun c541 => br c541 (K538 true) (lt (!decide (t451.1 = x467)) fun c542 => br c542 (K538 true) (bd (g_tarnlaw13_order fuel l122 1000) fun t543 => bd (g_tarnref0_EqNodes fuel t543 l470) fun t547 => lt (!t547) fun c548 => br c548 (K538 true) (lt (wr .i64 (Int.tdiv (((List.length l470 : Nat) : Int)) 2)) fun x549 => bd (g_tarnlaw13_order fuel l122 x549) fun t550 => lt (wr .i64 (Int.tdiv (((List.length l470 : Nat) : Int)) 2)) fun x554 => gd ((0 : Int) ≤ 0 ∧ 0 ≤ x554 ∧ x554 ≤ ((List.length l470 : Nat) : Int)) <| bd (g_tarnref0_EqNodes fuel t550 ((List.take (Int.toNat x554) l470))) fun t556 => lt (!t556) fun c557 => K538 c557)))) fun K481 => br t419 (bd (g_tarnref12_Order fuel l122) fun t482 => lt (decide ((((List.length l122 : Nat) : Int)) > 0)) fun c489 => br c489 (jn (fun (x490 : TNode) => K481 x490 0 t482) fun K494 => gd ((0 : Int) ≤ 0 ∧ 0 < ((List.length l122 : Nat) : Int)) <| bd (l122[Int.toNat 0]?) fun x497 => K494 x497) (K481 (TNode.mk 0 (TRank.mk 0 (TU256.mk 0 0 0 0))) 3 t482)) (K481 (TNode.mk 0 (TRank.mk 0 (TU256.mk 0 0 0 0))) 1 ([])))) fun K443 => lt (t427 == 0) fun c444 => lt (t419 != c444) fun c445 => br c445 (K443 true) (lt (!t419) fun c446 => br c446 (lt (t427 != 1) fun c447 => K443 c447) (K443 false))) (K119)) fun K233 => lt (decide (x124 < (((List.length l4 : Nat) : Int)))) fun c234 => br c234 (lt (decide (x124 < 25)) fun c235 => K233 c235) (K233 false)
def g_tarnlaw13_HeapExact (fuel : Nat) (l2 : List TNode) (l4 : List Ttarnlaw13_Act) : Option Bool :=
  bd (g_tarnlaw13_heavy fuel l2 l4) fun t9 => br t9 (some true) (bd (g_tarnref0_CopyNodes fuel l2) fun t13 => jn (bd (g_tarnlaw13_wakes fuel) fun t637 => some t637) fun K119 => g_tarnlaw13_HeapExact_l1 fuel l4 K119 fuel t13 0)
theorem g_tarnlaw13_HeapExact_w (fuel : Nat) (s1 : Value) (l2 : List TNode) (s3 : Value) (l4 : List Ttarnlaw13_Act) (r : Bool) (h : g_tarnlaw13_HeapExact fuel l2 l4 = some r) (w0 : World) (hs1 : Rd fTNode (hp no w0) s1 l2) (hs3 : Rd fTtarnlaw13_Act (hp no w0) s3 l4) :
    Ret Try.prog 10 #[.agg #[s1, s3]] w0 (fun v w' => v = vb r ∧ St no w0 w' []) := by
  unfold g_tarnlaw13_HeapExact at h
  refine ret_of_wp Try.func10 rfl #[.agg #[s1, s3], Z, Z, Z, Z, Z, Z, Z, Z, Z, Z, Z, Z, Z, Z, Z, Z, Z, Z, Z, Z, Z, Z, Z, Z, Z, Z, Z, Z, Z, Z, Z, Z, Z, Z, Z, Z, Z, Z, Z, Z, Z, Z, Z, Z, Z, Z, Z, Z, Z, Z, Z, Z, Z, Z, Z, Z, Z, Z, Z, Z, Z, Z, Z, Z, Z, Z, Z, Z, Z, Z, Z, Z, Z, Z, Z, Z, Z, Z, Z, Z, Z, Z, Z, Z, Z, Z, Z, Z, Z, Z, Z, Z, Z, Z, Z, Z, Z, Z, Z, Z, Z, Z, Z, Z, Z, Z] (by kernel_rfl) ?_
  have H0 := St.start w0
  refine WP.seq ?_
  refine WP.region ?_
  refine WPI.op rfl (Op1.box H0 #[s1, s3] (by kernel_rfl) 25 (.tmp 0) rfl (by kernel_rfl) (fun b5 w7 H8 => ?_))
  refine WPI.run 1 ⟨#[.agg #[s1, s3], vp b5 0, vb false, Z, Z, Z, Z, Z, Z, Z, Z, Z, Z, Z, Z, Z, Z, Z, Z, Z, Z, Z, Z, Z, Z, Z, Z, Z, Z, Z, Z, Z, Z, Z, Z, Z, Z, Z, Z, Z, Z, Z, Z, Z, Z, Z, Z, Z, Z, Z, Z, Z, Z, Z, Z, Z, Z, Z, Z, Z, Z, Z, Z, Z, Z, Z, Z, Z, Z, Z, Z, Z, Z, Z, Z, Z, Z, Z, Z, Z, Z, Z, Z, Z, Z, Z, Z, Z, Z, Z, Z, Z, Z, Z, Z, Z, Z, Z, Z, Z, Z, Z, Z, Z, Z, Z, Z], []⟩ w7 (fun K => by kernel_rfl) ?_
  refine WPI.done rfl ?_
  refine then_n ?_
  refine WP.seq ?_
  refine WP.seq ?_
  refine WP.region ?_
  refine WPI.value (v := .agg #[s1, s3]) rfl (by kernel_rfl) (ev_loadBox H8 0 rfl 25 (.tmp 1) 0 (.agg #[s1, s3]) rfl (by kernel_rfl) (by kernel_rfl)) ?_
  obtain ⟨t9, ht9, h⟩ := bd_some h
  refine WPI.run 0 ⟨#[.agg #[s1, s3], vp b5 0, vb false, Z, Z, Z, Z, Z, Z, Z, Z, Z, Z, Z, .agg #[s1, s3], Z, Z, Z, Z, Z, Z, Z, Z, Z, Z, Z, Z, Z, Z, Z, Z, Z, Z, Z, Z, Z, Z, Z, Z, Z, Z, Z, Z, Z, Z, Z, Z, Z, Z, Z, Z, Z, Z, Z, Z, Z, Z, Z, Z, Z, Z, Z, Z, Z, Z, Z, Z, Z, Z, Z, Z, Z, Z, Z, Z, Z, Z, Z, Z, Z, Z, Z, Z, Z, Z, Z, Z, Z, Z, Z, Z, Z, Z, Z, Z, Z, Z, Z, Z, Z, Z, Z, Z, Z, Z, Z, Z], []⟩ w7 (fun K => by kernel_rfl) ?_
  refine WPI.op rfl (Op1.call (by kernel_rfl) (by kernel_rfl) (g_tarnlaw13_heavy_w fuel s1 l2 s3 l4 t9 ht9 _ (Rd.arg0 hs1 H8) (Rd.arg0 hs3 H8)) ?_)
  rintro _ w10 ⟨rfl, Hc11⟩
  have H12 := St.call0' H8 Hc11
  clear H8 Hc11
  refine WPI.run 0 ⟨#[.agg #[s1, s3], vp b5 0, vb false, Z, Z, Z, Z, Z, Z, Z, Z, Z, Z, Z, .agg #[s1, s3], vb t9, Z, Z, Z, Z, Z, Z, Z, Z, Z, Z, Z, Z, Z, Z, Z, Z, Z, Z, Z, Z, Z, Z, Z, Z, Z, Z, Z, Z, Z, Z, Z, Z, Z, Z, Z, Z, Z, Z, Z, Z, Z, Z, Z, Z, Z, Z, Z, Z, Z, Z, Z, Z, Z, Z, Z, Z, Z, Z, Z, Z, Z, Z, Z, Z, Z, Z, Z, Z, Z, Z, Z, Z, Z, Z, Z, Z, Z, Z, Z, Z, Z, Z, Z, Z, Z, Z, Z, Z, Z, Z, Z], []⟩ w10 (fun K => by kernel_rfl) ?_
  refine WPI.done rfl ?_
  refine then_n ?_
  cases t9 with
  | false =>
    replace h := br_f h
    refine WP.condF (by kernel_rfl) ?_
    refine WP.skip ?_
    refine then_n ?_
    refine WP.seq ?_
    refine WP.region ?_
    refine WPI.run 1 ⟨#[.agg #[s1, s3], vp b5 0, vb false, Z, Z, Z, Z, Z, Z, Z, Z, Z, Z, Z, .agg #[s1, s3], vb false, vp b5 0, Z, Z, Z, Z, Z, Z, Z, Z, Z, Z, Z, Z, Z, Z, Z, Z, Z, Z, Z, Z, Z, Z, Z, Z, Z, Z, Z, Z, Z, Z, Z, Z, Z, Z, Z, Z, Z, Z, Z, Z, Z, Z, Z, Z, Z, Z, Z, Z, Z, Z, Z, Z, Z, Z, Z, Z, Z, Z, Z, Z, Z, Z, Z, Z, Z, Z, Z, Z, Z, Z, Z, Z, Z, Z, Z, Z, Z, Z, Z, Z, Z, Z, Z, Z, Z, Z, Z, Z, Z, Z], []⟩ w10 (fun K => by kernel_rfl) ?_
    refine WPI.value (v := s1) rfl (by kernel_rfl) (ev_loadBox H12 0 rfl 22 (.tmp 16) 0 (s1) rfl (by kernel_rfl) (by kernel_rfl)) ?_
    obtain ⟨t13, ht13, h⟩ := bd_some h
    refine WPI.run 0 ⟨#[.agg #[s1, s3], vp b5 0, vb false, Z, Z, Z, Z, Z, Z, Z, Z, Z, Z, Z, .agg #[s1, s3], vb false, vp b5 0, s1, Z, Z, Z, Z, Z, Z, Z, Z, Z, Z, Z, Z, Z, Z, Z, Z, Z, Z, Z, Z, Z, Z, Z, Z, Z, Z, Z, Z, Z, Z, Z, Z, Z, Z, Z, Z, Z, Z, Z, Z, Z, Z, Z, Z, Z, Z, Z, Z, Z, Z, Z, Z, Z, Z, Z, Z, Z, Z, Z, Z, Z, Z, Z, Z, Z, Z, Z, Z, Z, Z, Z, Z, Z, Z, Z, Z, Z, Z, Z, Z, Z, Z, Z, Z, Z, Z, Z, Z, Z], []⟩ w10 (fun K => by kernel_rfl) ?_
    refine WPI.op rfl (Op1.call (by kernel_rfl) (by kernel_rfl) (g_tarnref0_CopyNodes_w fuel s1 l2 t13 ht13 _ (Rd.arg0 hs1 H12)) ?_)
    rintro s14 w17 ⟨_, rfl, Hc18⟩
    have H19 := St.call0 H12 Hc18
    clear H12 Hc18
    have sf16 := Own.isSl (St.get H19 0 rfl)
    refine WPI.run 1 ⟨#[.agg #[s1, s3], vp b5 0, vb false, s14, Z, Z, Z, Z, Z, Z, Z, Z, Z, Z, .agg #[s1, s3], vb false, vp b5 0, s1, s14, Z, Z, Z, Z, Z, Z, Z, Z, Z, Z, Z, Z, Z, Z, Z, Z, Z, Z, Z, Z, Z, Z, Z, Z, Z, Z, Z, Z, Z, Z, Z, Z, Z, Z, Z, Z, Z, Z, Z, Z, Z, Z, Z, Z, Z, Z, Z, Z, Z, Z, Z, Z, Z, Z, Z, Z, Z, Z, Z, Z, Z, Z, Z, Z, Z, Z, Z, Z, Z, Z, Z, Z, Z, Z, Z, Z, Z, Z, Z, Z, Z, Z, Z, Z, Z, Z, Z, Z], []⟩ w17 (fun K => by kernel_rfl) ?_
    refine WPI.done rfl ?_
    refine then_n ?_
    refine WP.seq ?_
    refine WP.seq ?_
    refine WP.region ?_
    refine WPI.run 1 ⟨#[.agg #[s1, s3], vp b5 0, vb false, s14, vi 0, Z, Z, Z, Z, Z, Z, Z, Z, Z, .agg #[s1, s3], vb false, vp b5 0, s1, s14, Z, Z, Z, Z, Z, Z, Z, Z, Z, Z, Z, Z, Z, Z, Z, Z, Z, Z, Z, Z, Z, Z, Z, Z, Z, Z, Z, Z, Z, Z, Z, Z, Z, Z, Z, Z, Z, Z, Z, Z, Z, Z, Z, Z, Z, Z, Z, Z, Z, Z, Z, Z, Z, Z, Z, Z, Z, Z, Z, Z, Z, Z, Z, Z, Z, Z, Z, Z, Z, Z, Z, Z, Z, Z, Z, Z, Z, Z, Z, Z, Z, Z, Z, Z, Z, Z, Z, Z], []⟩ w17 (fun K => by kernel_rfl) ?_
    refine WPI.done rfl ?_
    refine then_n ?_
    obtain ⟨K119, hK119, h⟩ := jn_some h
    refine WP.blockJ (fun a w => ∃ (g20 : Value) (g21 : Value) (g22 : Value) (g23 : Value) (g24 : Value) (g25 : Value) (g26 : Value) (g27 : Value) (g28 : Value) (g29 : Value) (g30 : Value) (g31 : Value) (g32 : Value) (g33 : Value) (g34 : Value) (g35 : Value) (g36 : Value) (g37 : Value) (g38 : Value) (g39 : Value) (g40 : Value) (g41 : Value) (g42 : Value) (g43 : Value) (g44 : Value) (g45 : Value) (g46 : Value) (g47 : Value) (g48 : Value) (g49 : Value) (g50 : Value) (g51 : Value) (g52 : Value) (g53 : Value) (g54 : Value) (g55 : Value) (g56 : Value) (g57 : Value) (g58 : Value) (g59 : Value) (g60 : Value) (g61 : Value) (g62 : Value) (g63 : Value) (g64 : Value) (g65 : Value) (g66 : Value) (g67 : Value) (g68 : Value) (g69 : Value) (g70 : Value) (g71 : Value) (g72 : Value) (g73 : Value) (g74 : Value) (g75 : Value) (g76 : Value) (g77 : Value) (g78 : Value) (g79 : Value) (g80 : Value) (g81 : Value) (g82 : Value) (g83 : Value) (g84 : Value) (g85 : Value) (g86 : Value) (g87 : Value) (g88 : Value) (g89 : Value) (g90 : Value) (g91 : Value) (g92 : Value) (g93 : Value) (g94 : Value) (g95 : Value) (g96 : Value) (g97 : Value) (g98 : Value) (g99 : Value) (g100 : Value) (g101 : Value) (g102 : Value) (g103 : Value) (g104 : Value) (g105 : Value) (g106 : Value) (g107 : Value) (g108 : Value) (g109 : Value) (g110 : Value) (g111 : Value) (g112 : Value) (g113 : Value) (g114 : Value) (g115 : Value) (g116 : Value) (g117 : Value) (g118 : Value), a = ⟨#[.agg #[s1, s3], vp b5 0, g20, g21, g22, g23, g24, g25, g26, g27, g28, g29, g30, g31, .agg #[s1, s3], vb false, vp b5 0, s1, s14, g32, g33, g34, g35, g36, g37, g38, g39, g40, g41, g42, g43, g44, g45, g46, g47, g48, g49, g50, g51, g52, g53, g54, g55, g56, g57, g58, g59, g60, g61, g62, g63, g64, g65, g66, g67, g68, g69, g70, g71, g72, g73, g74, g75, g76, g77, g78, g79, g80, g81, g82, g83, g84, g85, g86, g87, g88, g89, g90, g91, g92, g93, g94, g95, g96, g97, g98, g99, g100, g101, g102, g103, g104, g105, g106, g107, g108, g109, g110, g111, g112, g113, g114, g115, g116, g117, g118, Z], []⟩ ∧ St no w0 w [Box b5 #[s1, s3] 25] ∧ K119 = some r) ?_ ?_
    · skip
      refine WP.loop (fun n a w => ∃ (l122 : List TNode) (x124 : Int) (s123 : Value) (g120 : Value) (g125 : Value) (g126 : Value) (g127 : Value) (g128 : Value) (g129 : Value) (g130 : Value) (g131 : Value) (g132 : Value) (g133 : Value) (g134 : Value) (g135 : Value) (g136 : Value) (g137 : Value) (g138 : Value) (g139 : Value) (g140 : Value) (g141 : Value) (g142 : Value) (g143 : Value) (g144 : Value) (g145 : Value) (g146 : Value) (g147 : Value) (g148 : Value) (g149 : Value) (g150 : Value) (g151 : Value) (g152 : Value) (g153 : Value) (g154 : Value) (g155 : Value) (g156 : Value) (g157 : Value) (g158 : Value) (g159 : Value) (g160 : Value) (g161 : Value) (g162 : Value) (g163 : Value) (g164 : Value) (g165 : Value) (g166 : Value) (g167 : Value) (g168 : Value) (g169 : Value) (g170 : Value) (g171 : Value) (g172 : Value) (g173 : Value) (g174 : Value) (g175 : Value) (g176 : Value) (g177 : Value) (g178 : Value) (g179 : Value) (g180 : Value) (g181 : Value) (g182 : Value) (g183 : Value) (g184 : Value) (g185 : Value) (g186 : Value) (g187 : Value) (g188 : Value) (g189 : Value) (g190 : Value) (g191 : Value) (g192 : Value) (g193 : Value) (g194 : Value) (g195 : Value) (g196 : Value) (g197 : Value) (g198 : Value) (g199 : Value) (g200 : Value) (g201 : Value) (g202 : Value) (g203 : Value) (g204 : Value) (g205 : Value) (g206 : Value) (g207 : Value) (g208 : Value) (g209 : Value) (g210 : Value) (g211 : Value) (g212 : Value) (g213 : Value) (g214 : Value) (g215 : Value) (g216 : Value) (g217 : Value) (g218 : Value) (g219 : Value) (g220 : Value), a = ⟨#[.agg #[s1, s3], vp b5 0, g120, s123, vi x124, g125, g126, g127, g128, g129, g130, g131, g132, g133, .agg #[s1, s3], vb false, vp b5 0, s1, s14, g134, g135, g136, g137, g138, g139, g140, g141, g142, g143, g144, g145, g146, g147, g148, g149, g150, g151, g152, g153, g154, g155, g156, g157, g158, g159, g160, g161, g162, g163, g164, g165, g166, g167, g168, g169, g170, g171, g172, g173, g174, g175, g176, g177, g178, g179, g180, g181, g182, g183, g184, g185, g186, g187, g188, g189, g190, g191, g192, g193, g194, g195, g196, g197, g198, g199, g200, g201, g202, g203, g204, g205, g206, g207, g208, g209, g210, g211, g212, g213, g214, g215, g216, g217, g218, g219, g220, Z], []⟩ ∧ St no w0 w [Box b5 #[s1, s3] 25, Own fTNode 33 s123 l122] ∧ g_tarnlaw13_HeapExact_l1 fuel l4 K119 n l122 x124 = some r) fuel ⟨t13, 0, s14, _, _, _, _, _, _, _, _, _, _, _, _, _, _, _, _, _, _, _, _, _, _, _, _, _, _, _, _, _, _, _, _, _, _, _, _, _, _, _, _, _, _, _, _, _, _, _, _, _, _, _, _, _, _, _, _, _, _, _, _, _, _, _, _, _, _, _, _, _, _, _, _, _, _, _, _, _, _, _, _, _, _, _, _, _, _, _, _, _, _, _, _, _, _, _, _, _, rfl, St.sel H19 [1, 0] (by decide) rfl, h⟩ ?_
      intro n a w hq
      refine Exists.elim hq fun l122 hq => Exists.elim hq fun x124 hq => Exists.elim hq fun s123 hq => Exists.elim hq fun g120 hq => Exists.elim hq fun g125 hq => Exists.elim hq fun g126 hq => Exists.elim hq fun g127 hq => Exists.elim hq fun g128 hq => Exists.elim hq fun g129 hq => Exists.elim hq fun g130 hq => Exists.elim hq fun g131 hq => Exists.elim hq fun g132 hq => Exists.elim hq fun g133 hq => Exists.elim hq fun g134 hq => Exists.elim hq fun g135 hq => Exists.elim hq fun g136 hq => Exists.elim hq fun g137 hq => Exists.elim hq fun g138 hq => Exists.elim hq fun g139 hq => Exists.elim hq fun g140 hq => Exists.elim hq fun g141 hq => Exists.elim hq fun g142 hq => Exists.elim hq fun g143 hq => Exists.elim hq fun g144 hq => Exists.elim hq fun g145 hq => Exists.elim hq fun g146 hq => Exists.elim hq fun g147 hq => Exists.elim hq fun g148 hq => Exists.elim hq fun g149 hq => Exists.elim hq fun g150 hq => Exists.elim hq fun g151 hq => Exists.elim hq fun g152 hq => Exists.elim hq fun g153 hq => Exists.elim hq fun g154 hq => Exists.elim hq fun g155 hq => Exists.elim hq fun g156 hq => Exists.elim hq fun g157 hq => Exists.elim hq fun g158 hq => Exists.elim hq fun g159 hq => Exists.elim hq fun g160 hq => Exists.elim hq fun g161 hq => Exists.elim hq fun g162 hq => Exists.elim hq fun g163 hq => Exists.elim hq fun g164 hq => Exists.elim hq fun g165 hq => Exists.elim hq fun g166 hq => Exists.elim hq fun g167 hq => Exists.elim hq fun g168 hq => Exists.elim hq fun g169 hq => Exists.elim hq fun g170 hq => Exists.elim hq fun g171 hq => Exists.elim hq fun g172 hq => Exists.elim hq fun g173 hq => Exists.elim hq fun g174 hq => Exists.elim hq fun g175 hq => Exists.elim hq fun g176 hq => Exists.elim hq fun g177 hq => Exists.elim hq fun g178 hq => Exists.elim hq fun g179 hq => Exists.elim hq fun g180 hq => Exists.elim hq fun g181 hq => Exists.elim hq fun g182 hq => Exists.elim hq fun g183 hq => Exists.elim hq fun g184 hq => Exists.elim hq fun g185 hq => Exists.elim hq fun g186 hq => Exists.elim hq fun g187 hq => Exists.elim hq fun g188 hq => Exists.elim hq fun g189 hq => Exists.elim hq fun g190 hq => Exists.elim hq fun g191 hq => Exists.elim hq fun g192 hq => Exists.elim hq fun g193 hq => Exists.elim hq fun g194 hq => Exists.elim hq fun g195 hq => Exists.elim hq fun g196 hq => Exists.elim hq fun g197 hq => Exists.elim hq fun g198 hq => Exists.elim hq fun g199 hq => Exists.elim hq fun g200 hq => Exists.elim hq fun g201 hq => Exists.elim hq fun g202 hq => Exists.elim hq fun g203 hq => Exists.elim hq fun g204 hq => Exists.elim hq fun g205 hq => Exists.elim hq fun g206 hq => Exists.elim hq fun g207 hq => Exists.elim hq fun g208 hq => Exists.elim hq fun g209 hq => Exists.elim hq fun g210 hq => Exists.elim hq fun g211 hq => Exists.elim hq fun g212 hq => Exists.elim hq fun g213 hq => Exists.elim hq fun g214 hq => Exists.elim hq fun g215 hq => Exists.elim hq fun g216 hq => Exists.elim hq fun g217 hq => Exists.elim hq fun g218 hq => Exists.elim hq fun g219 hq => Exists.elim hq fun g220 hq => ?_
      obtain ⟨rfl, H, h⟩ := hq
      cases n with
      | zero => rw [g_tarnlaw13_HeapExact_l1] at h; cases h
      | succ n =>
        rw [g_tarnlaw13_HeapExact_l1] at h
        obtain ⟨w221, rfl⟩ : ∃ x, x = w := ⟨_, rfl⟩
        have H222 := H; clear H
        have sf223 := Own.isSl (St.get H222 1 rfl)
        refine WP.seq ?_
        refine WP.seq ?_
        obtain ⟨K233, hK233, h⟩ := jn_some h
        refine WP.onlyN (fun a w => ∃ (c232 : Bool) (g224 : Value) (g225 : Value) (g226 : Value) (g227 : Value) (g228 : Value) (g229 : Value) (g230 : Value) (g231 : Value), a = ⟨#[.agg #[s1, s3], vp b5 0, g120, s123, vi x124, g125, g126, g127, g128, g129, g130, g131, g132, g133, .agg #[s1, s3], vb false, vp b5 0, s1, s14, g224, g225, g226, g227, g228, g229, g230, g231, vb c232, g143, g144, g145, g146, g147, g148, g149, g150, g151, g152, g153, g154, g155, g156, g157, g158, g159, g160, g161, g162, g163, g164, g165, g166, g167, g168, g169, g170, g171, g172, g173, g174, g175, g176, g177, g178, g179, g180, g181, g182, g183, g184, g185, g186, g187, g188, g189, g190, g191, g192, g193, g194, g195, g196, g197, g198, g199, g200, g201, g202, g203, g204, g205, g206, g207, g208, g209, g210, g211, g212, g213, g214, g215, g216, g217, g218, g219, g220, Z], []⟩ ∧ St no w0 w [Box b5 #[s1, s3] 25, Own fTNode 33 s123 l122] ∧ K233 c232 = some r) ?_ ?_
        · skip
          refine WP.region ?_
          refine WPI.run 2 ⟨#[.agg #[s1, s3], vp b5 0, g120, s123, vi x124, g125, g126, g127, g128, g129, g130, g131, g132, g133, .agg #[s1, s3], vb false, vp b5 0, s1, s14, vi x124, vp b5 1, g136, g137, g138, g139, g140, g141, g142, g143, g144, g145, g146, g147, g148, g149, g150, g151, g152, g153, g154, g155, g156, g157, g158, g159, g160, g161, g162, g163, g164, g165, g166, g167, g168, g169, g170, g171, g172, g173, g174, g175, g176, g177, g178, g179, g180, g181, g182, g183, g184, g185, g186, g187, g188, g189, g190, g191, g192, g193, g194, g195, g196, g197, g198, g199, g200, g201, g202, g203, g204, g205, g206, g207, g208, g209, g210, g211, g212, g213, g214, g215, g216, g217, g218, g219, g220, Z], []⟩ w221 (fun K => by kernel_rfl) ?_
          refine WPI.value (v := s3) rfl (by kernel_rfl) (ev_loadBox H222 0 rfl 23 (.tmp 20) 1 (s3) rfl (by kernel_rfl) (by kernel_rfl)) ?_
          refine WPI.run 0 ⟨#[.agg #[s1, s3], vp b5 0, g120, s123, vi x124, g125, g126, g127, g128, g129, g130, g131, g132, g133, .agg #[s1, s3], vb false, vp b5 0, s1, s14, vi x124, vp b5 1, s3, g137, g138, g139, g140, g141, g142, g143, g144, g145, g146, g147, g148, g149, g150, g151, g152, g153, g154, g155, g156, g157, g158, g159, g160, g161, g162, g163, g164, g165, g166, g167, g168, g169, g170, g171, g172, g173, g174, g175, g176, g177, g178, g179, g180, g181, g182, g183, g184, g185, g186, g187, g188, g189, g190, g191, g192, g193, g194, g195, g196, g197, g198, g199, g200, g201, g202, g203, g204, g205, g206, g207, g208, g209, g210, g211, g212, g213, g214, g215, g216, g217, g218, g219, g220, Z], []⟩ w221 (fun K => by kernel_rfl) ?_
          refine WPI.value (v := vi (((List.length l4 : Nat) : Int))) rfl (by kernel_rfl) (ev_len (Rd.sl hs3) 23 (.tmp 21) 45 7 56 rfl (by kernel_rfl) (by kernel_rfl)) ?_
          obtain ⟨c234, hc234, h⟩ := lt_some h
          refine WPI.run 2 ⟨#[.agg #[s1, s3], vp b5 0, g120, s123, vi x124, g125, g126, g127, g128, g129, g130, g131, g132, g133, .agg #[s1, s3], vb false, vp b5 0, s1, s14, vi x124, vp b5 1, s3, vi (((List.length l4 : Nat) : Int)), vb c234, vb c234, g140, g141, g142, g143, g144, g145, g146, g147, g148, g149, g150, g151, g152, g153, g154, g155, g156, g157, g158, g159, g160, g161, g162, g163, g164, g165, g166, g167, g168, g169, g170, g171, g172, g173, g174, g175, g176, g177, g178, g179, g180, g181, g182, g183, g184, g185, g186, g187, g188, g189, g190, g191, g192, g193, g194, g195, g196, g197, g198, g199, g200, g201, g202, g203, g204, g205, g206, g207, g208, g209, g210, g211, g212, g213, g214, g215, g216, g217, g218, g219, g220, Z], []⟩ w221 (fun K => by subst hc234; kernel_rfl) ?_
          cases c234 with
          | false =>
            replace h := br_f h
            refine WPI.run 3 ⟨#[.agg #[s1, s3], vp b5 0, g120, s123, vi x124, g125, g126, g127, g128, g129, g130, g131, g132, g133, .agg #[s1, s3], vb false, vp b5 0, s1, s14, vi x124, vp b5 1, s3, vi (((List.length l4 : Nat) : Int)), vb false, vb false, Z, Z, vb false, g143, g144, g145, g146, g147, g148, g149, g150, g151, g152, g153, g154, g155, g156, g157, g158, g159, g160, g161, g162, g163, g164, g165, g166, g167, g168, g169, g170, g171, g172, g173, g174, g175, g176, g177, g178, g179, g180, g181, g182, g183, g184, g185, g186, g187, g188, g189, g190, g191, g192, g193, g194, g195, g196, g197, g198, g199, g200, g201, g202, g203, g204, g205, g206, g207, g208, g209, g210, g211, g212, g213, g214, g215, g216, g217, g218, g219, g220, Z], []⟩ w221 (fun K => by kernel_rfl) ?_
            refine WPI.done rfl ?_
            exact ⟨false, _, _, _, _, _, _, _, _, rfl, St.sel H222 [0, 1] (by decide) rfl, h⟩
          | true =>
            replace h := br_t h
            obtain ⟨c235, hc235, h⟩ := lt_some h
            refine WPI.run 3 ⟨#[.agg #[s1, s3], vp b5 0, g120, s123, vi x124, g125, g126, g127, g128, g129, g130, g131, g132, g133, .agg #[s1, s3], vb false, vp b5 0, s1, s14, vi x124, vp b5 1, s3, vi (((List.length l4 : Nat) : Int)), vb true, vb true, vi x124, vb c235, vb c235, g143, g144, g145, g146, g147, g148, g149, g150, g151, g152, g153, g154, g155, g156, g157, g158, g159, g160, g161, g162, g163, g164, g165, g166, g167, g168, g169, g170, g171, g172, g173, g174, g175, g176, g177, g178, g179, g180, g181, g182, g183, g184, g185, g186, g187, g188, g189, g190, g191, g192, g193, g194, g195, g196, g197, g198, g199, g200, g201, g202, g203, g204, g205, g206, g207, g208, g209, g210, g211, g212, g213, g214, g215, g216, g217, g218, g219, g220, Z], []⟩ w221 (fun K => by subst hc235; kernel_rfl) ?_
            refine WPI.done rfl ?_
            exact ⟨c235, _, _, _, _, _, _, _, _, rfl, St.sel H222 [0, 1] (by decide) rfl, h⟩
        · intro a w hq
          refine Exists.elim hq fun c232 hq => Exists.elim hq fun g224 hq => Exists.elim hq fun g225 hq => Exists.elim hq fun g226 hq => Exists.elim hq fun g227 hq => Exists.elim hq fun g228 hq => Exists.elim hq fun g229 hq => Exists.elim hq fun g230 hq => Exists.elim hq fun g231 hq => ?_
          obtain ⟨rfl, H, h⟩ := hq
          have hQ := h; subst hK233; have h := hQ; clear hQ
          obtain ⟨w236, rfl⟩ : ∃ x, x = w := ⟨_, rfl⟩
          have H237 := H; clear H
          have sf238 := Own.isSl (St.get H237 1 rfl)
          refine then_n ?_
          cases c232 with
          | false =>
            replace h := br_f h
            refine WP.condF (by kernel_rfl) ?_
            refine WP.exit ?_
            exact then_e (then_e (inb_e (then_n ⟨_, _, _, _, _, _, _, _, _, _, _, _, _, _, _, _, _, _, _, _, _, _, _, _, _, _, _, _, _, _, _, _, _, _, _, _, _, _, _, _, _, _, _, _, _, _, _, _, _, _, _, _, _, _, _, _, _, _, _, _, _, _, _, _, _, _, _, _, _, _, _, _, _, _, _, _, _, _, _, _, _, _, _, _, _, _, _, _, _, _, _, _, _, _, _, _, _, _, _, rfl, St.sel H237 [0] (by decide) rfl, h⟩)))
          | true =>
            replace h := br_t h
            refine WP.condT (by kernel_rfl) ?_
            refine WP.skip ?_
            refine then_n ?_
            obtain ⟨K328, hK328, h⟩ := jn_some h
            refine WP.seqJ (fun a w => ∃ (l241 : List TNode) (s242 : Value) (g239 : Value) (g243 : Value) (g244 : Value) (g245 : Value) (g246 : Value) (g247 : Value) (g248 : Value) (g249 : Value) (g250 : Value) (g251 : Value) (g252 : Value) (g253 : Value) (g254 : Value) (g255 : Value) (g256 : Value) (g257 : Value) (g258 : Value) (g259 : Value) (g260 : Value) (g261 : Value) (g262 : Value) (g263 : Value) (g264 : Value) (g265 : Value) (g266 : Value) (g267 : Value) (g268 : Value) (g269 : Value) (g270 : Value) (g271 : Value) (g272 : Value) (g273 : Value) (g274 : Value) (g275 : Value) (g276 : Value) (g277 : Value) (g278 : Value) (g279 : Value) (g280 : Value) (g281 : Value) (g282 : Value) (g283 : Value) (g284 : Value) (g285 : Value) (g286 : Value) (g287 : Value) (g288 : Value) (g289 : Value) (g290 : Value) (g291 : Value) (g292 : Value) (g293 : Value) (g294 : Value) (g295 : Value) (g296 : Value) (g297 : Value) (g298 : Value) (g299 : Value) (g300 : Value) (g301 : Value) (g302 : Value) (g303 : Value) (g304 : Value) (g305 : Value) (g306 : Value) (g307 : Value) (g308 : Value) (g309 : Value) (g310 : Value) (g311 : Value) (g312 : Value) (g313 : Value) (g314 : Value) (g315 : Value) (g316 : Value) (g317 : Value) (g318 : Value) (g319 : Value) (g320 : Value) (g321 : Value) (g322 : Value) (g323 : Value) (g324 : Value) (g325 : Value) (g326 : Value) (g327 : Value), a = ⟨#[.agg #[s1, s3], vp b5 0, g239, s242, vi x124, g243, g244, g245, g246, g247, g248, g249, g250, g251, .agg #[s1, s3], vb false, vp b5 0, s1, s14, g224, g225, g226, g227, g228, g229, g230, g231, vb true, g143, g144, g252, g253, g254, g255, g256, g257, g258, g259, g260, g261, g262, g263, g264, g265, g266, g267, g268, g269, g270, g271, g272, g273, g274, g275, g276, g277, g278, g279, g280, g281, g282, g283, g284, g285, g286, g287, g288, g289, g290, g291, g292, g293, g294, g295, g296, g297, g298, g299, g300, g301, g302, g303, g304, g305, g306, g307, g308, g309, g310, g311, g312, g313, g314, g315, g316, g317, g318, g319, g320, g321, g322, g323, g324, g325, g326, g327, Z], []⟩ ∧ St no w0 w [Box b5 #[s1, s3] 25, Own fTNode 33 s123 l122, Own fTNode 33 s242 l241] ∧ K328 l241 = some r) ?_ ?_
            · skip
              obtain ⟨K418, hK418, h⟩ := jn_some h
              refine WP.blockJ (fun a w => ∃ (l331 : List TNode) (s332 : Value) (g329 : Value) (g333 : Value) (g334 : Value) (g335 : Value) (g336 : Value) (g337 : Value) (g338 : Value) (g339 : Value) (g340 : Value) (g341 : Value) (g342 : Value) (g343 : Value) (g344 : Value) (g345 : Value) (g346 : Value) (g347 : Value) (g348 : Value) (g349 : Value) (g350 : Value) (g351 : Value) (g352 : Value) (g353 : Value) (g354 : Value) (g355 : Value) (g356 : Value) (g357 : Value) (g358 : Value) (g359 : Value) (g360 : Value) (g361 : Value) (g362 : Value) (g363 : Value) (g364 : Value) (g365 : Value) (g366 : Value) (g367 : Value) (g368 : Value) (g369 : Value) (g370 : Value) (g371 : Value) (g372 : Value) (g373 : Value) (g374 : Value) (g375 : Value) (g376 : Value) (g377 : Value) (g378 : Value) (g379 : Value) (g380 : Value) (g381 : Value) (g382 : Value) (g383 : Value) (g384 : Value) (g385 : Value) (g386 : Value) (g387 : Value) (g388 : Value) (g389 : Value) (g390 : Value) (g391 : Value) (g392 : Value) (g393 : Value) (g394 : Value) (g395 : Value) (g396 : Value) (g397 : Value) (g398 : Value) (g399 : Value) (g400 : Value) (g401 : Value) (g402 : Value) (g403 : Value) (g404 : Value) (g405 : Value) (g406 : Value) (g407 : Value) (g408 : Value) (g409 : Value) (g410 : Value) (g411 : Value) (g412 : Value) (g413 : Value) (g414 : Value) (g415 : Value) (g416 : Value) (g417 : Value), a = ⟨#[.agg #[s1, s3], vp b5 0, g329, s332, vi x124, g333, g334, g335, g336, g337, g338, g339, g340, g341, .agg #[s1, s3], vb false, vp b5 0, s1, s14, g224, g225, g226, g227, g228, g229, g230, g231, vb true, g143, g144, g342, g343, g344, g345, g346, g347, g348, g349, g350, g351, g352, g353, g354, g355, g356, g357, g358, g359, g360, g361, g362, g363, g364, g365, g366, g367, g368, g369, g370, g371, g372, g373, g374, g375, g376, g377, g378, g379, g380, g381, g382, g383, g384, g385, g386, g387, g388, g389, g390, g391, g392, g393, g394, g395, g396, g397, g398, g399, g400, g401, g402, g403, g404, g405, g406, g407, g408, g409, g410, g411, g412, g413, g414, g415, g416, g417, Z], []⟩ ∧ St no w0 w [Box b5 #[s1, s3] 25, Own fTNode 33 s123 l122, Own fTNode 33 s332 l331] ∧ K418 l331 = some r) ?_ ?_
              · skip
                refine WP.seq ?_
                refine WP.region ?_
                obtain ⟨t419, ht419, h⟩ := bd_some h
                refine WPI.run 1 ⟨#[.agg #[s1, s3], vp b5 0, g120, s123, vi x124, g125, g126, g127, g128, g129, g130, g131, g132, g133, .agg #[s1, s3], vb false, vp b5 0, s1, s14, g224, g225, g226, g227, g228, g229, g230, g231, vb true, g143, g144, s123, g146, g147, g148, g149, g150, g151, g152, g153, g154, g155, g156, g157, g158, g159, g160, g161, g162, g163, g164, g165, g166, g167, g168, g169, g170, g171, g172, g173, g174, g175, g176, g177, g178, g179, g180, g181, g182, g183, g184, g185, g186, g187, g188, g189, g190, g191, g192, g193, g194, g195, g196, g197, g198, g199, g200, g201, g202, g203, g204, g205, g206, g207, g208, g209, g210, g211, g212, g213, g214, g215, g216, g217, g218, g219, g220, Z], []⟩ w236 (fun K => by kernel_rfl) ?_
                refine WPI.op rfl (Op1.call (by kernel_rfl) (by kernel_rfl) (g_tarnref12_Heap_w fuel s123 l122 t419 ht419 _ (St.rd H237 1 rfl)) ?_)
                rintro _ w420 ⟨rfl, Hc421⟩
                have H422 := St.call0' H237 Hc421
                clear H237 Hc421
                refine WPI.run 1 ⟨#[.agg #[s1, s3], vp b5 0, g120, s123, vi x124, vb t419, g126, g127, g128, g129, g130, g131, g132, g133, .agg #[s1, s3], vb false, vp b5 0, s1, s14, g224, g225, g226, g227, g228, g229, g230, g231, vb true, g143, g144, s123, vb t419, g147, g148, g149, g150, g151, g152, g153, g154, g155, g156, g157, g158, g159, g160, g161, g162, g163, g164, g165, g166, g167, g168, g169, g170, g171, g172, g173, g174, g175, g176, g177, g178, g179, g180, g181, g182, g183, g184, g185, g186, g187, g188, g189, g190, g191, g192, g193, g194, g195, g196, g197, g198, g199, g200, g201, g202, g203, g204, g205, g206, g207, g208, g209, g210, g211, g212, g213, g214, g215, g216, g217, g218, g219, g220, Z], []⟩ w420 (fun K => by kernel_rfl) ?_
                refine WPI.done rfl ?_
                refine then_n ?_
                refine WP.seq ?_
                refine WP.region ?_
                obtain ⟨t423, ht423, h⟩ := bd_some h
                refine WPI.run 1 ⟨#[.agg #[s1, s3], vp b5 0, g120, s123, vi x124, vb t419, g126, g127, g128, g129, g130, g131, g132, g133, .agg #[s1, s3], vb false, vp b5 0, s1, s14, g224, g225, g226, g227, g228, g229, g230, g231, vb true, g143, g144, s123, vb t419, s123, g148, g149, g150, g151, g152, g153, g154, g155, g156, g157, g158, g159, g160, g161, g162, g163, g164, g165, g166, g167, g168, g169, g170, g171, g172, g173, g174, g175, g176, g177, g178, g179, g180, g181, g182, g183, g184, g185, g186, g187, g188, g189, g190, g191, g192, g193, g194, g195, g196, g197, g198, g199, g200, g201, g202, g203, g204, g205, g206, g207, g208, g209, g210, g211, g212, g213, g214, g215, g216, g217, g218, g219, g220, Z], []⟩ w420 (fun K => by kernel_rfl) ?_
                refine WPI.op rfl (Op1.call (by kernel_rfl) (by kernel_rfl) (g_heap_Check_w fuel s123 l122 t423 ht423 _ (St.rd H422 1 rfl)) ?_)
                rintro _ w424 ⟨rfl, Hc425⟩
                have H426 := St.call0' H422 Hc425
                clear H422 Hc425
                obtain ⟨t427, ht427, h⟩ := bd_some h
                refine WPI.run 0 ⟨#[.agg #[s1, s3], vp b5 0, g120, s123, vi x124, vb t419, g126, g127, g128, g129, g130, g131, g132, g133, .agg #[s1, s3], vb false, vp b5 0, s1, s14, g224, g225, g226, g227, g228, g229, g230, g231, vb true, g143, g144, s123, vb t419, s123, vi t423, g149, g150, g151, g152, g153, g154, g155, g156, g157, g158, g159, g160, g161, g162, g163, g164, g165, g166, g167, g168, g169, g170, g171, g172, g173, g174, g175, g176, g177, g178, g179, g180, g181, g182, g183, g184, g185, g186, g187, g188, g189, g190, g191, g192, g193, g194, g195, g196, g197, g198, g199, g200, g201, g202, g203, g204, g205, g206, g207, g208, g209, g210, g211, g212, g213, g214, g215, g216, g217, g218, g219, g220, Z], []⟩ w424 (fun K => by kernel_rfl) ?_
                refine WPI.op rfl (Op1.call (by kernel_rfl) (by kernel_rfl) (g_tarnlaw13_num_w fuel t423 t427 ht427 _) ?_)
                rintro _ w428 ⟨rfl, Hc429⟩
                have H430 := St.call0' H426 Hc429
                clear H426 Hc429
                refine WPI.run 1 ⟨#[.agg #[s1, s3], vp b5 0, g120, s123, vi x124, vb t419, vi t427, g127, g128, g129, g130, g131, g132, g133, .agg #[s1, s3], vb false, vp b5 0, s1, s14, g224, g225, g226, g227, g228, g229, g230, g231, vb true, g143, g144, s123, vb t419, s123, vi t423, vi t427, g150, g151, g152, g153, g154, g155, g156, g157, g158, g159, g160, g161, g162, g163, g164, g165, g166, g167, g168, g169, g170, g171, g172, g173, g174, g175, g176, g177, g178, g179, g180, g181, g182, g183, g184, g185, g186, g187, g188, g189, g190, g191, g192, g193, g194, g195, g196, g197, g198, g199, g200, g201, g202, g203, g204, g205, g206, g207, g208, g209, g210, g211, g212, g213, g214, g215, g216, g217, g218, g219, g220, Z], []⟩ w428 (fun K => by kernel_rfl) ?_
                refine WPI.done rfl ?_
                refine then_n ?_
                refine WP.seq ?_
                refine WP.seq ?_
                obtain ⟨K443, hK443, h⟩ := jn_some h
                refine WP.onlyN (fun a w => ∃ (c442 : Bool) (g431 : Value) (g432 : Value) (g433 : Value) (g434 : Value) (g435 : Value) (g436 : Value) (g437 : Value) (g438 : Value) (g439 : Value) (g440 : Value) (g441 : Value), a = ⟨#[.agg #[s1, s3], vp b5 0, g120, s123, vi x124, vb t419, vi t427, g127, g128, g129, g130, g131, g132, g133, .agg #[s1, s3], vb false, vp b5 0, s1, s14, g224, g225, g226, g227, g228, g229, g230, g231, vb true, g143, g144, s123, vb t419, s123, vi t423, vi t427, g431, g432, g433, g434, g435, g436, g437, g438, g439, g440, g441, vb c442, g162, g163, g164, g165, g166, g167, g168, g169, g170, g171, g172, g173, g174, g175, g176, g177, g178, g179, g180, g181, g182, g183, g184, g185, g186, g187, g188, g189, g190, g191, g192, g193, g194, g195, g196, g197, g198, g199, g200, g201, g202, g203, g204, g205, g206, g207, g208, g209, g210, g211, g212, g213, g214, g215, g216, g217, g218, g219, g220, Z], []⟩ ∧ St no w0 w [Box b5 #[s1, s3] 25, Own fTNode 33 s123 l122] ∧ K443 c442 = some r) ?_ ?_
                · skip
                  refine WP.region ?_
                  obtain ⟨c444, hc444, h⟩ := lt_some h
                  obtain ⟨c445, hc445, h⟩ := lt_some h
                  refine WPI.run 5 ⟨#[.agg #[s1, s3], vp b5 0, g120, s123, vi x124, vb t419, vi t427, g127, g128, g129, g130, g131, g132, g133, .agg #[s1, s3], vb false, vp b5 0, s1, s14, g224, g225, g226, g227, g228, g229, g230, g231, vb true, g143, g144, s123, vb t419, s123, vi t423, vi t427, vb t419, vi t427, vb c444, vb c445, vb c445, g155, g156, g157, g158, g159, g160, g161, g162, g163, g164, g165, g166, g167, g168, g169, g170, g171, g172, g173, g174, g175, g176, g177, g178, g179, g180, g181, g182, g183, g184, g185, g186, g187, g188, g189, g190, g191, g192, g193, g194, g195, g196, g197, g198, g199, g200, g201, g202, g203, g204, g205, g206, g207, g208, g209, g210, g211, g212, g213, g214, g215, g216, g217, g218, g219, g220, Z], []⟩ w428 (fun K => by subst hc445 hc444; kernel_rfl) ?_
                  cases c445 with
                  | false =>
                    replace h := br_f h
                    obtain ⟨c446, hc446, h⟩ := lt_some h
                    refine WPI.run 3 ⟨#[.agg #[s1, s3], vp b5 0, g120, s123, vi x124, vb t419, vi t427, g127, g128, g129, g130, g131, g132, g133, .agg #[s1, s3], vb false, vp b5 0, s1, s14, g224, g225, g226, g227, g228, g229, g230, g231, vb true, g143, g144, s123, vb t419, s123, vi t423, vi t427, vb t419, vi t427, vb c444, vb false, vb false, vb t419, vb c446, vb c446, g158, g159, g160, g161, g162, g163, g164, g165, g166, g167, g168, g169, g170, g171, g172, g173, g174, g175, g176, g177, g178, g179, g180, g181, g182, g183, g184, g185, g186, g187, g188, g189, g190, g191, g192, g193, g194, g195, g196, g197, g198, g199, g200, g201, g202, g203, g204, g205, g206, g207, g208, g209, g210, g211, g212, g213, g214, g215, g216, g217, g218, g219, g220, Z], []⟩ w428 (fun K => by subst hc446; kernel_rfl) ?_
                    cases c446 with
                    | false =>
                      replace h := br_f h
                      refine WPI.run 4 ⟨#[.agg #[s1, s3], vp b5 0, g120, s123, vi x124, vb t419, vi t427, g127, g128, g129, g130, g131, g132, g133, .agg #[s1, s3], vb false, vp b5 0, s1, s14, g224, g225, g226, g227, g228, g229, g230, g231, vb true, g143, g144, s123, vb t419, s123, vi t423, vi t427, vb t419, vi t427, vb c444, vb false, vb false, vb t419, vb false, vb false, Z, Z, vb false, vb false, g162, g163, g164, g165, g166, g167, g168, g169, g170, g171, g172, g173, g174, g175, g176, g177, g178, g179, g180, g181, g182, g183, g184, g185, g186, g187, g188, g189, g190, g191, g192, g193, g194, g195, g196, g197, g198, g199, g200, g201, g202, g203, g204, g205, g206, g207, g208, g209, g210, g211, g212, g213, g214, g215, g216, g217, g218, g219, g220, Z], []⟩ w428 (fun K => by kernel_rfl) ?_
                      refine WPI.done rfl ?_
                      exact ⟨false, _, _, _, _, _, _, _, _, _, _, _, rfl, St.sel H430 [0, 1] (by decide) rfl, h⟩
                    | true =>
                      replace h := br_t h
                      obtain ⟨c447, hc447, h⟩ := lt_some h
                      refine WPI.run 4 ⟨#[.agg #[s1, s3], vp b5 0, g120, s123, vi x124, vb t419, vi t427, g127, g128, g129, g130, g131, g132, g133, .agg #[s1, s3], vb false, vp b5 0, s1, s14, g224, g225, g226, g227, g228, g229, g230, g231, vb true, g143, g144, s123, vb t419, s123, vi t423, vi t427, vb t419, vi t427, vb c444, vb false, vb false, vb t419, vb true, vb true, vi t427, vb c447, vb c447, vb c447, g162, g163, g164, g165, g166, g167, g168, g169, g170, g171, g172, g173, g174, g175, g176, g177, g178, g179, g180, g181, g182, g183, g184, g185, g186, g187, g188, g189, g190, g191, g192, g193, g194, g195, g196, g197, g198, g199, g200, g201, g202, g203, g204, g205, g206, g207, g208, g209, g210, g211, g212, g213, g214, g215, g216, g217, g218, g219, g220, Z], []⟩ w428 (fun K => by subst hc447; kernel_rfl) ?_
                      refine WPI.done rfl ?_
                      exact ⟨c447, _, _, _, _, _, _, _, _, _, _, _, rfl, St.sel H430 [0, 1] (by decide) rfl, h⟩
                  | true =>
                    replace h := br_t h
                    refine WPI.run 7 ⟨#[.agg #[s1, s3], vp b5 0, g120, s123, vi x124, vb t419, vi t427, g127, g128, g129, g130, g131, g132, g133, .agg #[s1, s3], vb false, vp b5 0, s1, s14, g224, g225, g226, g227, g228, g229, g230, g231, vb true, g143, g144, s123, vb t419, s123, vi t423, vi t427, vb t419, vi t427, vb c444, vb true, vb true, Z, Z, Z, Z, Z, Z, vb true, g162, g163, g164, g165, g166, g167, g168, g169, g170, g171, g172, g173, g174, g175, g176, g177, g178, g179, g180, g181, g182, g183, g184, g185, g186, g187, g188, g189, g190, g191, g192, g193, g194, g195, g196, g197, g198, g199, g200, g201, g202, g203, g204, g205, g206, g207, g208, g209, g210, g211, g212, g213, g214, g215, g216, g217, g218, g219, g220, Z], []⟩ w428 (fun K => by kernel_rfl) ?_
                    refine WPI.done rfl ?_
                    exact ⟨true, _, _, _, _, _, _, _, _, _, _, _, rfl, St.sel H430 [0, 1] (by decide) rfl, h⟩
                · intro a w hq
                  refine Exists.elim hq fun c442 hq => Exists.elim hq fun g431 hq => Exists.elim hq fun g432 hq => Exists.elim hq fun g433 hq => Exists.elim hq fun g434 hq => Exists.elim hq fun g435 hq => Exists.elim hq fun g436 hq => Exists.elim hq fun g437 hq => Exists.elim hq fun g438 hq => Exists.elim hq fun g439 hq => Exists.elim hq fun g440 hq => Exists.elim hq fun g441 hq => ?_
                  obtain ⟨rfl, H, h⟩ := hq
                  have hQ := h; subst hK443; have h := hQ; clear hQ
                  obtain ⟨w448, rfl⟩ : ∃ x, x = w := ⟨_, rfl⟩
                  have H449 := H; clear H
                  have sf450 := Own.isSl (St.get H449 1 rfl)
                  refine then_n ?_
                  cases c442 with
                  | false =>
                    replace h := br_f h
                    refine WP.condF (by kernel_rfl) ?_
                    refine WP.skip ?_
                    refine then_n ?_
                    refine WP.seq ?_
                    refine WP.region ?_
                    obtain ⟨t451, ht451, h⟩ := bd_some h
                    refine WPI.run 1 ⟨#[.agg #[s1, s3], vp b5 0, g120, s123, vi x124, vb t419, vi t427, g127, g128, g129, g130, g131, g132, g133, .agg #[s1, s3], vb false, vp b5 0, s1, s14, g224, g225, g226, g227, g228, g229, g230, g231, vb true, g143, g144, s123, vb t419, s123, vi t423, vi t427, g431, g432, g433, g434, g435, g436, g437, g438, g439, g440, g441, vb false, g162, s123, g164, g165, g166, g167, g168, g169, g170, g171, g172, g173, g174, g175, g176, g177, g178, g179, g180, g181, g182, g183, g184, g185, g186, g187, g188, g189, g190, g191, g192, g193, g194, g195, g196, g197, g198, g199, g200, g201, g202, g203, g204, g205, g206, g207, g208, g209, g210, g211, g212, g213, g214, g215, g216, g217, g218, g219, g220, Z], []⟩ w448 (fun K => by kernel_rfl) ?_
                    refine WPI.op rfl (Op1.call (by kernel_rfl) (by kernel_rfl) (g_heap_Least_w fuel s123 l122 t451 ht451 _ (St.rd H449 1 rfl)) ?_)
                    rintro _ w452 ⟨rfl, Hc453⟩
                    have H454 := St.call0' H449 Hc453
                    clear H449 Hc453
                    refine WPI.run 3 ⟨#[.agg #[s1, s3], vp b5 0, g120, s123, vi x124, vb t419, vi t427, g127, g128, g129, g130, g131, g132, g133, .agg #[s1, s3], vb false, vp b5 0, s1, s14, g224, g225, g226, g227, g228, g229, g230, g231, vb true, g143, g144, s123, vb t419, s123, vi t423, vi t427, g431, g432, g433, g434, g435, g436, g437, g438, g439, g440, g441, vb false, .tuple #[TNode.val t451.1, vi t451.2], s123, .tuple #[TNode.val t451.1, vi t451.2], TNode.val t451.1, vi t451.2, g167, g168, g169, g170, g171, g172, g173, g174, g175, g176, g177, g178, g179, g180, g181, g182, g183, g184, g185, g186, g187, g188, g189, g190, g191, g192, g193, g194, g195, g196, g197, g198, g199, g200, g201, g202, g203, g204, g205, g206, g207, g208, g209, g210, g211, g212, g213, g214, g215, g216, g217, g218, g219, g220, Z], []⟩ w452 (fun K => by kernel_rfl) ?_
                    refine WPI.op rfl (Op1.alloc H454 #[vi 0, vi 0, vu 0, vu 0, vu 0, vu 0] (by kernel_rfl) 33 rfl (by kernel_rfl) (fun b455 w457 H458 => ?_))
                    clear H454
                    refine WPI.run 0 ⟨#[.agg #[s1, s3], vp b5 0, g120, s123, vi x124, vb t419, vi t427, vp b455 0, g128, g129, g130, g131, g132, g133, .agg #[s1, s3], vb false, vp b5 0, s1, s14, g224, g225, g226, g227, g228, g229, g230, g231, vb true, g143, g144, s123, vb t419, s123, vi t423, vi t427, g431, g432, g433, g434, g435, g436, g437, g438, g439, g440, g441, vb false, .tuple #[TNode.val t451.1, vi t451.2], s123, .tuple #[TNode.val t451.1, vi t451.2], TNode.val t451.1, vi t451.2, g167, g168, g169, g170, g171, g172, g173, g174, g175, g176, g177, g178, g179, g180, g181, g182, g183, g184, g185, g186, g187, g188, g189, g190, g191, g192, g193, g194, g195, g196, g197, g198, g199, g200, g201, g202, g203, g204, g205, g206, g207, g208, g209, g210, g211, g212, g213, g214, g215, g216, g217, g218, g219, g220, Z], []⟩ w457 (fun K => by kernel_rfl) ?_
                    refine WPI.op rfl (Op1.storeBox H458 0 rfl (by kernel_rfl) 33 (.tmp 7) (.tmp 50) 0 (TNode.val t451.1) (TNode.cs t451.1).toArray true rfl (by kernel_rfl) (by kernel_rfl) (by kernel_rfl) (by kernel_rfl) (by kernel_rfl) (flat_one1 fTNode t451.1) (fun w459 H460 => ?_))
                    clear H458
                    refine WPI.run 1 ⟨#[.agg #[s1, s3], vp b5 0, g120, s123, vi x124, vb t419, vi t427, vp b455 0, vi t451.2, g129, g130, g131, g132, g133, .agg #[s1, s3], vb false, vp b5 0, s1, s14, g224, g225, g226, g227, g228, g229, g230, g231, vb true, g143, g144, s123, vb t419, s123, vi t423, vi t427, g431, g432, g433, g434, g435, g436, g437, g438, g439, g440, g441, vb false, .tuple #[TNode.val t451.1, vi t451.2], s123, .tuple #[TNode.val t451.1, vi t451.2], TNode.val t451.1, vi t451.2, g167, g168, g169, g170, g171, g172, g173, g174, g175, g176, g177, g178, g179, g180, g181, g182, g183, g184, g185, g186, g187, g188, g189, g190, g191, g192, g193, g194, g195, g196, g197, g198, g199, g200, g201, g202, g203, g204, g205, g206, g207, g208, g209, g210, g211, g212, g213, g214, g215, g216, g217, g218, g219, g220, Z], []⟩ w459 (fun K => by kernel_rfl) ?_
                    refine WPI.done rfl ?_
                    refine then_n ?_
                    refine WP.seq ?_
                    refine WP.region ?_
                    refine WPI.run 1 ⟨#[.agg #[s1, s3], vp b5 0, g120, s123, vi x124, vb t419, vi t427, vp b455 0, vi t451.2, g129, g130, g131, g132, g133, .agg #[s1, s3], vb false, vp b5 0, s1, s14, g224, g225, g226, g227, g228, g229, g230, g231, vb true, g143, g144, s123, vb t419, s123, vi t423, vi t427, g431, g432, g433, g434, g435, g436, g437, g438, g439, g440, g441, vb false, .tuple #[TNode.val t451.1, vi t451.2], s123, .tuple #[TNode.val t451.1, vi t451.2], TNode.val t451.1, vi t451.2, .agg #[vi 0, vi 0, vu 0, vu 0, vu 0, vu 0], g168, g169, g170, g171, g172, g173, g174, g175, g176, g177, g178, g179, g180, g181, g182, g183, g184, g185, g186, g187, g188, g189, g190, g191, g192, g193, g194, g195, g196, g197, g198, g199, g200, g201, g202, g203, g204, g205, g206, g207, g208, g209, g210, g211, g212, g213, g214, g215, g216, g217, g218, g219, g220, Z], []⟩ w459 (fun K => by kernel_rfl) ?_
                    refine WPI.op rfl (Op1.alloc H460 #[vi 0, vi 0, vu 0, vu 0, vu 0, vu 0] (by kernel_rfl) 33 rfl (by kernel_rfl) (fun b461 w463 H464 => ?_))
                    clear H460
                    refine WPI.run 1 ⟨#[.agg #[s1, s3], vp b5 0, g120, s123, vi x124, vb t419, vi t427, vp b455 0, vi t451.2, vi 1, vp b461 0, g131, g132, g133, .agg #[s1, s3], vb false, vp b5 0, s1, s14, g224, g225, g226, g227, g228, g229, g230, g231, vb true, g143, g144, s123, vb t419, s123, vi t423, vi t427, g431, g432, g433, g434, g435, g436, g437, g438, g439, g440, g441, vb false, .tuple #[TNode.val t451.1, vi t451.2], s123, .tuple #[TNode.val t451.1, vi t451.2], TNode.val t451.1, vi t451.2, .agg #[vi 0, vi 0, vu 0, vu 0, vu 0, vu 0], g168, g169, g170, g171, g172, g173, g174, g175, g176, g177, g178, g179, g180, g181, g182, g183, g184, g185, g186, g187, g188, g189, g190, g191, g192, g193, g194, g195, g196, g197, g198, g199, g200, g201, g202, g203, g204, g205, g206, g207, g208, g209, g210, g211, g212, g213, g214, g215, g216, g217, g218, g219, g220, Z], []⟩ w463 (fun K => by kernel_rfl) ?_
                    refine WPI.op rfl (Op1.storeBox H464 0 rfl (by kernel_rfl) 33 (.tmp 10) (.tmp 52) 0 (.agg #[vi 0, vi 0, vu 0, vu 0, vu 0, vu 0]) #[vi 0, vi 0, vu 0, vu 0, vu 0, vu 0] true rfl (by kernel_rfl) (by kernel_rfl) (by kernel_rfl) (by kernel_rfl) (by kernel_rfl) (flat_one1 fTNode (TNode.mk 0 (TRank.mk 0 (TU256.mk 0 0 0 0)))) (fun w465 H466 => ?_))
                    clear H464
                    refine WPI.run 0 ⟨#[.agg #[s1, s3], vp b5 0, g120, s123, vi x124, vb t419, vi t427, vp b455 0, vi t451.2, vi 1, vp b461 0, g131, g132, g133, .agg #[s1, s3], vb false, vp b5 0, s1, s14, g224, g225, g226, g227, g228, g229, g230, g231, vb true, g143, g144, s123, vb t419, s123, vi t423, vi t427, g431, g432, g433, g434, g435, g436, g437, g438, g439, g440, g441, vb false, .tuple #[TNode.val t451.1, vi t451.2], s123, .tuple #[TNode.val t451.1, vi t451.2], TNode.val t451.1, vi t451.2, .agg #[vi 0, vi 0, vu 0, vu 0, vu 0, vu 0], g168, g169, g170, g171, g172, g173, g174, g175, g176, g177, g178, g179, g180, g181, g182, g183, g184, g185, g186, g187, g188, g189, g190, g191, g192, g193, g194, g195, g196, g197, g198, g199, g200, g201, g202, g203, g204, g205, g206, g207, g208, g209, g210, g211, g212, g213, g214, g215, g216, g217, g218, g219, g220, Z], []⟩ w465 (fun K => by kernel_rfl) ?_
                    refine WPI.done rfl ?_
                    refine then_n ?_
                    refine WP.seq ?_
                    refine WP.region ?_
                    refine WPI.run 1 ⟨#[.agg #[s1, s3], vp b5 0, g120, s123, vi x124, vb t419, vi t427, vp b455 0, vi t451.2, vi 1, vp b461 0, vn, g132, g133, .agg #[s1, s3], vb false, vp b5 0, s1, s14, g224, g225, g226, g227, g228, g229, g230, g231, vb true, g143, g144, s123, vb t419, s123, vi t423, vi t427, g431, g432, g433, g434, g435, g436, g437, g438, g439, g440, g441, vb false, .tuple #[TNode.val t451.1, vi t451.2], s123, .tuple #[TNode.val t451.1, vi t451.2], TNode.val t451.1, vi t451.2, .agg #[vi 0, vi 0, vu 0, vu 0, vu 0, vu 0], g168, g169, g170, g171, g172, g173, g174, g175, g176, g177, g178, g179, g180, g181, g182, g183, g184, g185, g186, g187, g188, g189, g190, g191, g192, g193, g194, g195, g196, g197, g198, g199, g200, g201, g202, g203, g204, g205, g206, g207, g208, g209, g210, g211, g212, g213, g214, g215, g216, g217, g218, g219, g220, Z], []⟩ w465 (fun K => by kernel_rfl) ?_
                    refine WPI.done rfl ?_
                    refine then_n ?_
                    obtain ⟨K481, hK481, h⟩ := jn_some h
                    refine WP.seqJ (fun a w => ∃ (x467 : TNode) (x468 : Int) (l470 : List TNode) (s471 : Value) (g472 : Value) (g473 : Value) (g474 : Value) (g475 : Value) (g476 : Value) (g477 : Value) (g478 : Value) (g479 : Value) (g480 : Value), a = ⟨#[.agg #[s1, s3], vp b5 0, g120, s123, vi x124, vb t419, vi t427, vp b455 0, vi t451.2, vi x468, vp b461 0, s471, g132, g133, .agg #[s1, s3], vb false, vp b5 0, s1, s14, g224, g225, g226, g227, g228, g229, g230, g231, vb true, g143, g144, s123, vb t419, s123, vi t423, vi t427, g431, g432, g433, g434, g435, g436, g437, g438, g439, g440, g441, vb false, .tuple #[TNode.val t451.1, vi t451.2], s123, .tuple #[TNode.val t451.1, vi t451.2], TNode.val t451.1, vi t451.2, .agg #[vi 0, vi 0, vu 0, vu 0, vu 0, vu 0], g472, g473, g474, g475, g476, g477, g478, g479, g480, g177, g178, g179, g180, g181, g182, g183, g184, g185, g186, g187, g188, g189, g190, g191, g192, g193, g194, g195, g196, g197, g198, g199, g200, g201, g202, g203, g204, g205, g206, g207, g208, g209, g210, g211, g212, g213, g214, g215, g216, g217, g218, g219, g220, Z], []⟩ ∧ St no w0 w [Box b461 (TNode.cs x467).toArray 33, Box b455 (TNode.cs t451.1).toArray 33, Box b5 #[s1, s3] 25, Own fTNode 33 s123 l122, Own fTNode 33 s471 l470] ∧ K481 x467 x468 l470 = some r) ?_ ?_
                    · skip
                      refine WP.seq ?_
                      refine WP.region ?_
                      refine WPI.run 1 ⟨#[.agg #[s1, s3], vp b5 0, g120, s123, vi x124, vb t419, vi t427, vp b455 0, vi t451.2, vi 1, vp b461 0, vn, g132, g133, .agg #[s1, s3], vb false, vp b5 0, s1, s14, g224, g225, g226, g227, g228, g229, g230, g231, vb true, g143, g144, s123, vb t419, s123, vi t423, vi t427, g431, g432, g433, g434, g435, g436, g437, g438, g439, g440, g441, vb false, .tuple #[TNode.val t451.1, vi t451.2], s123, .tuple #[TNode.val t451.1, vi t451.2], TNode.val t451.1, vi t451.2, .agg #[vi 0, vi 0, vu 0, vu 0, vu 0, vu 0], vb t419, g169, g170, g171, g172, g173, g174, g175, g176, g177, g178, g179, g180, g181, g182, g183, g184, g185, g186, g187, g188, g189, g190, g191, g192, g193, g194, g195, g196, g197, g198, g199, g200, g201, g202, g203, g204, g205, g206, g207, g208, g209, g210, g211, g212, g213, g214, g215, g216, g217, g218, g219, g220, Z], []⟩ w465 (fun K => by kernel_rfl) ?_
                      refine WPI.done rfl ?_
                      refine then_n ?_
                      cases t419 with
                      | false =>
                        replace h := br_f h
                        refine WP.condF (by kernel_rfl) ?_
                        refine WP.skip ?_
                        exact then_n ⟨(TNode.mk 0 (TRank.mk 0 (TU256.mk 0 0 0 0))), 1, ([]), vn, _, _, _, _, _, _, _, _, _, rfl, St.sel (St.nil H466 fTNode 33) [1, 2, 3, 4, 0] (by decide) rfl, h⟩
                      | true =>
                        replace h := br_t h
                        refine WP.condT (by kernel_rfl) ?_
                        refine WP.seq ?_
                        refine WP.region ?_
                        refine WPI.run 1 ⟨#[.agg #[s1, s3], vp b5 0, g120, s123, vi x124, vb true, vi t427, vp b455 0, vi t451.2, vi 3, vp b461 0, vn, g132, g133, .agg #[s1, s3], vb false, vp b5 0, s1, s14, g224, g225, g226, g227, g228, g229, g230, g231, vb true, g143, g144, s123, vb true, s123, vi t423, vi t427, g431, g432, g433, g434, g435, g436, g437, g438, g439, g440, g441, vb false, .tuple #[TNode.val t451.1, vi t451.2], s123, .tuple #[TNode.val t451.1, vi t451.2], TNode.val t451.1, vi t451.2, .agg #[vi 0, vi 0, vu 0, vu 0, vu 0, vu 0], vb true, g169, g170, g171, g172, g173, g174, g175, g176, g177, g178, g179, g180, g181, g182, g183, g184, g185, g186, g187, g188, g189, g190, g191, g192, g193, g194, g195, g196, g197, g198, g199, g200, g201, g202, g203, g204, g205, g206, g207, g208, g209, g210, g211, g212, g213, g214, g215, g216, g217, g218, g219, g220, Z], []⟩ w465 (fun K => by kernel_rfl) ?_
                        refine WPI.done rfl ?_
                        refine then_n ?_
                        refine WP.seq ?_
                        refine WP.region ?_
                        obtain ⟨t482, ht482, h⟩ := bd_some h
                        refine WPI.run 1 ⟨#[.agg #[s1, s3], vp b5 0, g120, s123, vi x124, vb true, vi t427, vp b455 0, vi t451.2, vi 3, vp b461 0, vn, g132, g133, .agg #[s1, s3], vb false, vp b5 0, s1, s14, g224, g225, g226, g227, g228, g229, g230, g231, vb true, g143, g144, s123, vb true, s123, vi t423, vi t427, g431, g432, g433, g434, g435, g436, g437, g438, g439, g440, g441, vb false, .tuple #[TNode.val t451.1, vi t451.2], s123, .tuple #[TNode.val t451.1, vi t451.2], TNode.val t451.1, vi t451.2, .agg #[vi 0, vi 0, vu 0, vu 0, vu 0, vu 0], vb true, s123, g170, g171, g172, g173, g174, g175, g176, g177, g178, g179, g180, g181, g182, g183, g184, g185, g186, g187, g188, g189, g190, g191, g192, g193, g194, g195, g196, g197, g198, g199, g200, g201, g202, g203, g204, g205, g206, g207, g208, g209, g210, g211, g212, g213, g214, g215, g216, g217, g218, g219, g220, Z], []⟩ w465 (fun K => by kernel_rfl) ?_
                        refine WPI.op rfl (Op1.call (by kernel_rfl) (by kernel_rfl) (g_tarnref12_Order_w fuel s123 l122 t482 ht482 _ (St.rd H466 3 rfl)) ?_)
                        rintro s483 w486 ⟨_, rfl, Hc487⟩
                        have H488 := St.call0 H466 Hc487
                        clear H466 Hc487
                        have sf485 := Own.isSl (St.get H488 0 rfl)
                        refine WPI.run 1 ⟨#[.agg #[s1, s3], vp b5 0, g120, s123, vi x124, vb true, vi t427, vp b455 0, vi t451.2, vi 3, vp b461 0, s483, g132, g133, .agg #[s1, s3], vb false, vp b5 0, s1, s14, g224, g225, g226, g227, g228, g229, g230, g231, vb true, g143, g144, s123, vb true, s123, vi t423, vi t427, g431, g432, g433, g434, g435, g436, g437, g438, g439, g440, g441, vb false, .tuple #[TNode.val t451.1, vi t451.2], s123, .tuple #[TNode.val t451.1, vi t451.2], TNode.val t451.1, vi t451.2, .agg #[vi 0, vi 0, vu 0, vu 0, vu 0, vu 0], vb true, s123, s483, g171, g172, g173, g174, g175, g176, g177, g178, g179, g180, g181, g182, g183, g184, g185, g186, g187, g188, g189, g190, g191, g192, g193, g194, g195, g196, g197, g198, g199, g200, g201, g202, g203, g204, g205, g206, g207, g208, g209, g210, g211, g212, g213, g214, g215, g216, g217, g218, g219, g220, Z], []⟩ w486 (fun K => by kernel_rfl) ?_
                        refine WPI.done rfl ?_
                        refine then_n ?_
                        refine WP.seq ?_
                        refine WP.region ?_
                        refine WPI.run 1 ⟨#[.agg #[s1, s3], vp b5 0, g120, s123, vi x124, vb true, vi t427, vp b455 0, vi t451.2, vi 3, vp b461 0, s483, g132, g133, .agg #[s1, s3], vb false, vp b5 0, s1, s14, g224, g225, g226, g227, g228, g229, g230, g231, vb true, g143, g144, s123, vb true, s123, vi t423, vi t427, g431, g432, g433, g434, g435, g436, g437, g438, g439, g440, g441, vb false, .tuple #[TNode.val t451.1, vi t451.2], s123, .tuple #[TNode.val t451.1, vi t451.2], TNode.val t451.1, vi t451.2, .agg #[vi 0, vi 0, vu 0, vu 0, vu 0, vu 0], vb true, s123, s483, s123, g172, g173, g174, g175, g176, g177, g178, g179, g180, g181, g182, g183, g184, g185, g186, g187, g188, g189, g190, g191, g192, g193, g194, g195, g196, g197, g198, g199, g200, g201, g202, g203, g204, g205, g206, g207, g208, g209, g210, g211, g212, g213, g214, g215, g216, g217, g218, g219, g220, Z], []⟩ w486 (fun K => by kernel_rfl) ?_
                        refine WPI.value (v := vi (((List.length l122 : Nat) : Int))) rfl (by kernel_rfl) (ev_len sf450 22 (.tmp 56) 33 6 48 rfl (by kernel_rfl) (by kernel_rfl)) ?_
                        obtain ⟨c489, hc489, h⟩ := lt_some h
                        refine WPI.run 1 ⟨#[.agg #[s1, s3], vp b5 0, g120, s123, vi x124, vb true, vi t427, vp b455 0, vi t451.2, vi 3, vp b461 0, s483, g132, g133, .agg #[s1, s3], vb false, vp b5 0, s1, s14, g224, g225, g226, g227, g228, g229, g230, g231, vb true, g143, g144, s123, vb true, s123, vi t423, vi t427, g431, g432, g433, g434, g435, g436, g437, g438, g439, g440, g441, vb false, .tuple #[TNode.val t451.1, vi t451.2], s123, .tuple #[TNode.val t451.1, vi t451.2], TNode.val t451.1, vi t451.2, .agg #[vi 0, vi 0, vu 0, vu 0, vu 0, vu 0], vb true, s123, s483, s123, vi (((List.length l122 : Nat) : Int)), vb c489, g174, g175, g176, g177, g178, g179, g180, g181, g182, g183, g184, g185, g186, g187, g188, g189, g190, g191, g192, g193, g194, g195, g196, g197, g198, g199, g200, g201, g202, g203, g204, g205, g206, g207, g208, g209, g210, g211, g212, g213, g214, g215, g216, g217, g218, g219, g220, Z], []⟩ w486 (fun K => by subst hc489; kernel_rfl) ?_
                        refine WPI.done rfl ?_
                        refine then_n ?_
                        cases c489 with
                        | false =>
                          replace h := br_f h
                          refine WP.condF (by kernel_rfl) ?_
                          refine WP.skip ?_
                          exact then_n ⟨(TNode.mk 0 (TRank.mk 0 (TU256.mk 0 0 0 0))), 3, t482, s483, _, _, _, _, _, _, _, _, _, rfl, St.sel H488 [1, 2, 3, 4, 0] (by decide) rfl, h⟩
                        | true =>
                          replace h := br_t h
                          refine WP.condT (by kernel_rfl) ?_
                          obtain ⟨K494, hK494, h⟩ := jn_some h
                          refine WP.draw (by kernel_rfl) (by kernel_rfl) (fun a w => ∃ (x490 : TNode) (g491 : Value) (g492 : Value) (g493 : Value), a = ⟨#[.agg #[s1, s3], vp b5 0, g120, s123, vi x124, vb true, vi t427, vp b455 0, vi t451.2, vi 0, vp b461 0, s483, g132, g133, .agg #[s1, s3], vb false, vp b5 0, s1, s14, g224, g225, g226, g227, g228, g229, g230, g231, vb true, g143, g144, s123, vb true, s123, vi t423, vi t427, g431, g432, g433, g434, g435, g436, g437, g438, g439, g440, g441, vb false, .tuple #[TNode.val t451.1, vi t451.2], s123, .tuple #[TNode.val t451.1, vi t451.2], TNode.val t451.1, vi t451.2, .agg #[vi 0, vi 0, vu 0, vu 0, vu 0, vu 0], vb true, s123, s483, s123, vi (((List.length l122 : Nat) : Int)), vb true, g491, g492, g493, g177, g178, g179, g180, g181, g182, g183, g184, g185, g186, g187, g188, g189, g190, g191, g192, g193, g194, g195, g196, g197, g198, g199, g200, g201, g202, g203, g204, g205, g206, g207, g208, g209, g210, g211, g212, g213, g214, g215, g216, g217, g218, g219, g220, Z], []⟩ ∧ St no w0 w [Box b461 (TNode.cs x490).toArray 33, Box b455 (TNode.cs t451.1).toArray 33, Box b5 #[s1, s3] 25, Own fTNode 33 s483 t482, Own fTNode 33 s123 l122] ∧ K494 x490 = some r) 5 #[false, false, false, false, false] (by kernel_rfl) (by kernel_rfl) ?_ ?_
                          · skip
                            have H495 := St.drew H488
                            obtain ⟨hg496, h⟩ := gd_some h
                            obtain ⟨x497, hx497, h⟩ := bd_some h
                            refine WA.take 0 (v := s123) rfl (by kernel_rfl) (by kernel_rfl) (fun w => by kernel_rfl) (fun w => by kernel_rfl) (l' := #[true, false, false, false, false]) (by kernel_rfl) ?_
                            refine WA.take 1 (v := va (slAt s123 6 (Int.toNat 0))) rfl (by kernel_rfl) (by kernel_rfl) (fun w => ev_index sf450 22 (.tmp 59) (.const (vi 0)) 33 6 48 .i64 0 rfl (by kernel_rfl) (by kernel_rfl) (by kernel_rfl) hg496) (fun w => by kernel_rfl) (l' := #[true, true, false, false, false]) (by kernel_rfl) ?_
                            refine WA.take 3 (v := vi 0) rfl (by kernel_rfl) (by kernel_rfl) (fun w => by kernel_rfl) (fun w => by kernel_rfl) (l' := #[true, true, false, true, false]) (by kernel_rfl) ?_
                            refine WA.any [2] (by kernel_rfl) (by simp) ?_
                            simp only [List.mem_singleton, forall_eq]
                            refine WO.op rfl (Op1.val (v := TNode.val x497) (by kernel_rfl) (ev_loadEl (F := fTNode) (St.rd H495 4 rfl) (hp_no_le _) hx497 33 (.tmp 60) 0 (TNode.val x497) rfl (by kernel_rfl) (by kernel_rfl)) ?_)
                            refine WA.lst (l := #[true, true, true, true, false]) (by kernel_rfl) ?_
                            refine WA.any [4] (by kernel_rfl) (by simp) ?_
                            simp only [List.mem_singleton, forall_eq]
                            refine WO.op rfl (Op1.storeBox H495 1 rfl (by kernel_rfl) 33 (.tmp 10) (.tmp 61) 0 (TNode.val x497) (TNode.cs x497).toArray true rfl (by kernel_rfl) (by kernel_rfl) (by kernel_rfl) (by kernel_rfl) (by kernel_rfl) (flat_one1 fTNode x497) (fun w498 H499 => ?_))
                            clear H495
                            refine WA.lst (l := #[true, true, true, true, true]) (by kernel_rfl) ?_
                            refine WA.done (by kernel_rfl) ?_
                            exact ⟨x497, s123, (va (slAt s123 6 (Int.toNat 0))), (TNode.val x497), (by kernel_rfl), St.sel H499 [0, 2, 3, 1, 4] (by decide) rfl, h⟩
                          · rintro a w ⟨x490, g491, g492, g493, rfl, H, h⟩
                            have hQ := h; subst hK494; have h := hQ; clear hQ
                            obtain ⟨w500, rfl⟩ : ∃ x, x = w := ⟨_, rfl⟩
                            have H501 := H; clear H
                            have sf502 := Own.isSl (St.get H501 3 rfl)
                            have sf503 := Own.isSl (St.get H501 4 rfl)
                            exact then_n ⟨x490, 0, t482, s483, _, _, _, _, _, _, _, _, _, rfl, St.sel H501 [0, 1, 2, 4, 3] (by decide) rfl, h⟩
                    · intro a w hq
                      refine Exists.elim hq fun x467 hq => Exists.elim hq fun x468 hq => Exists.elim hq fun l470 hq => Exists.elim hq fun s471 hq => Exists.elim hq fun g472 hq => Exists.elim hq fun g473 hq => Exists.elim hq fun g474 hq => Exists.elim hq fun g475 hq => Exists.elim hq fun g476 hq => Exists.elim hq fun g477 hq => Exists.elim hq fun g478 hq => Exists.elim hq fun g479 hq => Exists.elim hq fun g480 hq => ?_
                      obtain ⟨rfl, H, h⟩ := hq
                      have hQ := h; subst hK481; have h := hQ; clear hQ
                      obtain ⟨w504, rfl⟩ : ∃ x, x = w := ⟨_, rfl⟩
                      have H505 := H; clear H
                      have sf506 := Own.isSl (St.get H505 3 rfl)
                      have sf507 := Own.isSl (St.get H505 4 rfl)
                      refine WP.seq ?_
                      refine WP.seq ?_
                      obtain ⟨K538, hK538, h⟩ := jn_some h
                      refine WP.draw (by kernel_rfl) (by kernel_rfl) (fun a w => ∃ (c537 : Bool) (g508 : Value) (g509 : Value) (g510 : Value) (g511 : Value) (g512 : Value) (g513 : Value) (g514 : Value) (g515 : Value) (g516 : Value) (g517 : Value) (g518 : Value) (g519 : Value) (g520 : Value) (g521 : Value) (g522 : Value) (g523 : Value) (g524 : Value) (g525 : Value) (g526 : Value) (g527 : Value) (g528 : Value) (g529 : Value) (g530 : Value) (g531 : Value) (g532 : Value) (g533 : Value) (g534 : Value) (g535 : Value) (g536 : Value), a = ⟨#[.agg #[s1, s3], vp b5 0, g120, s123, vi x124, vb t419, vi t427, vp b455 0, vi t451.2, vi x468, vp b461 0, s471, g132, g133, .agg #[s1, s3], vb false, vp b5 0, s1, s14, g224, g225, g226, g227, g228, g229, g230, g231, vb true, g143, g144, s123, vb t419, s123, vi t423, vi t427, g431, g432, g433, g434, g435, g436, g437, g438, g439, g440, g441, vb false, .tuple #[TNode.val t451.1, vi t451.2], s123, .tuple #[TNode.val t451.1, vi t451.2], TNode.val t451.1, vi t451.2, .agg #[vi 0, vi 0, vu 0, vu 0, vu 0, vu 0], g472, g473, g474, g475, g476, g477, g478, g479, g480, g508, g509, g510, g511, g512, g513, g514, g515, g516, g517, g518, g519, g520, g521, g522, g523, g524, g525, g526, g527, g528, g529, g530, g531, g532, g533, g534, g535, g536, vb c537, g207, g208, g209, g210, g211, g212, g213, g214, g215, g216, g217, g218, g219, g220, Z], []⟩ ∧ St no w0 w [Box b461 (TNode.cs x467).toArray 33, Box b455 (TNode.cs t451.1).toArray 33, Box b5 #[s1, s3] 25, Own fTNode 33 s123 l122, Own fTNode 33 s471 l470] ∧ K538 c537 = some r) 30 #[false, false, false, false, false, false, false, false, false, false, false, false, false, false, false, false, false, false, false, false, false, false, false, false, false, false, false, false, false, false] (by kernel_rfl) (by kernel_rfl) ?_ ?_
                      · skip
                        have H539 := St.drew H505
                        obtain ⟨t540, ht540, h⟩ := bd_some h
                        obtain ⟨c541, hc541, h⟩ := lt_some h
                        cases c541 with
                        | false =>
                          replace h := br_f h
                          obtain ⟨c542, hc542, h⟩ := lt_some h
                          cases c542 with
                          | false =>
                            replace h := br_f h
                            obtain ⟨t543, ht543, h⟩ := bd_some h
                            obtain ⟨t547, ht547, h⟩ := bd_some h
                            obtain ⟨c548, hc548, h⟩ := lt_some h
                            cases c548 with
                            | false =>
                              replace h := br_f h
                              obtain ⟨x549, hx549, h⟩ := lt_some h
                              obtain ⟨t550, ht550, h⟩ := bd_some h
                              obtain ⟨x554, hx554, h⟩ := lt_some h
                              obtain ⟨hg555, h⟩ := gd_some h
                              obtain ⟨t556, ht556, h⟩ := bd_some h
                              obtain ⟨c557, hc557, h⟩ := lt_some h
                              refine WA.runs2 (n := 28) [(0, some (vi t451.2)), (2, some (vi x468))] #[true, false, true, false, false, false, false, false, false, false, false, false, false, false, false, false, false, false, false, false, false, false, false, false, false, false, false, false, false, false] rfl (fun K => by kernel_rfl) ?_
                              refine WA.any [1] (by kernel_rfl) (by simp) ?_
                              simp only [List.mem_singleton, forall_eq]
                              have hB := fun wz => g_tarnlaw13_num_w fuel t451.2 t540 ht540 wz
                              refine WO.op (o := ?o1) ?ho1 ?hop1
                              case ho1 => exact rfl
                              refine Op1.call (by kernel_rfl) (by kernel_rfl) (hB _) ?_
                              clear hB
                              rintro _ w558 ⟨rfl, Hc559⟩
                              have H560 := St.call0' H539 Hc559
                              clear H539 Hc559
                              refine WA.lst (l := #[true, true, true, false, false, false, false, false, false, false, false, false, false, false, false, false, false, false, false, false, false, false, false, false, false, false, false, false, false, false]) (by kernel_rfl) ?_
                              refine WA.take 3 (v := vb false) rfl (by kernel_rfl) (by kernel_rfl) (fun w => Eq.trans (by kernel_rfl) (congrArg (fun c => Result.ok (Next.value (Value.bool c)) w) (hc541).symm)) (fun w => by kernel_rfl) (l' := #[true, true, true, true, false, false, false, false, false, false, false, false, false, false, false, false, false, false, false, false, false, false, false, false, false, false, false, false, false, false]) (by kernel_rfl) ?_
                              refine WA.take 4 (v := vb false) rfl (by kernel_rfl) (by kernel_rfl) (fun w => by kernel_rfl) (fun w => by kernel_rfl) (l' := #[true, true, true, true, true, false, false, false, false, false, false, false, false, false, false, false, false, false, false, false, false, false, false, false, false, false, false, false, false, false]) (by kernel_rfl) ?_
                              refine WA.any [5, 6] (by kernel_rfl) (by simp) ?_
                              simp only [List.mem_cons, List.not_mem_nil, or_false, forall_eq_or_imp, forall_eq]
                              refine ⟨?_, ?_⟩
                              · skip
                                refine WO.op rfl (Op1.val (v := TNode.val t451.1) (by kernel_rfl) (ev_loadBox H560 1 rfl 33 (.tmp 7) 0 (TNode.val t451.1) rfl (by kernel_rfl) (by kernel_rfl)) ?_)
                                refine WA.lst (l := #[true, true, true, true, true, true, false, false, false, false, false, false, false, false, false, false, false, false, false, false, false, false, false, false, false, false, false, false, false, false]) (by kernel_rfl) ?_
                                refine WA.any [6] (by kernel_rfl) (by simp) ?_
                                simp only [List.mem_singleton, forall_eq]
                                refine WO.op rfl (Op1.val (v := TNode.val x467) (by kernel_rfl) (ev_loadBox H560 0 rfl 33 (.tmp 10) 0 (TNode.val x467) rfl (by kernel_rfl) (by kernel_rfl)) ?_)
                                refine WA.lst (l := #[true, true, true, true, true, true, true, false, false, false, false, false, false, false, false, false, false, false, false, false, false, false, false, false, false, false, false, false, false, false]) (by kernel_rfl) ?_
                                refine WA.take 7 (v := vb false) rfl (by kernel_rfl) (by kernel_rfl) (fun w => Eq.trans (ev_neqS (F := fTNode) 33 33 (.tmp 67) (.tmp 68) t451.1 x467 eqok_33 rfl (TNode.cs t451.1).toArray (TNode.cs x467).toArray rfl rfl (by kernel_rfl) (by kernel_rfl) (by kernel_rfl)) (congrArg (fun c => Result.ok (Next.value (Value.bool c)) w) (hc542).symm)) (fun w => by kernel_rfl) (l' := #[true, true, true, true, true, true, true, true, false, false, false, false, false, false, false, false, false, false, false, false, false, false, false, false, false, false, false, false, false, false]) (by kernel_rfl) ?_
                                refine WA.runs2 (n := 18) [(8, some (vb false)), (9, some (vb false)), (10, some (s123)), (12, some (s471))] #[true, true, true, true, true, true, true, true, true, true, true, false, true, false, false, false, false, false, false, false, false, false, false, false, false, false, false, false, false, false] rfl (fun K => by kernel_rfl) ?_
                                refine WA.any [11] (by kernel_rfl) (by simp) ?_
                                simp only [List.mem_singleton, forall_eq]
                                have hB := g_tarnlaw13_order_w fuel s123 l122 1000 t543 ht543 _ (St.rd H560 3 rfl)
                                refine WO.op (o := ?o2) ?ho2 ?hop2
                                case ho2 => exact rfl
                                refine Op1.call (by kernel_rfl) (by kernel_rfl) hB ?_
                                clear hB
                                rintro s544 w561 ⟨_, rfl, Hc562⟩
                                have H563 := St.call0 H560 Hc562
                                clear H560 Hc562
                                have sf546 := Own.isSl (St.get H563 0 rfl)
                                refine WA.lst (l := #[true, true, true, true, true, true, true, true, true, true, true, true, true, false, false, false, false, false, false, false, false, false, false, false, false, false, false, false, false, false]) (by kernel_rfl) ?_
                                refine WA.any [13] (by kernel_rfl) (by simp) ?_
                                simp only [List.mem_singleton, forall_eq]
                                have hB := g_tarnref0_EqNodes_w fuel s544 t543 s471 l470 t547 ht547 _ (St.rd H563 0 rfl) (St.rd H563 5 rfl)
                                refine WO.op (o := ?o3) ?ho3 ?hop3
                                case ho3 => exact rfl
                                refine Op1.call (by kernel_rfl) (by kernel_rfl) hB ?_
                                clear hB
                                rintro _ w564 ⟨rfl, Hc565⟩
                                have H566 := St.call0' H563 Hc565
                                clear H563 Hc565
                                refine WA.lst (l := #[true, true, true, true, true, true, true, true, true, true, true, true, true, true, false, false, false, false, false, false, false, false, false, false, false, false, false, false, false, false]) (by kernel_rfl) ?_
                                refine WA.take 14 (v := vb false) rfl (by kernel_rfl) (by kernel_rfl) (fun w => Eq.trans (by kernel_rfl) (congrArg (fun c => Result.ok (Next.value (Value.bool c)) w) (hc548).symm)) (fun w => by kernel_rfl) (l' := #[true, true, true, true, true, true, true, true, true, true, true, true, true, true, true, false, false, false, false, false, false, false, false, false, false, false, false, false, false, false]) (by kernel_rfl) ?_
                                refine WA.runs2 (n := 11) [(15, some (vb false)), (16, some (vb false)), (17, some (s123)), (18, some (s471))] #[true, true, true, true, true, true, true, true, true, true, true, true, true, true, true, true, true, true, true, false, false, false, false, false, false, false, false, false, false, false] rfl (fun K => by kernel_rfl) ?_
                                refine WA.take 19 (v := vi (((List.length l470 : Nat) : Int))) rfl (by kernel_rfl) (by kernel_rfl) (fun w => ev_len sf507 22 (.tmp 80) 33 6 48 rfl (by kernel_rfl) (by kernel_rfl)) (fun w => by kernel_rfl) (l' := #[true, true, true, true, true, true, true, true, true, true, true, true, true, true, true, true, true, true, true, true, false, false, false, false, false, false, false, false, false, false]) (by kernel_rfl) ?_
                                refine WA.take 20 (v := vi x549) rfl (by kernel_rfl) (by kernel_rfl) (fun w => by subst hx549; kernel_rfl) (fun w => by kernel_rfl) (l' := #[true, true, true, true, true, true, true, true, true, true, true, true, true, true, true, true, true, true, true, true, true, false, false, false, false, false, false, false, false, false]) (by kernel_rfl) ?_
                                refine WA.runs2 (n := 7) [(22, some (s471)), (23, some (s471))] #[true, true, true, true, true, true, true, true, true, true, true, true, true, true, true, true, true, true, true, true, true, false, true, true, false, false, false, false, false, false] rfl (fun K => by kernel_rfl) ?_
                                refine WA.take 24 (v := vi (((List.length l470 : Nat) : Int))) rfl (by kernel_rfl) (by kernel_rfl) (fun w => ev_len sf507 22 (.tmp 85) 33 6 48 rfl (by kernel_rfl) (by kernel_rfl)) (fun w => by kernel_rfl) (l' := #[true, true, true, true, true, true, true, true, true, true, true, true, true, true, true, true, true, true, true, true, true, false, true, true, true, false, false, false, false, false]) (by kernel_rfl) ?_
                                refine WA.take 25 (v := vi x554) rfl (by kernel_rfl) (by kernel_rfl) (fun w => by subst hx554; kernel_rfl) (fun w => by kernel_rfl) (l' := #[true, true, true, true, true, true, true, true, true, true, true, true, true, true, true, true, true, true, true, true, true, false, true, true, true, true, false, false, false, false]) (by kernel_rfl) ?_
                                refine WA.take 26 (v := (slSub s471 6 0 (Int.toNat x554))) rfl (by kernel_rfl) (by kernel_rfl) (fun w => ev_slice sf507 22 (.tmp 84) none (some (.tmp 87)) 33 6 48 0 x554 rfl (by kernel_rfl) (by kernel_rfl) (.inl ⟨rfl, rfl⟩) (.inr ⟨(.tmp 87), .i64, rfl, by kernel_rfl⟩) hg555) (fun w => by kernel_rfl) (l' := #[true, true, true, true, true, true, true, true, true, true, true, true, true, true, true, true, true, true, true, true, true, false, true, true, true, true, true, false, false, false]) (by kernel_rfl) ?_
                                refine WA.any [21] (by kernel_rfl) (by simp) ?_
                                simp only [List.mem_singleton, forall_eq]
                                have hB := g_tarnlaw13_order_w fuel s123 l122 x549 t550 ht550 _ (St.rd H566 4 rfl)
                                refine WO.op (o := ?o4) ?ho4 ?hop4
                                case ho4 => exact rfl
                                refine Op1.call (by kernel_rfl) (by kernel_rfl) hB ?_
                                clear hB
                                rintro s551 w567 ⟨_, rfl, Hc568⟩
                                have H569 := St.call0 H566 Hc568
                                clear H566 Hc568
                                have sf553 := Own.isSl (St.get H569 0 rfl)
                                refine WA.lst (l := #[true, true, true, true, true, true, true, true, true, true, true, true, true, true, true, true, true, true, true, true, true, true, true, true, true, true, true, false, false, false]) (by kernel_rfl) ?_
                                refine WA.any [27] (by kernel_rfl) (by simp) ?_
                                simp only [List.mem_singleton, forall_eq]
                                have hB := g_tarnref0_EqNodes_w fuel s551 t550 (slSub s471 6 0 (Int.toNat x554)) ((List.take (Int.toNat x554) l470)) t556 ht556 _ (St.rd H569 0 rfl) (Rd.sub (lo := Int.toNat 0) (hi := Int.toNat x554) (St.rd H569 6 rfl) (piece_lo hg555) (piece_hi hg555))
                                refine WO.op (o := ?o5) ?ho5 ?hop5
                                case ho5 => exact rfl
                                refine Op1.call (by kernel_rfl) (by kernel_rfl) hB ?_
                                clear hB
                                rintro _ w570 ⟨rfl, Hc571⟩
                                have H572 := St.call0' H569 Hc571
                                clear H569 Hc571
                                refine WA.lst (l := #[true, true, true, true, true, true, true, true, true, true, true, true, true, true, true, true, true, true, true, true, true, true, true, true, true, true, true, true, false, false]) (by kernel_rfl) ?_
                                refine WA.take 28 (v := vb c557) rfl (by kernel_rfl) (by kernel_rfl) (fun w => by subst hc557; kernel_rfl) (fun w => by kernel_rfl) (l' := #[true, true, true, true, true, true, true, true, true, true, true, true, true, true, true, true, true, true, true, true, true, true, true, true, true, true, true, true, true, false]) (by kernel_rfl) ?_
                                refine WA.take 29 (v := vb c557) rfl (by kernel_rfl) (by kernel_rfl) (fun w => by kernel_rfl) (fun w => by kernel_rfl) (l' := #[true, true, true, true, true, true, true, true, true, true, true, true, true, true, true, true, true, true, true, true, true, true, true, true, true, true, true, true, true, true]) (by kernel_rfl) ?_
                                refine WA.done (by kernel_rfl) ?_
                                exact ⟨c557, (vi t451.2), (vi t540), (vi x468), (vb false), (vb false), (TNode.val t451.1), (TNode.val x467), (vb false), (vb false), (vb false), s123, s544, s471, (vb t547), (vb false), (vb false), (vb false), s123, s471, (vi (((List.length l470 : Nat) : Int))), (vi x549), s551, s471, s471, (vi (((List.length l470 : Nat) : Int))), (vi x554), ((slSub s471 6 0 (Int.toNat x554))), (vb t556), (vb c557), (by kernel_rfl), St.sel H572 [2, 3, 4, 5, 6] (by decide) rfl, h⟩
                              · skip
                                refine WO.op rfl (Op1.val (v := TNode.val x467) (by kernel_rfl) (ev_loadBox H560 0 rfl 33 (.tmp 10) 0 (TNode.val x467) rfl (by kernel_rfl) (by kernel_rfl)) ?_)
                                refine WA.lst (l := #[true, true, true, true, true, false, true, false, false, false, false, false, false, false, false, false, false, false, false, false, false, false, false, false, false, false, false, false, false, false]) (by kernel_rfl) ?_
                                refine WA.any [5] (by kernel_rfl) (by simp) ?_
                                simp only [List.mem_singleton, forall_eq]
                                refine WO.op rfl (Op1.val (v := TNode.val t451.1) (by kernel_rfl) (ev_loadBox H560 1 rfl 33 (.tmp 7) 0 (TNode.val t451.1) rfl (by kernel_rfl) (by kernel_rfl)) ?_)
                                refine WA.lst (l := #[true, true, true, true, true, true, true, false, false, false, false, false, false, false, false, false, false, false, false, false, false, false, false, false, false, false, false, false, false, false]) (by kernel_rfl) ?_
                                refine WA.take 7 (v := vb false) rfl (by kernel_rfl) (by kernel_rfl) (fun w => Eq.trans (ev_neqS (F := fTNode) 33 33 (.tmp 67) (.tmp 68) t451.1 x467 eqok_33 rfl (TNode.cs t451.1).toArray (TNode.cs x467).toArray rfl rfl (by kernel_rfl) (by kernel_rfl) (by kernel_rfl)) (congrArg (fun c => Result.ok (Next.value (Value.bool c)) w) (hc542).symm)) (fun w => by kernel_rfl) (l' := #[true, true, true, true, true, true, true, true, false, false, false, false, false, false, false, false, false, false, false, false, false, false, false, false, false, false, false, false, false, false]) (by kernel_rfl) ?_
                                refine WA.runs2 (n := 18) [(8, some (vb false)), (9, some (vb false)), (10, some (s123)), (12, some (s471))] #[true, true, true, true, true, true, true, true, true, true, true, false, true, false, false, false, false, false, false, false, false, false, false, false, false, false, false, false, false, false] rfl (fun K => by kernel_rfl) ?_
                                refine WA.any [11] (by kernel_rfl) (by simp) ?_
                                simp only [List.mem_singleton, forall_eq]
                                have hB := g_tarnlaw13_order_w fuel s123 l122 1000 t543 ht543 _ (St.rd H560 3 rfl)
                                refine WO.op (o := ?o6) ?ho6 ?hop6
                                case ho6 => exact rfl
                                refine Op1.call (by kernel_rfl) (by kernel_rfl) hB ?_
                                clear hB
                                rintro s544 w573 ⟨_, rfl, Hc574⟩
                                have H575 := St.call0 H560 Hc574
                                clear H560 Hc574
                                have sf546 := Own.isSl (St.get H575 0 rfl)
                                refine WA.lst (l := #[true, true, true, true, true, true, true, true, true, true, true, true, true, false, false, false, false, false, false, false, false, false, false, false, false, false, false, false, false, false]) (by kernel_rfl) ?_
                                refine WA.any [13] (by kernel_rfl) (by simp) ?_
                                simp only [List.mem_singleton, forall_eq]
                                have hB := g_tarnref0_EqNodes_w fuel s544 t543 s471 l470 t547 ht547 _ (St.rd H575 0 rfl) (St.rd H575 5 rfl)
                                refine WO.op (o := ?o7) ?ho7 ?hop7
                                case ho7 => exact rfl
                                refine Op1.call (by kernel_rfl) (by kernel_rfl) hB ?_
                                clear hB
                                rintro _ w576 ⟨rfl, Hc577⟩
                                have H578 := St.call0' H575 Hc577
                                clear H575 Hc577
                                refine WA.lst (l := #[true, true, true, true, true, true, true, true, true, true, true, true, true, true, false, false, false, false, false, false, false, false, false, false, false, false, false, false, false, false]) (by kernel_rfl) ?_
                                refine WA.take 14 (v := vb false) rfl (by kernel_rfl) (by kernel_rfl) (fun w => Eq.trans (by kernel_rfl) (congrArg (fun c => Result.ok (Next.value (Value.bool c)) w) (hc548).symm)) (fun w => by kernel_rfl) (l' := #[true, true, true, true, true, true, true, true, true, true, true, true, true, true, true, false, false, false, false, false, false, false, false, false, false, false, false, false, false, false]) (by kernel_rfl) ?_
                                refine WA.runs2 (n := 11) [(15, some (vb false)), (16, some (vb false)), (17, some (s123)), (18, some (s471))] #[true, true, true, true, true, true, true, true, true, true, true, true, true, true, true, true, true, true, true, false, false, false, false, false, false, false, false, false, false, false] rfl (fun K => by kernel_rfl) ?_
                                refine WA.take 19 (v := vi (((List.length l470 : Nat) : Int))) rfl (by kernel_rfl) (by kernel_rfl) (fun w => ev_len sf507 22 (.tmp 80) 33 6 48 rfl (by kernel_rfl) (by kernel_rfl)) (fun w => by kernel_rfl) (l' := #[true, true, true, true, true, true, true, true, true, true, true, true, true, true, true, true, true, true, true, true, false, false, false, false, false, false, false, false, false, false]) (by kernel_rfl) ?_
                                refine WA.take 20 (v := vi x549) rfl (by kernel_rfl) (by kernel_rfl) (fun w => by subst hx549; kernel_rfl) (fun w => by kernel_rfl) (l' := #[true, true, true, true, true, true, true, true, true, true, true, true, true, true, true, true, true, true, true, true, true, false, false, false, false, false, false, false, false, false]) (by kernel_rfl) ?_
                                refine WA.runs2 (n := 7) [(22, some (s471)), (23, some (s471))] #[true, true, true, true, true, true, true, true, true, true, true, true, true, true, true, true, true, true, true, true, true, false, true, true, false, false, false, false, false, false] rfl (fun K => by kernel_rfl) ?_
                                refine WA.take 24 (v := vi (((List.length l470 : Nat) : Int))) rfl (by kernel_rfl) (by kernel_rfl) (fun w => ev_len sf507 22 (.tmp 85) 33 6 48 rfl (by kernel_rfl) (by kernel_rfl)) (fun w => by kernel_rfl) (l' := #[true, true, true, true, true, true, true, true, true, true, true, true, true, true, true, true, true, true, true, true, true, false, true, true, true, false, false, false, false, false]) (by kernel_rfl) ?_
                                refine WA.take 25 (v := vi x554) rfl (by kernel_rfl) (by kernel_rfl) (fun w => by subst hx554; kernel_rfl) (fun w => by kernel_rfl) (l' := #[true, true, true, true, true, true, true, true, true, true, true, true, true, true, true, true, true, true, true, true, true, false, true, true, true, true, false, false, false, false]) (by kernel_rfl) ?_
                                refine WA.take 26 (v := (slSub s471 6 0 (Int.toNat x554))) rfl (by kernel_rfl) (by kernel_rfl) (fun w => ev_slice sf507 22 (.tmp 84) none (some (.tmp 87)) 33 6 48 0 x554 rfl (by kernel_rfl) (by kernel_rfl) (.inl ⟨rfl, rfl⟩) (.inr ⟨(.tmp 87), .i64, rfl, by kernel_rfl⟩) hg555) (fun w => by kernel_rfl) (l' := #[true, true, true, true, true, true, true, true, true, true, true, true, true, true, true, true, true, true, true, true, true, false, true, true, true, true, true, false, false, false]) (by kernel_rfl) ?_
                                refine WA.any [21] (by kernel_rfl) (by simp) ?_
                                simp only [List.mem_singleton, forall_eq]
                                have hB := g_tarnlaw13_order_w fuel s123 l122 x549 t550 ht550 _ (St.rd H578 4 rfl)
                                refine WO.op (o := ?o8) ?ho8 ?hop8
                                case ho8 => exact rfl
                                refine Op1.call (by kernel_rfl) (by kernel_rfl) hB ?_
                                clear hB
                                rintro s551 w579 ⟨_, rfl, Hc580⟩
                                have H581 := St.call0 H578 Hc580
                                clear H578 Hc580
                                have sf553 := Own.isSl (St.get H581 0 rfl)
                                refine WA.lst (l := #[true, true, true, true, true, true, true, true, true, true, true, true, true, true, true, true, true, true, true, true, true, true, true, true, true, true, true, false, false, false]) (by kernel_rfl) ?_
                                refine WA.any [27] (by kernel_rfl) (by simp) ?_
                                simp only [List.mem_singleton, forall_eq]
                                have hB := g_tarnref0_EqNodes_w fuel s551 t550 (slSub s471 6 0 (Int.toNat x554)) ((List.take (Int.toNat x554) l470)) t556 ht556 _ (St.rd H581 0 rfl) (Rd.sub (lo := Int.toNat 0) (hi := Int.toNat x554) (St.rd H581 6 rfl) (piece_lo hg555) (piece_hi hg555))
                                refine WO.op (o := ?o9) ?ho9 ?hop9
                                case ho9 => exact rfl
                                refine Op1.call (by kernel_rfl) (by kernel_rfl) hB ?_
                                clear hB
                                rintro _ w582 ⟨rfl, Hc583⟩
                                have H584 := St.call0' H581 Hc583
                                clear H581 Hc583
                                refine WA.lst (l := #[true, true, true, true, true, true, true, true, true, true, true, true, true, true, true, true, true, true, true, true, true, true, true, true, true, true, true, true, false, false]) (by kernel_rfl) ?_
                                refine WA.take 28 (v := vb c557) rfl (by kernel_rfl) (by kernel_rfl) (fun w => by subst hc557; kernel_rfl) (fun w => by kernel_rfl) (l' := #[true, true, true, true, true, true, true, true, true, true, true, true, true, true, true, true, true, true, true, true, true, true, true, true, true, true, true, true, true, false]) (by kernel_rfl) ?_
                                refine WA.take 29 (v := vb c557) rfl (by kernel_rfl) (by kernel_rfl) (fun w => by kernel_rfl) (fun w => by kernel_rfl) (l' := #[true, true, true, true, true, true, true, true, true, true, true, true, true, true, true, true, true, true, true, true, true, true, true, true, true, true, true, true, true, true]) (by kernel_rfl) ?_
                                refine WA.done (by kernel_rfl) ?_
                                exact ⟨c557, (vi t451.2), (vi t540), (vi x468), (vb false), (vb false), (TNode.val t451.1), (TNode.val x467), (vb false), (vb false), (vb false), s123, s544, s471, (vb t547), (vb false), (vb false), (vb false), s123, s471, (vi (((List.length l470 : Nat) : Int))), (vi x549), s551, s471, s471, (vi (((List.length l470 : Nat) : Int))), (vi x554), ((slSub s471 6 0 (Int.toNat x554))), (vb t556), (vb c557), (by kernel_rfl), St.sel H584 [2, 3, 4, 5, 6] (by decide) rfl, h⟩
                            | true =>
                              replace h := br_t h
                              refine WA.runs2 (n := 28) [(0, some (vi t451.2)), (2, some (vi x468))] #[true, false, true, false, false, false, false, false, false, false, false, false, false, false, false, false, false, false, false, false, false, false, false, false, false, false, false, false, false, false] rfl (fun K => by kernel_rfl) ?_
                              refine WA.any [1] (by kernel_rfl) (by simp) ?_
                              simp only [List.mem_singleton, forall_eq]
                              have hB := fun wz => g_tarnlaw13_num_w fuel t451.2 t540 ht540 wz
                              refine WO.op (o := ?o10) ?ho10 ?hop10
                              case ho10 => exact rfl
                              refine Op1.call (by kernel_rfl) (by kernel_rfl) (hB _) ?_
                              clear hB
                              rintro _ w585 ⟨rfl, Hc586⟩
                              have H587 := St.call0' H539 Hc586
                              clear H539 Hc586
                              refine WA.lst (l := #[true, true, true, false, false, false, false, false, false, false, false, false, false, false, false, false, false, false, false, false, false, false, false, false, false, false, false, false, false, false]) (by kernel_rfl) ?_
                              refine WA.take 3 (v := vb false) rfl (by kernel_rfl) (by kernel_rfl) (fun w => Eq.trans (by kernel_rfl) (congrArg (fun c => Result.ok (Next.value (Value.bool c)) w) (hc541).symm)) (fun w => by kernel_rfl) (l' := #[true, true, true, true, false, false, false, false, false, false, false, false, false, false, false, false, false, false, false, false, false, false, false, false, false, false, false, false, false, false]) (by kernel_rfl) ?_
                              refine WA.take 4 (v := vb false) rfl (by kernel_rfl) (by kernel_rfl) (fun w => by kernel_rfl) (fun w => by kernel_rfl) (l' := #[true, true, true, true, true, false, false, false, false, false, false, false, false, false, false, false, false, false, false, false, false, false, false, false, false, false, false, false, false, false]) (by kernel_rfl) ?_
                              refine WA.any [5, 6] (by kernel_rfl) (by simp) ?_
                              simp only [List.mem_cons, List.not_mem_nil, or_false, forall_eq_or_imp, forall_eq]
                              refine ⟨?_, ?_⟩
                              · skip
                                refine WO.op rfl (Op1.val (v := TNode.val t451.1) (by kernel_rfl) (ev_loadBox H587 1 rfl 33 (.tmp 7) 0 (TNode.val t451.1) rfl (by kernel_rfl) (by kernel_rfl)) ?_)
                                refine WA.lst (l := #[true, true, true, true, true, true, false, false, false, false, false, false, false, false, false, false, false, false, false, false, false, false, false, false, false, false, false, false, false, false]) (by kernel_rfl) ?_
                                refine WA.any [6] (by kernel_rfl) (by simp) ?_
                                simp only [List.mem_singleton, forall_eq]
                                refine WO.op rfl (Op1.val (v := TNode.val x467) (by kernel_rfl) (ev_loadBox H587 0 rfl 33 (.tmp 10) 0 (TNode.val x467) rfl (by kernel_rfl) (by kernel_rfl)) ?_)
                                refine WA.lst (l := #[true, true, true, true, true, true, true, false, false, false, false, false, false, false, false, false, false, false, false, false, false, false, false, false, false, false, false, false, false, false]) (by kernel_rfl) ?_
                                refine WA.take 7 (v := vb false) rfl (by kernel_rfl) (by kernel_rfl) (fun w => Eq.trans (ev_neqS (F := fTNode) 33 33 (.tmp 67) (.tmp 68) t451.1 x467 eqok_33 rfl (TNode.cs t451.1).toArray (TNode.cs x467).toArray rfl rfl (by kernel_rfl) (by kernel_rfl) (by kernel_rfl)) (congrArg (fun c => Result.ok (Next.value (Value.bool c)) w) (hc542).symm)) (fun w => by kernel_rfl) (l' := #[true, true, true, true, true, true, true, true, false, false, false, false, false, false, false, false, false, false, false, false, false, false, false, false, false, false, false, false, false, false]) (by kernel_rfl) ?_
                                refine WA.runs2 (n := 18) [(8, some (vb false)), (9, some (vb false)), (10, some (s123)), (12, some (s471))] #[true, true, true, true, true, true, true, true, true, true, true, false, true, false, false, false, false, false, false, false, false, false, false, false, false, false, false, false, false, false] rfl (fun K => by kernel_rfl) ?_
                                refine WA.any [11] (by kernel_rfl) (by simp) ?_
                                simp only [List.mem_singleton, forall_eq]
                                have hB := g_tarnlaw13_order_w fuel s123 l122 1000 t543 ht543 _ (St.rd H587 3 rfl)
                                refine WO.op (o := ?o11) ?ho11 ?hop11
                                case ho11 => exact rfl
                                refine Op1.call (by kernel_rfl) (by kernel_rfl) hB ?_
                                clear hB
                                rintro s544 w588 ⟨_, rfl, Hc589⟩
                                have H590 := St.call0 H587 Hc589
                                clear H587 Hc589
                                have sf546 := Own.isSl (St.get H590 0 rfl)
                                refine WA.lst (l := #[true, true, true, true, true, true, true, true, true, true, true, true, true, false, false, false, false, false, false, false, false, false, false, false, false, false, false, false, false, false]) (by kernel_rfl) ?_
                                refine WA.any [13] (by kernel_rfl) (by simp) ?_
                                simp only [List.mem_singleton, forall_eq]
                                have hB := g_tarnref0_EqNodes_w fuel s544 t543 s471 l470 t547 ht547 _ (St.rd H590 0 rfl) (St.rd H590 5 rfl)
                                refine WO.op (o := ?o12) ?ho12 ?hop12
                                case ho12 => exact rfl
                                refine Op1.call (by kernel_rfl) (by kernel_rfl) hB ?_
                                clear hB
                                rintro _ w591 ⟨rfl, Hc592⟩
                                have H593 := St.call0' H590 Hc592
                                clear H590 Hc592
                                refine WA.lst (l := #[true, true, true, true, true, true, true, true, true, true, true, true, true, true, false, false, false, false, false, false, false, false, false, false, false, false, false, false, false, false]) (by kernel_rfl) ?_
                                refine WA.take 14 (v := vb true) rfl (by kernel_rfl) (by kernel_rfl) (fun w => Eq.trans (by kernel_rfl) (congrArg (fun c => Result.ok (Next.value (Value.bool c)) w) (hc548).symm)) (fun w => by kernel_rfl) (l' := #[true, true, true, true, true, true, true, true, true, true, true, true, true, true, true, false, false, false, false, false, false, false, false, false, false, false, false, false, false, false]) (by kernel_rfl) ?_
                                refine WA.runs2 (n := 4) [(15, some (vb true)), (16, some (vb true)), (17, none), (18, none), (19, none), (20, none), (22, none), (23, none), (24, none), (25, none), (26, none)] #[true, true, true, true, true, true, true, true, true, true, true, true, true, true, true, true, true, true, true, true, true, false, true, true, true, true, true, false, false, false] rfl (fun K => by kernel_rfl) ?_
                                refine WA.any [21] (by kernel_rfl) (by simp) ?_
                                simp only [List.mem_singleton, forall_eq]
                                refine WO.op rfl (Op1.off (by kernel_rfl) ?_)
                                refine WA.lst (l := #[true, true, true, true, true, true, true, true, true, true, true, true, true, true, true, true, true, true, true, true, true, true, true, true, true, true, true, false, false, false]) (by kernel_rfl) ?_
                                refine WA.any [27] (by kernel_rfl) (by simp) ?_
                                simp only [List.mem_singleton, forall_eq]
                                refine WO.op rfl (Op1.off (by kernel_rfl) ?_)
                                refine WA.lst (l := #[true, true, true, true, true, true, true, true, true, true, true, true, true, true, true, true, true, true, true, true, true, true, true, true, true, true, true, true, false, false]) (by kernel_rfl) ?_
                                refine WA.runs2 (n := 0) [(28, none), (29, some (vb true))] #[true, true, true, true, true, true, true, true, true, true, true, true, true, true, true, true, true, true, true, true, true, true, true, true, true, true, true, true, true, true] rfl (fun K => by kernel_rfl) ?_
                                refine WA.done (by kernel_rfl) ?_
                                exact ⟨true, (vi t451.2), (vi t540), (vi x468), (vb false), (vb false), (TNode.val t451.1), (TNode.val x467), (vb false), (vb false), (vb false), s123, s544, s471, (vb t547), (vb true), (vb true), (vb true), Z, Z, Z, Z, Z, Z, Z, Z, Z, Z, Z, Z, (by kernel_rfl), St.sel H593 [1, 2, 3, 4, 5] (by decide) rfl, h⟩
                              · skip
                                refine WO.op rfl (Op1.val (v := TNode.val x467) (by kernel_rfl) (ev_loadBox H587 0 rfl 33 (.tmp 10) 0 (TNode.val x467) rfl (by kernel_rfl) (by kernel_rfl)) ?_)
                                refine WA.lst (l := #[true, true, true, true, true, false, true, false, false, false, false, false, false, false, false, false, false, false, false, false, false, false, false, false, false, false, false, false, false, false]) (by kernel_rfl) ?_
                                refine WA.any [5] (by kernel_rfl) (by simp) ?_
                                simp only [List.mem_singleton, forall_eq]
                                refine WO.op rfl (Op1.val (v := TNode.val t451.1) (by kernel_rfl) (ev_loadBox H587 1 rfl 33 (.tmp 7) 0 (TNode.val t451.1) rfl (by kernel_rfl) (by kernel_rfl)) ?_)
                                refine WA.lst (l := #[true, true, true, true, true, true, true, false, false, false, false, false, false, false, false, false, false, false, false, false, false, false, false, false, false, false, false, false, false, false]) (by kernel_rfl) ?_
                                refine WA.take 7 (v := vb false) rfl (by kernel_rfl) (by kernel_rfl) (fun w => Eq.trans (ev_neqS (F := fTNode) 33 33 (.tmp 67) (.tmp 68) t451.1 x467 eqok_33 rfl (TNode.cs t451.1).toArray (TNode.cs x467).toArray rfl rfl (by kernel_rfl) (by kernel_rfl) (by kernel_rfl)) (congrArg (fun c => Result.ok (Next.value (Value.bool c)) w) (hc542).symm)) (fun w => by kernel_rfl) (l' := #[true, true, true, true, true, true, true, true, false, false, false, false, false, false, false, false, false, false, false, false, false, false, false, false, false, false, false, false, false, false]) (by kernel_rfl) ?_
                                refine WA.runs2 (n := 18) [(8, some (vb false)), (9, some (vb false)), (10, some (s123)), (12, some (s471))] #[true, true, true, true, true, true, true, true, true, true, true, false, true, false, false, false, false, false, false, false, false, false, false, false, false, false, false, false, false, false] rfl (fun K => by kernel_rfl) ?_
                                refine WA.any [11] (by kernel_rfl) (by simp) ?_
                                simp only [List.mem_singleton, forall_eq]
                                have hB := g_tarnlaw13_order_w fuel s123 l122 1000 t543 ht543 _ (St.rd H587 3 rfl)
                                refine WO.op (o := ?o13) ?ho13 ?hop13
                                case ho13 => exact rfl
                                refine Op1.call (by kernel_rfl) (by kernel_rfl) hB ?_
                                clear hB
                                rintro s544 w594 ⟨_, rfl, Hc595⟩
                                have H596 := St.call0 H587 Hc595
                                clear H587 Hc595
                                have sf546 := Own.isSl (St.get H596 0 rfl)
                                refine WA.lst (l := #[true, true, true, true, true, true, true, true, true, true, true, true, true, false, false, false, false, false, false, false, false, false, false, false, false, false, false, false, false, false]) (by kernel_rfl) ?_
                                refine WA.any [13] (by kernel_rfl) (by simp) ?_
                                simp only [List.mem_singleton, forall_eq]
                                have hB := g_tarnref0_EqNodes_w fuel s544 t543 s471 l470 t547 ht547 _ (St.rd H596 0 rfl) (St.rd H596 5 rfl)
                                refine WO.op (o := ?o14) ?ho14 ?hop14
                                case ho14 => exact rfl
                                refine Op1.call (by kernel_rfl) (by kernel_rfl) hB ?_
                                clear hB
                                rintro _ w597 ⟨rfl, Hc598⟩
                                have H599 := St.call0' H596 Hc598
                                clear H596 Hc598
                                refine WA.lst (l := #[true, true, true, true, true, true, true, true, true, true, true, true, true, true, false, false, false, false, false, false, false, false, false, false, false, false, false, false, false, false]) (by kernel_rfl) ?_
                                refine WA.take 14 (v := vb true) rfl (by kernel_rfl) (by kernel_rfl) (fun w => Eq.trans (by kernel_rfl) (congrArg (fun c => Result.ok (Next.value (Value.bool c)) w) (hc548).symm)) (fun w => by kernel_rfl) (l' := #[true, true, true, true, true, true, true, true, true, true, true, true, true, true, true, false, false, false, false, false, false, false, false, false, false, false, false, false, false, false]) (by kernel_rfl) ?_
                                refine WA.runs2 (n := 4) [(15, some (vb true)), (16, some (vb true)), (17, none), (18, none), (19, none), (20, none), (22, none), (23, none), (24, none), (25, none), (26, none)] #[true, true, true, true, true, true, true, true, true, true, true, true, true, true, true, true, true, true, true, true, true, false, true, true, true, true, true, false, false, false] rfl (fun K => by kernel_rfl) ?_
                                refine WA.any [21] (by kernel_rfl) (by simp) ?_
                                simp only [List.mem_singleton, forall_eq]
                                refine WO.op rfl (Op1.off (by kernel_rfl) ?_)
                                refine WA.lst (l := #[true, true, true, true, true, true, true, true, true, true, true, true, true, true, true, true, true, true, true, true, true, true, true, true, true, true, true, false, false, false]) (by kernel_rfl) ?_
                                refine WA.any [27] (by kernel_rfl) (by simp) ?_
                                simp only [List.mem_singleton, forall_eq]
                                refine WO.op rfl (Op1.off (by kernel_rfl) ?_)
                                refine WA.lst (l := #[true, true, true, true, true, true, true, true, true, true, true, true, true, true, true, true, true, true, true, true, true, true, true, true, true, true, true, true, false, false]) (by kernel_rfl) ?_
                                refine WA.runs2 (n := 0) [(28, none), (29, some (vb true))] #[true, true, true, true, true, true, true, true, true, true, true, true, true, true, true, true, true, true, true, true, true, true, true, true, true, true, true, true, true, true] rfl (fun K => by kernel_rfl) ?_
                                refine WA.done (by kernel_rfl) ?_
                                exact ⟨true, (vi t451.2), (vi t540), (vi x468), (vb false), (vb false), (TNode.val t451.1), (TNode.val x467), (vb false), (vb false), (vb false), s123, s544, s471, (vb t547), (vb true), (vb true), (vb true), Z, Z, Z, Z, Z, Z, Z, Z, Z, Z, Z, Z, (by kernel_rfl), St.sel H599 [1, 2, 3, 4, 5] (by decide) rfl, h⟩
                          | true =>
                            replace h := br_t h
                            refine WA.runs2 (n := 28) [(0, some (vi t451.2)), (2, some (vi x468))] #[true, false, true, false, false, false, false, false, false, false, false, false, false, false, false, false, false, false, false, false, false, false, false, false, false, false, false, false, false, false] rfl (fun K => by kernel_rfl) ?_
                            refine WA.any [1] (by kernel_rfl) (by simp) ?_
                            simp only [List.mem_singleton, forall_eq]
                            have hB := fun wz => g_tarnlaw13_num_w fuel t451.2 t540 ht540 wz
                            refine WO.op (o := ?o15) ?ho15 ?hop15
                            case ho15 => exact rfl
                            refine Op1.call (by kernel_rfl) (by kernel_rfl) (hB _) ?_
                            clear hB
                            rintro _ w600 ⟨rfl, Hc601⟩
                            have H602 := St.call0' H539 Hc601
                            clear H539 Hc601
                            refine WA.lst (l := #[true, true, true, false, false, false, false, false, false, false, false, false, false, false, false, false, false, false, false, false, false, false, false, false, false, false, false, false, false, false]) (by kernel_rfl) ?_
                            refine WA.take 3 (v := vb false) rfl (by kernel_rfl) (by kernel_rfl) (fun w => Eq.trans (by kernel_rfl) (congrArg (fun c => Result.ok (Next.value (Value.bool c)) w) (hc541).symm)) (fun w => by kernel_rfl) (l' := #[true, true, true, true, false, false, false, false, false, false, false, false, false, false, false, false, false, false, false, false, false, false, false, false, false, false, false, false, false, false]) (by kernel_rfl) ?_
                            refine WA.take 4 (v := vb false) rfl (by kernel_rfl) (by kernel_rfl) (fun w => by kernel_rfl) (fun w => by kernel_rfl) (l' := #[true, true, true, true, true, false, false, false, false, false, false, false, false, false, false, false, false, false, false, false, false, false, false, false, false, false, false, false, false, false]) (by kernel_rfl) ?_
                            refine WA.any [5, 6] (by kernel_rfl) (by simp) ?_
                            simp only [List.mem_cons, List.not_mem_nil, or_false, forall_eq_or_imp, forall_eq]
                            refine ⟨?_, ?_⟩
                            · skip
                              refine WO.op rfl (Op1.val (v := TNode.val t451.1) (by kernel_rfl) (ev_loadBox H602 1 rfl 33 (.tmp 7) 0 (TNode.val t451.1) rfl (by kernel_rfl) (by kernel_rfl)) ?_)
                              refine WA.lst (l := #[true, true, true, true, true, true, false, false, false, false, false, false, false, false, false, false, false, false, false, false, false, false, false, false, false, false, false, false, false, false]) (by kernel_rfl) ?_
                              refine WA.any [6] (by kernel_rfl) (by simp) ?_
                              simp only [List.mem_singleton, forall_eq]
                              refine WO.op rfl (Op1.val (v := TNode.val x467) (by kernel_rfl) (ev_loadBox H602 0 rfl 33 (.tmp 10) 0 (TNode.val x467) rfl (by kernel_rfl) (by kernel_rfl)) ?_)
                              refine WA.lst (l := #[true, true, true, true, true, true, true, false, false, false, false, false, false, false, false, false, false, false, false, false, false, false, false, false, false, false, false, false, false, false]) (by kernel_rfl) ?_
                              refine WA.take 7 (v := vb true) rfl (by kernel_rfl) (by kernel_rfl) (fun w => Eq.trans (ev_neqS (F := fTNode) 33 33 (.tmp 67) (.tmp 68) t451.1 x467 eqok_33 rfl (TNode.cs t451.1).toArray (TNode.cs x467).toArray rfl rfl (by kernel_rfl) (by kernel_rfl) (by kernel_rfl)) (congrArg (fun c => Result.ok (Next.value (Value.bool c)) w) (hc542).symm)) (fun w => by kernel_rfl) (l' := #[true, true, true, true, true, true, true, true, false, false, false, false, false, false, false, false, false, false, false, false, false, false, false, false, false, false, false, false, false, false]) (by kernel_rfl) ?_
                              refine WA.runs2 (n := 18) [(8, some (vb true)), (9, some (vb true)), (10, none), (12, none)] #[true, true, true, true, true, true, true, true, true, true, true, false, true, false, false, false, false, false, false, false, false, false, false, false, false, false, false, false, false, false] rfl (fun K => by kernel_rfl) ?_
                              refine WA.any [11] (by kernel_rfl) (by simp) ?_
                              simp only [List.mem_singleton, forall_eq]
                              refine WO.op rfl (Op1.off (by kernel_rfl) ?_)
                              refine WA.lst (l := #[true, true, true, true, true, true, true, true, true, true, true, true, true, false, false, false, false, false, false, false, false, false, false, false, false, false, false, false, false, false]) (by kernel_rfl) ?_
                              refine WA.any [13] (by kernel_rfl) (by simp) ?_
                              simp only [List.mem_singleton, forall_eq]
                              refine WO.op rfl (Op1.off (by kernel_rfl) ?_)
                              refine WA.lst (l := #[true, true, true, true, true, true, true, true, true, true, true, true, true, true, false, false, false, false, false, false, false, false, false, false, false, false, false, false, false, false]) (by kernel_rfl) ?_
                              refine WA.runs2 (n := 4) [(14, none), (15, some (vb true)), (16, some (vb true)), (17, none), (18, none), (19, none), (20, none), (22, none), (23, none), (24, none), (25, none), (26, none)] #[true, true, true, true, true, true, true, true, true, true, true, true, true, true, true, true, true, true, true, true, true, false, true, true, true, true, true, false, false, false] rfl (fun K => by kernel_rfl) ?_
                              refine WA.any [21] (by kernel_rfl) (by simp) ?_
                              simp only [List.mem_singleton, forall_eq]
                              refine WO.op rfl (Op1.off (by kernel_rfl) ?_)
                              refine WA.lst (l := #[true, true, true, true, true, true, true, true, true, true, true, true, true, true, true, true, true, true, true, true, true, true, true, true, true, true, true, false, false, false]) (by kernel_rfl) ?_
                              refine WA.any [27] (by kernel_rfl) (by simp) ?_
                              simp only [List.mem_singleton, forall_eq]
                              refine WO.op rfl (Op1.off (by kernel_rfl) ?_)
                              refine WA.lst (l := #[true, true, true, true, true, true, true, true, true, true, true, true, true, true, true, true, true, true, true, true, true, true, true, true, true, true, true, true, false, false]) (by kernel_rfl) ?_
                              refine WA.runs2 (n := 0) [(28, none), (29, some (vb true))] #[true, true, true, true, true, true, true, true, true, true, true, true, true, true, true, true, true, true, true, true, true, true, true, true, true, true, true, true, true, true] rfl (fun K => by kernel_rfl) ?_
                              refine WA.done (by kernel_rfl) ?_
                              exact ⟨true, (vi t451.2), (vi t540), (vi x468), (vb false), (vb false), (TNode.val t451.1), (TNode.val x467), (vb true), (vb true), (vb true), Z, Z, Z, Z, Z, (vb true), (vb true), Z, Z, Z, Z, Z, Z, Z, Z, Z, Z, Z, Z, (by kernel_rfl), St.sel H602 [0, 1, 2, 3, 4] (by decide) rfl, h⟩
                            · skip
                              refine WO.op rfl (Op1.val (v := TNode.val x467) (by kernel_rfl) (ev_loadBox H602 0 rfl 33 (.tmp 10) 0 (TNode.val x467) rfl (by kernel_rfl) (by kernel_rfl)) ?_)
                              refine WA.lst (l := #[true, true, true, true, true, false, true, false, false, false, false, false, false, false, false, false, false, false, false, false, false, false, false, false, false, false, false, false, false, false]) (by kernel_rfl) ?_
                              refine WA.any [5] (by kernel_rfl) (by simp) ?_
                              simp only [List.mem_singleton, forall_eq]
                              refine WO.op rfl (Op1.val (v := TNode.val t451.1) (by kernel_rfl) (ev_loadBox H602 1 rfl 33 (.tmp 7) 0 (TNode.val t451.1) rfl (by kernel_rfl) (by kernel_rfl)) ?_)
                              refine WA.lst (l := #[true, true, true, true, true, true, true, false, false, false, false, false, false, false, false, false, false, false, false, false, false, false, false, false, false, false, false, false, false, false]) (by kernel_rfl) ?_
                              refine WA.take 7 (v := vb true) rfl (by kernel_rfl) (by kernel_rfl) (fun w => Eq.trans (ev_neqS (F := fTNode) 33 33 (.tmp 67) (.tmp 68) t451.1 x467 eqok_33 rfl (TNode.cs t451.1).toArray (TNode.cs x467).toArray rfl rfl (by kernel_rfl) (by kernel_rfl) (by kernel_rfl)) (congrArg (fun c => Result.ok (Next.value (Value.bool c)) w) (hc542).symm)) (fun w => by kernel_rfl) (l' := #[true, true, true, true, true, true, true, true, false, false, false, false, false, false, false, false, false, false, false, false, false, false, false, false, false, false, false, false, false, false]) (by kernel_rfl) ?_
                              refine WA.runs2 (n := 18) [(8, some (vb true)), (9, some (vb true)), (10, none), (12, none)] #[true, true, true, true, true, true, true, true, true, true, true, false, true, false, false, false, false, false, false, false, false, false, false, false, false, false, false, false, false, false] rfl (fun K => by kernel_rfl) ?_
                              refine WA.any [11] (by kernel_rfl) (by simp) ?_
                              simp only [List.mem_singleton, forall_eq]
                              refine WO.op rfl (Op1.off (by kernel_rfl) ?_)
                              refine WA.lst (l := #[true, true, true, true, true, true, true, true, true, true, true, true, true, false, false, false, false, false, false, false, false, false, false, false, false, false, false, false, false, false]) (by kernel_rfl) ?_
                              refine WA.any [13] (by kernel_rfl) (by simp) ?_
                              simp only [List.mem_singleton, forall_eq]
                              refine WO.op rfl (Op1.off (by kernel_rfl) ?_)
                              refine WA.lst (l := #[true, true, true, true, true, true, true, true, true, true, true, true, true, true, false, false, false, false, false, false, false, false, false, false, false, false, false, false, false, false]) (by kernel_rfl) ?_
                              refine WA.runs2 (n := 4) [(14, none), (15, some (vb true)), (16, some (vb true)), (17, none), (18, none), (19, none), (20, none), (22, none), (23, none), (24, none), (25, none), (26, none)] #[true, true, true, true, true, true, true, true, true, true, true, true, true, true, true, true, true, true, true, true, true, false, true, true, true, true, true, false, false, false] rfl (fun K => by kernel_rfl) ?_
                              refine WA.any [21] (by kernel_rfl) (by simp) ?_
                              simp only [List.mem_singleton, forall_eq]
                              refine WO.op rfl (Op1.off (by kernel_rfl) ?_)
                              refine WA.lst (l := #[true, true, true, true, true, true, true, true, true, true, true, true, true, true, true, true, true, true, true, true, true, true, true, true, true, true, true, false, false, false]) (by kernel_rfl) ?_
                              refine WA.any [27] (by kernel_rfl) (by simp) ?_
                              simp only [List.mem_singleton, forall_eq]
                              refine WO.op rfl (Op1.off (by kernel_rfl) ?_)
                              refine WA.lst (l := #[true, true, true, true, true, true, true, true, true, true, true, true, true, true, true, true, true, true, true, true, true, true, true, true, true, true, true, true, false, false]) (by kernel_rfl) ?_
                              refine WA.runs2 (n := 0) [(28, none), (29, some (vb true))] #[true, true, true, true, true, true, true, true, true, true, true, true, true, true, true, true, true, true, true, true, true, true, true, true, true, true, true, true, true, true] rfl (fun K => by kernel_rfl) ?_
                              refine WA.done (by kernel_rfl) ?_
                              exact ⟨true, (vi t451.2), (vi t540), (vi x468), (vb false), (vb false), (TNode.val t451.1), (TNode.val x467), (vb true), (vb true), (vb true), Z, Z, Z, Z, Z, (vb true), (vb true), Z, Z, Z, Z, Z, Z, Z, Z, Z, Z, Z, Z, (by kernel_rfl), St.sel H602 [0, 1, 2, 3, 4] (by decide) rfl, h⟩
                        | true =>
                          replace h := br_t h
                          refine WA.runs2 (n := 28) [(0, some (vi t451.2)), (2, some (vi x468))] #[true, false, true, false, false, false, false, false, false, false, false, false, false, false, false, false, false, false, false, false, false, false, false, false, false, false, false, false, false, false] rfl (fun K => by kernel_rfl) ?_
                          refine WA.any [1] (by kernel_rfl) (by simp) ?_
                          simp only [List.mem_singleton, forall_eq]
                          have hB := fun wz => g_tarnlaw13_num_w fuel t451.2 t540 ht540 wz
                          refine WO.op (o := ?o16) ?ho16 ?hop16
                          case ho16 => exact rfl
                          refine Op1.call (by kernel_rfl) (by kernel_rfl) (hB _) ?_
                          clear hB
                          rintro _ w603 ⟨rfl, Hc604⟩
                          have H605 := St.call0' H539 Hc604
                          clear H539 Hc604
                          refine WA.lst (l := #[true, true, true, false, false, false, false, false, false, false, false, false, false, false, false, false, false, false, false, false, false, false, false, false, false, false, false, false, false, false]) (by kernel_rfl) ?_
                          refine WA.take 3 (v := vb true) rfl (by kernel_rfl) (by kernel_rfl) (fun w => Eq.trans (by kernel_rfl) (congrArg (fun c => Result.ok (Next.value (Value.bool c)) w) (hc541).symm)) (fun w => by kernel_rfl) (l' := #[true, true, true, true, false, false, false, false, false, false, false, false, false, false, false, false, false, false, false, false, false, false, false, false, false, false, false, false, false, false]) (by kernel_rfl) ?_
                          refine WA.runs2 (n := 18) [(4, some (vb true)), (5, none), (6, none), (7, none), (8, some (vb true)), (9, some (vb true)), (10, none), (12, none)] #[true, true, true, true, true, true, true, true, true, true, true, false, true, false, false, false, false, false, false, false, false, false, false, false, false, false, false, false, false, false] rfl (fun K => by kernel_rfl) ?_
                          refine WA.any [11] (by kernel_rfl) (by simp) ?_
                          simp only [List.mem_singleton, forall_eq]
                          refine WO.op rfl (Op1.off (by kernel_rfl) ?_)
                          refine WA.lst (l := #[true, true, true, true, true, true, true, true, true, true, true, true, true, false, false, false, false, false, false, false, false, false, false, false, false, false, false, false, false, false]) (by kernel_rfl) ?_
                          refine WA.any [13] (by kernel_rfl) (by simp) ?_
                          simp only [List.mem_singleton, forall_eq]
                          refine WO.op rfl (Op1.off (by kernel_rfl) ?_)
                          refine WA.lst (l := #[true, true, true, true, true, true, true, true, true, true, true, true, true, true, false, false, false, false, false, false, false, false, false, false, false, false, false, false, false, false]) (by kernel_rfl) ?_
                          refine WA.runs2 (n := 4) [(14, none), (15, some (vb true)), (16, some (vb true)), (17, none), (18, none), (19, none), (20, none), (22, none), (23, none), (24, none), (25, none), (26, none)] #[true, true, true, true, true, true, true, true, true, true, true, true, true, true, true, true, true, true, true, true, true, false, true, true, true, true, true, false, false, false] rfl (fun K => by kernel_rfl) ?_
                          refine WA.any [21] (by kernel_rfl) (by simp) ?_
                          simp only [List.mem_singleton, forall_eq]
                          refine WO.op rfl (Op1.off (by kernel_rfl) ?_)
                          refine WA.lst (l := #[true, true, true, true, true, true, true, true, true, true, true, true, true, true, true, true, true, true, true, true, true, true, true, true, true, true, true, false, false, false]) (by kernel_rfl) ?_
                          refine WA.any [27] (by kernel_rfl) (by simp) ?_
                          simp only [List.mem_singleton, forall_eq]
                          refine WO.op rfl (Op1.off (by kernel_rfl) ?_)
                          refine WA.lst (l := #[true, true, true, true, true, true, true, true, true, true, true, true, true, true, true, true, true, true, true, true, true, true, true, true, true, true, true, true, false, false]) (by kernel_rfl) ?_
                          refine WA.runs2 (n := 0) [(28, none), (29, some (vb true))] #[true, true, true, true, true, true, true, true, true, true, true, true, true, true, true, true, true, true, true, true, true, true, true, true, true, true, true, true, true, true] rfl (fun K => by kernel_rfl) ?_
                          refine WA.done (by kernel_rfl) ?_
                          exact ⟨true, (vi t451.2), (vi t540), (vi x468), (vb true), (vb true), Z, Z, Z, (vb true), (vb true), Z, Z, Z, Z, Z, (vb true), (vb true), Z, Z, Z, Z, Z, Z, Z, Z, Z, Z, Z, Z, (by kernel_rfl), St.sel H605 [0, 1, 2, 3, 4] (by decide) rfl, h⟩
                      · intro a w hq
                        refine Exists.elim hq fun c537 hq => Exists.elim hq fun g508 hq => Exists.elim hq fun g509 hq => Exists.elim hq fun g510 hq => Exists.elim hq fun g511 hq => Exists.elim hq fun g512 hq => Exists.elim hq fun g513 hq => Exists.elim hq fun g514 hq => Exists.elim hq fun g515 hq => Exists.elim hq fun g516 hq => Exists.elim hq fun g517 hq => Exists.elim hq fun g518 hq => Exists.elim hq fun g519 hq => Exists.elim hq fun g520 hq => Exists.elim hq fun g521 hq => Exists.elim hq fun g522 hq => Exists.elim hq fun g523 hq => Exists.elim hq fun g524 hq => Exists.elim hq fun g525 hq => Exists.elim hq fun g526 hq => Exists.elim hq fun g527 hq => Exists.elim hq fun g528 hq => Exists.elim hq fun g529 hq => Exists.elim hq fun g530 hq => Exists.elim hq fun g531 hq => Exists.elim hq fun g532 hq => Exists.elim hq fun g533 hq => Exists.elim hq fun g534 hq => Exists.elim hq fun g535 hq => Exists.elim hq fun g536 hq => ?_
                        obtain ⟨rfl, H, h⟩ := hq
                        have hQ := h; subst hK538; have h := hQ; clear hQ
                        obtain ⟨w606, rfl⟩ : ∃ x, x = w := ⟨_, rfl⟩
                        have H607 := H; clear H
                        have sf608 := Own.isSl (St.get H607 3 rfl)
                        have sf609 := Own.isSl (St.get H607 4 rfl)
                        refine then_n ?_
                        cases c537 with
                        | false =>
                          replace h := br_f h
                          refine WP.condF (by kernel_rfl) ?_
                          refine WP.skip ?_
                          refine then_n ?_
                          refine WP.seq ?_
                          refine WP.region ?_
                          refine WPI.run 2 ⟨#[.agg #[s1, s3], vp b5 0, g120, s123, vi x124, vb t419, vi t427, vp b455 0, vi t451.2, vi x468, vp b461 0, s471, g132, g133, .agg #[s1, s3], vb false, vp b5 0, s1, s14, g224, g225, g226, g227, g228, g229, g230, g231, vb true, g143, g144, s123, vb t419, s123, vi t423, vi t427, g431, g432, g433, g434, g435, g436, g437, g438, g439, g440, g441, vb false, .tuple #[TNode.val t451.1, vi t451.2], s123, .tuple #[TNode.val t451.1, vi t451.2], TNode.val t451.1, vi t451.2, .agg #[vi 0, vi 0, vu 0, vu 0, vu 0, vu 0], g472, g473, g474, g475, g476, g477, g478, g479, g480, g508, g509, g510, g511, g512, g513, g514, g515, g516, g517, g518, g519, g520, g521, g522, g523, g524, g525, g526, g527, g528, g529, g530, g531, g532, g533, g534, g535, g536, vb false, g207, s123, vp b5 1, g210, g211, g212, g213, g214, g215, g216, g217, g218, g219, g220, Z], []⟩ w606 (fun K => by kernel_rfl) ?_
                          refine WPI.value (v := s3) rfl (by kernel_rfl) (ev_loadBox H607 2 rfl 23 (.tmp 94) 1 (s3) rfl (by kernel_rfl) (by kernel_rfl)) ?_
                          obtain ⟨hg610, h⟩ := gd_some h
                          refine WPI.run 1 ⟨#[.agg #[s1, s3], vp b5 0, g120, s123, vi x124, vb t419, vi t427, vp b455 0, vi t451.2, vi x468, vp b461 0, s471, g132, g133, .agg #[s1, s3], vb false, vp b5 0, s1, s14, g224, g225, g226, g227, g228, g229, g230, g231, vb true, g143, g144, s123, vb t419, s123, vi t423, vi t427, g431, g432, g433, g434, g435, g436, g437, g438, g439, g440, g441, vb false, .tuple #[TNode.val t451.1, vi t451.2], s123, .tuple #[TNode.val t451.1, vi t451.2], TNode.val t451.1, vi t451.2, .agg #[vi 0, vi 0, vu 0, vu 0, vu 0, vu 0], g472, g473, g474, g475, g476, g477, g478, g479, g480, g508, g509, g510, g511, g512, g513, g514, g515, g516, g517, g518, g519, g520, g521, g522, g523, g524, g525, g526, g527, g528, g529, g530, g531, g532, g533, g534, g535, g536, vb false, g207, s123, vp b5 1, s3, vi x124, g212, g213, g214, g215, g216, g217, g218, g219, g220, Z], []⟩ w606 (fun K => by kernel_rfl) ?_
                          refine WPI.value (v := va (slAt s3 7 (Int.toNat x124))) rfl (by kernel_rfl) (ev_index (Rd.sl hs3) 23 (.tmp 95) (.tmp 96) 45 7 56 .i64 x124 rfl (by kernel_rfl) (by kernel_rfl) (by kernel_rfl) hg610) ?_
                          obtain ⟨x611, hx611, h⟩ := bd_some h
                          refine WPI.run 0 ⟨#[.agg #[s1, s3], vp b5 0, g120, s123, vi x124, vb t419, vi t427, vp b455 0, vi t451.2, vi x468, vp b461 0, s471, g132, g133, .agg #[s1, s3], vb false, vp b5 0, s1, s14, g224, g225, g226, g227, g228, g229, g230, g231, vb true, g143, g144, s123, vb t419, s123, vi t423, vi t427, g431, g432, g433, g434, g435, g436, g437, g438, g439, g440, g441, vb false, .tuple #[TNode.val t451.1, vi t451.2], s123, .tuple #[TNode.val t451.1, vi t451.2], TNode.val t451.1, vi t451.2, .agg #[vi 0, vi 0, vu 0, vu 0, vu 0, vu 0], g472, g473, g474, g475, g476, g477, g478, g479, g480, g508, g509, g510, g511, g512, g513, g514, g515, g516, g517, g518, g519, g520, g521, g522, g523, g524, g525, g526, g527, g528, g529, g530, g531, g532, g533, g534, g535, g536, vb false, g207, s123, vp b5 1, s3, vi x124, va (slAt s3 7 (Int.toNat x124)), g213, g214, g215, g216, g217, g218, g219, g220, Z], []⟩ w606 (fun K => by kernel_rfl) ?_
                          refine WPI.value (v := Ttarnlaw13_Act.val x611) rfl (by kernel_rfl) (ev_loadEl (F := fTtarnlaw13_Act) hs3 (St.hp_le H607) hx611 45 (.tmp 97) 0 (Ttarnlaw13_Act.val x611) rfl (by kernel_rfl) (by kernel_rfl)) ?_
                          obtain ⟨t612, ht612, h⟩ := bd_some h
                          refine WPI.run 0 ⟨#[.agg #[s1, s3], vp b5 0, g120, s123, vi x124, vb t419, vi t427, vp b455 0, vi t451.2, vi x468, vp b461 0, s471, g132, g133, .agg #[s1, s3], vb false, vp b5 0, s1, s14, g224, g225, g226, g227, g228, g229, g230, g231, vb true, g143, g144, s123, vb t419, s123, vi t423, vi t427, g431, g432, g433, g434, g435, g436, g437, g438, g439, g440, g441, vb false, .tuple #[TNode.val t451.1, vi t451.2], s123, .tuple #[TNode.val t451.1, vi t451.2], TNode.val t451.1, vi t451.2, .agg #[vi 0, vi 0, vu 0, vu 0, vu 0, vu 0], g472, g473, g474, g475, g476, g477, g478, g479, g480, g508, g509, g510, g511, g512, g513, g514, g515, g516, g517, g518, g519, g520, g521, g522, g523, g524, g525, g526, g527, g528, g529, g530, g531, g532, g533, g534, g535, g536, vb false, g207, s123, vp b5 1, s3, vi x124, va (slAt s3 7 (Int.toNat x124)), Ttarnlaw13_Act.val x611, g214, g215, g216, g217, g218, g219, g220, Z], []⟩ w606 (fun K => by kernel_rfl) ?_
                          refine WPI.op rfl (Op1.call (by kernel_rfl) (by kernel_rfl) (g_tarnlaw13_step_w fuel s123 l122 x611 t612 ht612 _ (St.rd H607 3 rfl)) ?_)
                          rintro _ w615 ⟨s613, rfl, hr614, Hc616⟩
                          have H617 := St.call0' H607 Hc616
                          clear H607 Hc616
                          refine WPI.run 5 ⟨#[.agg #[s1, s3], vp b5 0, g120, s123, vi x124, vb t419, vi t427, vp b455 0, vi t451.2, vi x468, vp b461 0, s471, s613, vb t612.2, .agg #[s1, s3], vb false, vp b5 0, s1, s14, g224, g225, g226, g227, g228, g229, g230, g231, vb true, g143, g144, s123, vb t419, s123, vi t423, vi t427, g431, g432, g433, g434, g435, g436, g437, g438, g439, g440, g441, vb false, .tuple #[TNode.val t451.1, vi t451.2], s123, .tuple #[TNode.val t451.1, vi t451.2], TNode.val t451.1, vi t451.2, .agg #[vi 0, vi 0, vu 0, vu 0, vu 0, vu 0], g472, g473, g474, g475, g476, g477, g478, g479, g480, g508, g509, g510, g511, g512, g513, g514, g515, g516, g517, g518, g519, g520, g521, g522, g523, g524, g525, g526, g527, g528, g529, g530, g531, g532, g533, g534, g535, g536, vb false, .tuple #[s613, vb t612.2], s123, vp b5 1, s3, vi x124, va (slAt s3 7 (Int.toNat x124)), Ttarnlaw13_Act.val x611, .tuple #[s613, vb t612.2], s613, vb t612.2, g217, g218, g219, g220, Z], []⟩ w615 (fun K => by kernel_rfl) ?_
                          refine WPI.done rfl ?_
                          refine then_n ?_
                          refine WP.seq ?_
                          refine WP.seq ?_
                          refine WP.region ?_
                          obtain ⟨c618, hc618, h⟩ := lt_some h
                          refine WPI.run 2 ⟨#[.agg #[s1, s3], vp b5 0, g120, s123, vi x124, vb t419, vi t427, vp b455 0, vi t451.2, vi x468, vp b461 0, s471, s613, vb t612.2, .agg #[s1, s3], vb false, vp b5 0, s1, s14, g224, g225, g226, g227, g228, g229, g230, g231, vb true, g143, g144, s123, vb t419, s123, vi t423, vi t427, g431, g432, g433, g434, g435, g436, g437, g438, g439, g440, g441, vb false, .tuple #[TNode.val t451.1, vi t451.2], s123, .tuple #[TNode.val t451.1, vi t451.2], TNode.val t451.1, vi t451.2, .agg #[vi 0, vi 0, vu 0, vu 0, vu 0, vu 0], g472, g473, g474, g475, g476, g477, g478, g479, g480, g508, g509, g510, g511, g512, g513, g514, g515, g516, g517, g518, g519, g520, g521, g522, g523, g524, g525, g526, g527, g528, g529, g530, g531, g532, g533, g534, g535, g536, vb false, .tuple #[s613, vb t612.2], s123, vp b5 1, s3, vi x124, va (slAt s3 7 (Int.toNat x124)), Ttarnlaw13_Act.val x611, .tuple #[s613, vb t612.2], s613, vb t612.2, vb t612.2, vb c618, g219, g220, Z], []⟩ w615 (fun K => by subst hc618; kernel_rfl) ?_
                          refine WPI.done rfl ?_
                          refine then_n ?_
                          cases c618 with
                          | false =>
                            replace h := br_f h
                            refine WP.condF (by kernel_rfl) ?_
                            refine WP.skip ?_
                            refine then_n ?_
                            refine WP.region ?_
                            obtain ⟨t619, ht619, h⟩ := bd_some h
                            refine WPI.run 1 ⟨#[.agg #[s1, s3], vp b5 0, g120, s123, vi x124, vb t419, vi t427, vp b455 0, vi t451.2, vi x468, vp b461 0, s471, s613, vb t612.2, .agg #[s1, s3], vb false, vp b5 0, s1, s14, g224, g225, g226, g227, g228, g229, g230, g231, vb true, g143, g144, s123, vb t419, s123, vi t423, vi t427, g431, g432, g433, g434, g435, g436, g437, g438, g439, g440, g441, vb false, .tuple #[TNode.val t451.1, vi t451.2], s123, .tuple #[TNode.val t451.1, vi t451.2], TNode.val t451.1, vi t451.2, .agg #[vi 0, vi 0, vu 0, vu 0, vu 0, vu 0], g472, g473, g474, g475, g476, g477, g478, g479, g480, g508, g509, g510, g511, g512, g513, g514, g515, g516, g517, g518, g519, g520, g521, g522, g523, g524, g525, g526, g527, g528, g529, g530, g531, g532, g533, g534, g535, g536, vb false, .tuple #[s613, vb t612.2], s123, vp b5 1, s3, vi x124, va (slAt s3 7 (Int.toNat x124)), Ttarnlaw13_Act.val x611, .tuple #[s613, vb t612.2], s613, vb t612.2, vb t612.2, vb false, s613, g220, Z], []⟩ w615 (fun K => by kernel_rfl) ?_
                            refine WPI.op rfl (Op1.call (by kernel_rfl) (by kernel_rfl) (g_tarnref0_CopyNodes_w fuel s613 t612.1 t619 ht619 _ hr614) ?_)
                            rintro s620 w623 ⟨_, rfl, Hc624⟩
                            have H625 := St.call0 H617 Hc624
                            clear H617 Hc624
                            have sf622 := Own.isSl (St.get H625 0 rfl)
                            refine WPI.run 1 ⟨#[.agg #[s1, s3], vp b5 0, g120, s620, vi x124, vb t419, vi t427, vp b455 0, vi t451.2, vi x468, vp b461 0, s471, s613, vb t612.2, .agg #[s1, s3], vb false, vp b5 0, s1, s14, g224, g225, g226, g227, g228, g229, g230, g231, vb true, g143, g144, s123, vb t419, s123, vi t423, vi t427, g431, g432, g433, g434, g435, g436, g437, g438, g439, g440, g441, vb false, .tuple #[TNode.val t451.1, vi t451.2], s123, .tuple #[TNode.val t451.1, vi t451.2], TNode.val t451.1, vi t451.2, .agg #[vi 0, vi 0, vu 0, vu 0, vu 0, vu 0], g472, g473, g474, g475, g476, g477, g478, g479, g480, g508, g509, g510, g511, g512, g513, g514, g515, g516, g517, g518, g519, g520, g521, g522, g523, g524, g525, g526, g527, g528, g529, g530, g531, g532, g533, g534, g535, g536, vb false, .tuple #[s613, vb t612.2], s123, vp b5 1, s3, vi x124, va (slAt s3 7 (Int.toNat x124)), Ttarnlaw13_Act.val x611, .tuple #[s613, vb t612.2], s613, vb t612.2, vb t612.2, vb false, s613, s620, Z], []⟩ w623 (fun K => by kernel_rfl) ?_
                            refine WPI.done rfl ?_
                            exact inb_n (then_n ⟨t619, s620, _, _, _, _, _, _, _, _, _, _, _, _, _, _, _, _, _, _, _, _, _, _, _, _, _, _, _, _, _, _, _, _, _, _, _, _, _, _, _, _, _, _, _, _, _, _, _, _, _, _, _, _, _, _, _, _, _, _, _, _, _, _, _, _, _, _, _, _, _, _, _, _, _, _, _, _, _, _, _, _, _, _, _, _, _, _, rfl, St.sel H625 [3, 4, 0] (by decide) rfl, h⟩)
                          | true =>
                            replace h := br_t h
                            refine WP.condT (by kernel_rfl) ?_
                            refine WP.seq ?_
                            refine WP.region ?_
                            refine WPI.run 1 ⟨#[.agg #[s1, s3], vp b5 0, vb false, s123, vi x124, vb t419, vi t427, vp b455 0, vi t451.2, vi x468, vp b461 0, s471, s613, vb t612.2, .agg #[s1, s3], vb false, vp b5 0, s1, s14, g224, g225, g226, g227, g228, g229, g230, g231, vb true, g143, g144, s123, vb t419, s123, vi t423, vi t427, g431, g432, g433, g434, g435, g436, g437, g438, g439, g440, g441, vb false, .tuple #[TNode.val t451.1, vi t451.2], s123, .tuple #[TNode.val t451.1, vi t451.2], TNode.val t451.1, vi t451.2, .agg #[vi 0, vi 0, vu 0, vu 0, vu 0, vu 0], g472, g473, g474, g475, g476, g477, g478, g479, g480, g508, g509, g510, g511, g512, g513, g514, g515, g516, g517, g518, g519, g520, g521, g522, g523, g524, g525, g526, g527, g528, g529, g530, g531, g532, g533, g534, g535, g536, vb false, .tuple #[s613, vb t612.2], s123, vp b5 1, s3, vi x124, va (slAt s3 7 (Int.toNat x124)), Ttarnlaw13_Act.val x611, .tuple #[s613, vb t612.2], s613, vb t612.2, vb t612.2, vb true, g219, g220, Z], []⟩ w615 (fun K => by kernel_rfl) ?_
                            refine WPI.done rfl ?_
                            refine then_n ?_
                            refine WP.ret ?_
                            obtain rfl := Option.some.inj h
                            exact then_r (inb_r (then_r (then_r (then_r (inb_r (then_r (then_r (post_r (vb false) rfl (by kernel_rfl) ⟨rfl, St.sel H617 [] (by decide) rfl⟩))))))))
                        | true =>
                          replace h := br_t h
                          refine WP.condT (by kernel_rfl) ?_
                          refine WP.seq ?_
                          refine WP.region ?_
                          refine WPI.run 1 ⟨#[.agg #[s1, s3], vp b5 0, vb false, s123, vi x124, vb t419, vi t427, vp b455 0, vi t451.2, vi x468, vp b461 0, s471, g132, g133, .agg #[s1, s3], vb false, vp b5 0, s1, s14, g224, g225, g226, g227, g228, g229, g230, g231, vb true, g143, g144, s123, vb t419, s123, vi t423, vi t427, g431, g432, g433, g434, g435, g436, g437, g438, g439, g440, g441, vb false, .tuple #[TNode.val t451.1, vi t451.2], s123, .tuple #[TNode.val t451.1, vi t451.2], TNode.val t451.1, vi t451.2, .agg #[vi 0, vi 0, vu 0, vu 0, vu 0, vu 0], g472, g473, g474, g475, g476, g477, g478, g479, g480, g508, g509, g510, g511, g512, g513, g514, g515, g516, g517, g518, g519, g520, g521, g522, g523, g524, g525, g526, g527, g528, g529, g530, g531, g532, g533, g534, g535, g536, vb true, g207, g208, g209, g210, g211, g212, g213, g214, g215, g216, g217, g218, g219, g220, Z], []⟩ w606 (fun K => by kernel_rfl) ?_
                          refine WPI.done rfl ?_
                          refine then_n ?_
                          refine WP.ret ?_
                          obtain rfl := Option.some.inj h
                          exact then_r (inb_r (then_r (then_r (then_r (inb_r (then_r (then_r (post_r (vb false) rfl (by kernel_rfl) ⟨rfl, St.sel H607 [] (by decide) rfl⟩))))))))
                  | true =>
                    replace h := br_t h
                    refine WP.condT (by kernel_rfl) ?_
                    refine WP.seq ?_
                    refine WP.region ?_
                    refine WPI.run 1 ⟨#[.agg #[s1, s3], vp b5 0, vb false, s123, vi x124, vb t419, vi t427, g127, g128, g129, g130, g131, g132, g133, .agg #[s1, s3], vb false, vp b5 0, s1, s14, g224, g225, g226, g227, g228, g229, g230, g231, vb true, g143, g144, s123, vb t419, s123, vi t423, vi t427, g431, g432, g433, g434, g435, g436, g437, g438, g439, g440, g441, vb true, g162, g163, g164, g165, g166, g167, g168, g169, g170, g171, g172, g173, g174, g175, g176, g177, g178, g179, g180, g181, g182, g183, g184, g185, g186, g187, g188, g189, g190, g191, g192, g193, g194, g195, g196, g197, g198, g199, g200, g201, g202, g203, g204, g205, g206, g207, g208, g209, g210, g211, g212, g213, g214, g215, g216, g217, g218, g219, g220, Z], []⟩ w448 (fun K => by kernel_rfl) ?_
                    refine WPI.done rfl ?_
                    refine then_n ?_
                    refine WP.ret ?_
                    obtain rfl := Option.some.inj h
                    exact then_r (inb_r (then_r (then_r (then_r (inb_r (then_r (then_r (post_r (vb false) rfl (by kernel_rfl) ⟨rfl, St.sel H449 [] (by decide) rfl⟩))))))))
              · intro a w hq
                refine Exists.elim hq fun l331 hq => Exists.elim hq fun s332 hq => Exists.elim hq fun g329 hq => Exists.elim hq fun g333 hq => Exists.elim hq fun g334 hq => Exists.elim hq fun g335 hq => Exists.elim hq fun g336 hq => Exists.elim hq fun g337 hq => Exists.elim hq fun g338 hq => Exists.elim hq fun g339 hq => Exists.elim hq fun g340 hq => Exists.elim hq fun g341 hq => Exists.elim hq fun g342 hq => Exists.elim hq fun g343 hq => Exists.elim hq fun g344 hq => Exists.elim hq fun g345 hq => Exists.elim hq fun g346 hq => Exists.elim hq fun g347 hq => Exists.elim hq fun g348 hq => Exists.elim hq fun g349 hq => Exists.elim hq fun g350 hq => Exists.elim hq fun g351 hq => Exists.elim hq fun g352 hq => Exists.elim hq fun g353 hq => Exists.elim hq fun g354 hq => Exists.elim hq fun g355 hq => Exists.elim hq fun g356 hq => Exists.elim hq fun g357 hq => Exists.elim hq fun g358 hq => Exists.elim hq fun g359 hq => Exists.elim hq fun g360 hq => Exists.elim hq fun g361 hq => Exists.elim hq fun g362 hq => Exists.elim hq fun g363 hq => Exists.elim hq fun g364 hq => Exists.elim hq fun g365 hq => Exists.elim hq fun g366 hq => Exists.elim hq fun g367 hq => Exists.elim hq fun g368 hq => Exists.elim hq fun g369 hq => Exists.elim hq fun g370 hq => Exists.elim hq fun g371 hq => Exists.elim hq fun g372 hq => Exists.elim hq fun g373 hq => Exists.elim hq fun g374 hq => Exists.elim hq fun g375 hq => Exists.elim hq fun g376 hq => Exists.elim hq fun g377 hq => Exists.elim hq fun g378 hq => Exists.elim hq fun g379 hq => Exists.elim hq fun g380 hq => Exists.elim hq fun g381 hq => Exists.elim hq fun g382 hq => Exists.elim hq fun g383 hq => Exists.elim hq fun g384 hq => Exists.elim hq fun g385 hq => Exists.elim hq fun g386 hq => Exists.elim hq fun g387 hq => Exists.elim hq fun g388 hq => Exists.elim hq fun g389 hq => Exists.elim hq fun g390 hq => Exists.elim hq fun g391 hq => Exists.elim hq fun g392 hq => Exists.elim hq fun g393 hq => Exists.elim hq fun g394 hq => Exists.elim hq fun g395 hq => Exists.elim hq fun g396 hq => Exists.elim hq fun g397 hq => Exists.elim hq fun g398 hq => Exists.elim hq fun g399 hq => Exists.elim hq fun g400 hq => Exists.elim hq fun g401 hq => Exists.elim hq fun g402 hq => Exists.elim hq fun g403 hq => Exists.elim hq fun g404 hq => Exists.elim hq fun g405 hq => Exists.elim hq fun g406 hq => Exists.elim hq fun g407 hq => Exists.elim hq fun g408 hq => Exists.elim hq fun g409 hq => Exists.elim hq fun g410 hq => Exists.elim hq fun g411 hq => Exists.elim hq fun g412 hq => Exists.elim hq fun g413 hq => Exists.elim hq fun g414 hq => Exists.elim hq fun g415 hq => Exists.elim hq fun g416 hq => Exists.elim hq fun g417 hq => ?_
                obtain ⟨rfl, H, h⟩ := hq
                have hQ := h; subst hK418; have h := hQ; clear hQ
                obtain ⟨w626, rfl⟩ : ∃ x, x = w := ⟨_, rfl⟩
                have H627 := H; clear H
                have sf628 := Own.isSl (St.get H627 1 rfl)
                have sf629 := Own.isSl (St.get H627 2 rfl)
                exact then_n ⟨l331, s332, _, _, _, _, _, _, _, _, _, _, _, _, _, _, _, _, _, _, _, _, _, _, _, _, _, _, _, _, _, _, _, _, _, _, _, _, _, _, _, _, _, _, _, _, _, _, _, _, _, _, _, _, _, _, _, _, _, _, _, _, _, _, _, _, _, _, _, _, _, _, _, _, _, _, _, _, _, _, _, _, _, _, _, _, _, _, rfl, St.sel H627 [0, 1, 2] (by decide) rfl, h⟩
            · intro a w hq
              refine Exists.elim hq fun l241 hq => Exists.elim hq fun s242 hq => Exists.elim hq fun g239 hq => Exists.elim hq fun g243 hq => Exists.elim hq fun g244 hq => Exists.elim hq fun g245 hq => Exists.elim hq fun g246 hq => Exists.elim hq fun g247 hq => Exists.elim hq fun g248 hq => Exists.elim hq fun g249 hq => Exists.elim hq fun g250 hq => Exists.elim hq fun g251 hq => Exists.elim hq fun g252 hq => Exists.elim hq fun g253 hq => Exists.elim hq fun g254 hq => Exists.elim hq fun g255 hq => Exists.elim hq fun g256 hq => Exists.elim hq fun g257 hq => Exists.elim hq fun g258 hq => Exists.elim hq fun g259 hq => Exists.elim hq fun g260 hq => Exists.elim hq fun g261 hq => Exists.elim hq fun g262 hq => Exists.elim hq fun g263 hq => Exists.elim hq fun g264 hq => Exists.elim hq fun g265 hq => Exists.elim hq fun g266 hq => Exists.elim hq fun g267 hq => Exists.elim hq fun g268 hq => Exists.elim hq fun g269 hq => Exists.elim hq fun g270 hq => Exists.elim hq fun g271 hq => Exists.elim hq fun g272 hq => Exists.elim hq fun g273 hq => Exists.elim hq fun g274 hq => Exists.elim hq fun g275 hq => Exists.elim hq fun g276 hq => Exists.elim hq fun g277 hq => Exists.elim hq fun g278 hq => Exists.elim hq fun g279 hq => Exists.elim hq fun g280 hq => Exists.elim hq fun g281 hq => Exists.elim hq fun g282 hq => Exists.elim hq fun g283 hq => Exists.elim hq fun g284 hq => Exists.elim hq fun g285 hq => Exists.elim hq fun g286 hq => Exists.elim hq fun g287 hq => Exists.elim hq fun g288 hq => Exists.elim hq fun g289 hq => Exists.elim hq fun g290 hq => Exists.elim hq fun g291 hq => Exists.elim hq fun g292 hq => Exists.elim hq fun g293 hq => Exists.elim hq fun g294 hq => Exists.elim hq fun g295 hq => Exists.elim hq fun g296 hq => Exists.elim hq fun g297 hq => Exists.elim hq fun g298 hq => Exists.elim hq fun g299 hq => Exists.elim hq fun g300 hq => Exists.elim hq fun g301 hq => Exists.elim hq fun g302 hq => Exists.elim hq fun g303 hq => Exists.elim hq fun g304 hq => Exists.elim hq fun g305 hq => Exists.elim hq fun g306 hq => Exists.elim hq fun g307 hq => Exists.elim hq fun g308 hq => Exists.elim hq fun g309 hq => Exists.elim hq fun g310 hq => Exists.elim hq fun g311 hq => Exists.elim hq fun g312 hq => Exists.elim hq fun g313 hq => Exists.elim hq fun g314 hq => Exists.elim hq fun g315 hq => Exists.elim hq fun g316 hq => Exists.elim hq fun g317 hq => Exists.elim hq fun g318 hq => Exists.elim hq fun g319 hq => Exists.elim hq fun g320 hq => Exists.elim hq fun g321 hq => Exists.elim hq fun g322 hq => Exists.elim hq fun g323 hq => Exists.elim hq fun g324 hq => Exists.elim hq fun g325 hq => Exists.elim hq fun g326 hq => Exists.elim hq fun g327 hq => ?_
              obtain ⟨rfl, H, h⟩ := hq
              have hQ := h; subst hK328; have h := hQ; clear hQ
              obtain ⟨w630, rfl⟩ : ∃ x, x = w := ⟨_, rfl⟩
              have H631 := H; clear H
              have sf632 := Own.isSl (St.get H631 1 rfl)
              have sf633 := Own.isSl (St.get H631 2 rfl)
              refine WP.region ?_
              obtain ⟨x634, hx634, h⟩ := lt_some h
              refine WPI.run 3 ⟨#[.agg #[s1, s3], vp b5 0, g239, s242, vi x634, g243, g244, g245, g246, g247, g248, g249, g250, g251, .agg #[s1, s3], vb false, vp b5 0, s1, s14, g224, g225, g226, g227, g228, g229, g230, g231, vb true, vi x124, vi x634, g252, g253, g254, g255, g256, g257, g258, g259, g260, g261, g262, g263, g264, g265, g266, g267, g268, g269, g270, g271, g272, g273, g274, g275, g276, g277, g278, g279, g280, g281, g282, g283, g284, g285, g286, g287, g288, g289, g290, g291, g292, g293, g294, g295, g296, g297, g298, g299, g300, g301, g302, g303, g304, g305, g306, g307, g308, g309, g310, g311, g312, g313, g314, g315, g316, g317, g318, g319, g320, g321, g322, g323, g324, g325, g326, g327, Z], []⟩ w630 (fun K => by subst hx634; kernel_rfl) ?_
              refine WPI.done rfl ?_
              exact then_n ⟨n, Nat.lt_succ_self n, l241, x634, s242, _, _, _, _, _, _, _, _, _, _, _, _, _, _, _, _, _, _, _, _, _, _, _, _, _, _, _, _, _, _, _, _, _, _, _, _, _, _, _, _, _, _, _, _, _, _, _, _, _, _, _, _, _, _, _, _, _, _, _, _, _, _, _, _, _, _, _, _, _, _, _, _, _, _, _, _, _, _, _, _, _, _, _, _, _, _, _, _, _, _, _, _, _, _, _, _, _, rfl, St.sel H631 [0, 2] (by decide) rfl, h⟩
    · intro a w hq
      refine Exists.elim hq fun g20 hq => Exists.elim hq fun g21 hq => Exists.elim hq fun g22 hq => Exists.elim hq fun g23 hq => Exists.elim hq fun g24 hq => Exists.elim hq fun g25 hq => Exists.elim hq fun g26 hq => Exists.elim hq fun g27 hq => Exists.elim hq fun g28 hq => Exists.elim hq fun g29 hq => Exists.elim hq fun g30 hq => Exists.elim hq fun g31 hq => Exists.elim hq fun g32 hq => Exists.elim hq fun g33 hq => Exists.elim hq fun g34 hq => Exists.elim hq fun g35 hq => Exists.elim hq fun g36 hq => Exists.elim hq fun g37 hq => Exists.elim hq fun g38 hq => Exists.elim hq fun g39 hq => Exists.elim hq fun g40 hq => Exists.elim hq fun g41 hq => Exists.elim hq fun g42 hq => Exists.elim hq fun g43 hq => Exists.elim hq fun g44 hq => Exists.elim hq fun g45 hq => Exists.elim hq fun g46 hq => Exists.elim hq fun g47 hq => Exists.elim hq fun g48 hq => Exists.elim hq fun g49 hq => Exists.elim hq fun g50 hq => Exists.elim hq fun g51 hq => Exists.elim hq fun g52 hq => Exists.elim hq fun g53 hq => Exists.elim hq fun g54 hq => Exists.elim hq fun g55 hq => Exists.elim hq fun g56 hq => Exists.elim hq fun g57 hq => Exists.elim hq fun g58 hq => Exists.elim hq fun g59 hq => Exists.elim hq fun g60 hq => Exists.elim hq fun g61 hq => Exists.elim hq fun g62 hq => Exists.elim hq fun g63 hq => Exists.elim hq fun g64 hq => Exists.elim hq fun g65 hq => Exists.elim hq fun g66 hq => Exists.elim hq fun g67 hq => Exists.elim hq fun g68 hq => Exists.elim hq fun g69 hq => Exists.elim hq fun g70 hq => Exists.elim hq fun g71 hq => Exists.elim hq fun g72 hq => Exists.elim hq fun g73 hq => Exists.elim hq fun g74 hq => Exists.elim hq fun g75 hq => Exists.elim hq fun g76 hq => Exists.elim hq fun g77 hq => Exists.elim hq fun g78 hq => Exists.elim hq fun g79 hq => Exists.elim hq fun g80 hq => Exists.elim hq fun g81 hq => Exists.elim hq fun g82 hq => Exists.elim hq fun g83 hq => Exists.elim hq fun g84 hq => Exists.elim hq fun g85 hq => Exists.elim hq fun g86 hq => Exists.elim hq fun g87 hq => Exists.elim hq fun g88 hq => Exists.elim hq fun g89 hq => Exists.elim hq fun g90 hq => Exists.elim hq fun g91 hq => Exists.elim hq fun g92 hq => Exists.elim hq fun g93 hq => Exists.elim hq fun g94 hq => Exists.elim hq fun g95 hq => Exists.elim hq fun g96 hq => Exists.elim hq fun g97 hq => Exists.elim hq fun g98 hq => Exists.elim hq fun g99 hq => Exists.elim hq fun g100 hq => Exists.elim hq fun g101 hq => Exists.elim hq fun g102 hq => Exists.elim hq fun g103 hq => Exists.elim hq fun g104 hq => Exists.elim hq fun g105 hq => Exists.elim hq fun g106 hq => Exists.elim hq fun g107 hq => Exists.elim hq fun g108 hq => Exists.elim hq fun g109 hq => Exists.elim hq fun g110 hq => Exists.elim hq fun g111 hq => Exists.elim hq fun g112 hq => Exists.elim hq fun g113 hq => Exists.elim hq fun g114 hq => Exists.elim hq fun g115 hq => Exists.elim hq fun g116 hq => Exists.elim hq fun g117 hq => Exists.elim hq fun g118 hq => ?_
      obtain ⟨rfl, H, h⟩ := hq
      have hQ := h; subst hK119; have h := hQ; clear hQ
      obtain ⟨w635, rfl⟩ : ∃ x, x = w := ⟨_, rfl⟩
      have H636 := H; clear H
      refine then_n ?_
      refine WP.seq ?_
      refine WP.region ?_
      obtain ⟨t637, ht637, h⟩ := bd_some h
      refine WPI.op rfl (Op1.call (by kernel_rfl) (by kernel_rfl) (g_tarnlaw13_wakes_w fuel t637 ht637 _) ?_)
      rintro _ w638 ⟨rfl, Hc639⟩
      have H640 := St.call0' H636 Hc639
      clear H636 Hc639
      refine WPI.run 1 ⟨#[.agg #[s1, s3], vp b5 0, vb t637, g21, g22, g23, g24, g25, g26, g27, g28, g29, g30, g31, .agg #[s1, s3], vb false, vp b5 0, s1, s14, g32, g33, g34, g35, g36, g37, g38, g39, g40, g41, g42, g43, g44, g45, g46, g47, g48, g49, g50, g51, g52, g53, g54, g55, g56, g57, g58, g59, g60, g61, g62, g63, g64, g65, g66, g67, g68, g69, g70, g71, g72, g73, g74, g75, g76, g77, g78, g79, g80, g81, g82, g83, g84, g85, g86, g87, g88, g89, g90, g91, g92, g93, g94, g95, g96, g97, g98, g99, g100, g101, g102, g103, g104, g105, g106, g107, g108, g109, g110, g111, g112, g113, g114, g115, g116, g117, g118, vb t637], []⟩ w638 (fun K => by kernel_rfl) ?_
      refine WPI.done rfl ?_
      refine then_n ?_
      refine WP.ret ?_
      obtain rfl := Option.some.inj h
      exact post_r (vb t637) rfl (by kernel_rfl) ⟨rfl, St.sel H640 [] (by decide) rfl⟩
  | true =>
    replace h := br_t h
    refine WP.condT (by kernel_rfl) ?_
    refine WP.seq ?_
    refine WP.region ?_
    refine WPI.run 1 ⟨#[.agg #[s1, s3], vp b5 0, vb true, Z, Z, Z, Z, Z, Z, Z, Z, Z, Z, Z, .agg #[s1, s3], vb true, Z, Z, Z, Z, Z, Z, Z, Z, Z, Z, Z, Z, Z, Z, Z, Z, Z, Z, Z, Z, Z, Z, Z, Z, Z, Z, Z, Z, Z, Z, Z, Z, Z, Z, Z, Z, Z, Z, Z, Z, Z, Z, Z, Z, Z, Z, Z, Z, Z, Z, Z, Z, Z, Z, Z, Z, Z, Z, Z, Z, Z, Z, Z, Z, Z, Z, Z, Z, Z, Z, Z, Z, Z, Z, Z, Z, Z, Z, Z, Z, Z, Z, Z, Z, Z, Z, Z, Z, Z, Z, Z], []⟩ w10 (fun K => by kernel_rfl) ?_
    refine WPI.done rfl ?_
    refine then_n ?_
    refine WP.ret ?_
    obtain rfl := Option.some.inj h
    exact then_r (post_r (vb true) rfl (by kernel_rfl) ⟨rfl, St.sel H12 [] (by decide) rfl⟩)
end Go.Proofs
