import Derived.Test.YtjcagpcpbfmldaaGw
import Derived.Test.YtjcagpcpbfmldaaProg
import Derived.Test.YtjcagpcpbfmldaaT
import Derived.Test.YtjcagpcpbfmldaaGwh
import Derived.Test.YtjcagpcpbfmldaaW11
set_option linter.unusedVariables false
set_option linter.unusedSimpArgs false
set_option maxRecDepth 100000
set_option maxHeartbeats 4000000
namespace Go.Proofs
open Gw Go.RowKit
/- tarn/tarnlaw13.HeapMany -/
def g_tarnlaw13_HeapMany_l2 (x102 : Int) (fuel : Nat) (K343 : (List TNode) → Option Bool) : Nat → (List TNode) → Int → Option Bool
  | 0, _, _ => none
  | n + 1, l346, x348 => lt (decide (x348 < 8)) fun c408 => br c408 (lt (wr .i64 (7 - x348)) fun x409 => lt (wr .i64 (x348 * 3)) fun x410 => lt (Int.tmod x410 8) fun x411 => lt (wr .i64 (x348 * 5)) fun x412 => lt (Int.tmod x412 8) fun x413 => gd ((0 : Int) ≤ x102 ∧ x102 < ((List.length ([x348, x409, x411, x413] : List Int) : Nat) : Int)) <| bd (([x348, x409, x411, x413] : List Int)[Int.toNat x102]?) fun x420 => lt (wr .i64 (0 - x420)) fun x421 => lt (wr .i64 (Int.tdiv x421 2)) fun x422 => bd (g_heap_Push fuel l346 (TNode.mk x420 (TRank.mk x422 (TU256.mk 0 0 0 0)))) fun t423 => bd (g_heap_Push fuel t423.1 (TNode.mk x420 (TRank.mk 0 (TU256.mk 0 0 0 0)))) fun t430 => jn (fun (c451 : Bool) => br c451 (some false) (lt (wr .i64 (x348 + 1)) fun x471 => g_tarnlaw13_HeapMany_l2 x102 fuel K343 n t423.1 x471)) fun K452 => bd (g_tarnlaw13_num fuel t423.2) fun t453 => lt (t453 != 0) fun c457 => br c457 (K452 true) (bd (g_tarnlaw13_num fuel t430.2) fun t458 => lt (t458 != 4) fun c462 => br c462 (K452 true) (lt (wr .i64 (x348 + 1)) fun x463 => lt ((((List.length t423.1 : Nat) : Int)) != x463) fun c464 => K452 c464))) (K343 l346)
def g_tarnlaw13_HeapMany_l3 (t480 : List TNode) (K506 : Option Bool) (fuel : Nat) : Nat → Int → Option Bool
  | 0, _ => none
  | n + 1, x508 => lt (decide (x508 < (((List.length (([6, 7, 4, 5, 2, 3, 0, 1] : List Int)) : Nat) : Int)))) fun c530 => br c530 (gd ((0 : Int) ≤ x508 ∧ x508 < ((List.length t480 : Nat) : Int)) <| bd (t480[Int.toNat x508]?) fun x532 => gd ((0 : Int) ≤ x508 ∧ x508 < ((List.length ([6, 7, 4, 5, 2, 3, 0, 1] : List Int) : Nat) : Int)) <| bd (([6, 7, 4, 5, 2, 3, 0, 1] : List Int)[Int.toNat x508]?) fun x534 => lt (x532.Acct != x534) fun c535 => br c535 (some false) (lt (wr .i64 (x508 + 1)) fun x538 => g_tarnlaw13_HeapMany_l3 t480 K506 fuel n x538)) (K506)
def g_tarnlaw13_HeapMany_l1 (fuel : Nat) (K100 : Option Bool) : Nat → Int → Option Bool
  | 0, _ => none
  | n + 1, x102 => lt (decide (x102 < 4)) fun c194 => br c194 (jn (lt (wr .i64 (x102 + 1)) fun x546 => g_tarnlaw13_HeapMany_l1 fuel K100 n x546) fun K281 => jn (fun (l284 : List TNode) => bd (g_tarnlaw13_order fuel l284 100) fun t480 => lt ((((List.length t480 : Nat) : Int)) != (((List.length (([6, 7, 4, 5, 2, 3, 0, 1] : List Int)) : Nat) : Int))) fun c487 => br c487 (some false) (jn (K281) fun K506 => g_tarnlaw13_HeapMany_l3 t480 K506 fuel fuel 0)) fun K343 => g_tarnlaw13_HeapMany_l2 x102 fuel K343 fuel ([]) 0) (K100)
def g_tarnlaw13_HeapMany (fuel : Nat) (l2 : List TNode) (l4 : List Ttarnlaw13_Act) : Option Bool :=
  jn (jn (fun (c549 : Bool) => some c549) fun K557 => lt (decide ((((List.length l4 : Nat) : Int)) ≥ 0)) fun c558 => br c558 (bd (g_tarnlaw13_wakes fuel) fun t559 => K557 t559) (K557 false)) fun K100 => g_tarnlaw13_HeapMany_l1 fuel K100 fuel 0
theorem g_tarnlaw13_HeapMany_w (fuel : Nat) (s1 : Value) (l2 : List TNode) (s3 : Value) (l4 : List Ttarnlaw13_Act) (r : Bool) (h : g_tarnlaw13_HeapMany fuel l2 l4 = some r) (w0 : World) (hs1 : Rd fTNode (hp no w0) s1 l2) (hs3 : Rd fTtarnlaw13_Act (hp no w0) s3 l4) :
    Ret Try.prog 9 #[.agg #[s1, s3]] w0 (fun v w' => v = vb r ∧ St no w0 w' []) := by
  unfold g_tarnlaw13_HeapMany at h
  refine ret_of_wp Try.func9 rfl #[.agg #[s1, s3], Z, Z, Z, Z, Z, Z, Z, Z, Z, Z, Z, Z, Z, Z, Z, Z, Z, Z, Z, Z, Z, Z, Z, Z, Z, Z, Z, Z, Z, Z, Z, Z, Z, Z, Z, Z, Z, Z, Z, Z, Z, Z, Z, Z, Z, Z, Z, Z, Z, Z, Z, Z, Z, Z, Z, Z, Z, Z, Z, Z, Z, Z, Z, Z, Z, Z, Z, Z, Z, Z, Z, Z, Z, Z, Z, Z, Z, Z, Z, Z, Z, Z, Z, Z, Z, Z, Z, Z, Z, Z, Z, Z, Z, Z, Z, Z, Z, Z, Z] (by kernel_rfl) ?_
  have H0 := St.start w0
  refine WP.seq ?_
  refine WP.region ?_
  refine WPI.op rfl (Op1.box H0 #[s1, s3] (by kernel_rfl) 25 (.tmp 0) rfl (by kernel_rfl) (fun b5 w7 H8 => ?_))
  refine WPI.run 1 ⟨#[.agg #[s1, s3], vp b5 0, vb false, Z, Z, Z, Z, Z, Z, Z, Z, Z, Z, Z, Z, Z, Z, Z, Z, Z, Z, Z, Z, Z, Z, Z, Z, Z, Z, Z, Z, Z, Z, Z, Z, Z, Z, Z, Z, Z, Z, Z, Z, Z, Z, Z, Z, Z, Z, Z, Z, Z, Z, Z, Z, Z, Z, Z, Z, Z, Z, Z, Z, Z, Z, Z, Z, Z, Z, Z, Z, Z, Z, Z, Z, Z, Z, Z, Z, Z, Z, Z, Z, Z, Z, Z, Z, Z, Z, Z, Z, Z, Z, Z, Z, Z, Z, Z, Z, Z], []⟩ w7 (fun K => by kernel_rfl) ?_
  refine WPI.done rfl ?_
  refine then_n ?_
  refine WP.seq ?_
  refine WP.seq ?_
  refine WP.region ?_
  refine WPI.run 1 ⟨#[.agg #[s1, s3], vp b5 0, vb false, vi 0, Z, Z, Z, Z, Z, Z, Z, Z, Z, Z, Z, Z, Z, Z, Z, Z, Z, Z, Z, Z, Z, Z, Z, Z, Z, Z, Z, Z, Z, Z, Z, Z, Z, Z, Z, Z, Z, Z, Z, Z, Z, Z, Z, Z, Z, Z, Z, Z, Z, Z, Z, Z, Z, Z, Z, Z, Z, Z, Z, Z, Z, Z, Z, Z, Z, Z, Z, Z, Z, Z, Z, Z, Z, Z, Z, Z, Z, Z, Z, Z, Z, Z, Z, Z, Z, Z, Z, Z, Z, Z, Z, Z, Z, Z, Z, Z], []⟩ w7 (fun K => by kernel_rfl) ?_
  refine WPI.done rfl ?_
  refine then_n ?_
  obtain ⟨K100, hK100, h⟩ := jn_some h
  refine WP.blockJ (fun a w => ∃ (g9 : Value) (g10 : Value) (g11 : Value) (g12 : Value) (g13 : Value) (g14 : Value) (g15 : Value) (g16 : Value) (g17 : Value) (g18 : Value) (g19 : Value) (g20 : Value) (g21 : Value) (g22 : Value) (g23 : Value) (g24 : Value) (g25 : Value) (g26 : Value) (g27 : Value) (g28 : Value) (g29 : Value) (g30 : Value) (g31 : Value) (g32 : Value) (g33 : Value) (g34 : Value) (g35 : Value) (g36 : Value) (g37 : Value) (g38 : Value) (g39 : Value) (g40 : Value) (g41 : Value) (g42 : Value) (g43 : Value) (g44 : Value) (g45 : Value) (g46 : Value) (g47 : Value) (g48 : Value) (g49 : Value) (g50 : Value) (g51 : Value) (g52 : Value) (g53 : Value) (g54 : Value) (g55 : Value) (g56 : Value) (g57 : Value) (g58 : Value) (g59 : Value) (g60 : Value) (g61 : Value) (g62 : Value) (g63 : Value) (g64 : Value) (g65 : Value) (g66 : Value) (g67 : Value) (g68 : Value) (g69 : Value) (g70 : Value) (g71 : Value) (g72 : Value) (g73 : Value) (g74 : Value) (g75 : Value) (g76 : Value) (g77 : Value) (g78 : Value) (g79 : Value) (g80 : Value) (g81 : Value) (g82 : Value) (g83 : Value) (g84 : Value) (g85 : Value) (g86 : Value) (g87 : Value) (g88 : Value) (g89 : Value) (g90 : Value) (g91 : Value) (g92 : Value) (g93 : Value) (g94 : Value) (g95 : Value) (g96 : Value) (g97 : Value) (g98 : Value) (g99 : Value), a = ⟨#[.agg #[s1, s3], vp b5 0, g9, g10, g11, g12, g13, g14, g15, g16, g17, g18, g19, g20, g21, g22, g23, g24, g25, g26, g27, g28, g29, g30, g31, g32, g33, g34, g35, g36, g37, g38, g39, g40, g41, g42, g43, g44, g45, g46, g47, g48, g49, g50, g51, g52, g53, g54, g55, g56, g57, g58, g59, g60, g61, g62, g63, g64, g65, g66, g67, g68, g69, g70, g71, g72, g73, g74, g75, g76, g77, g78, g79, g80, g81, g82, g83, g84, g85, g86, g87, g88, g89, g90, g91, g92, g93, g94, g95, g96, g97, g98, g99, Z, Z, Z, Z, Z, Z, Z], []⟩ ∧ St no w0 w [Box b5 #[s1, s3] 25] ∧ K100 = some r) ?_ ?_
  · skip
    refine WP.loop (fun n a w => ∃ (x102 : Int) (g101 : Value) (g103 : Value) (g104 : Value) (g105 : Value) (g106 : Value) (g107 : Value) (g108 : Value) (g109 : Value) (g110 : Value) (g111 : Value) (g112 : Value) (g113 : Value) (g114 : Value) (g115 : Value) (g116 : Value) (g117 : Value) (g118 : Value) (g119 : Value) (g120 : Value) (g121 : Value) (g122 : Value) (g123 : Value) (g124 : Value) (g125 : Value) (g126 : Value) (g127 : Value) (g128 : Value) (g129 : Value) (g130 : Value) (g131 : Value) (g132 : Value) (g133 : Value) (g134 : Value) (g135 : Value) (g136 : Value) (g137 : Value) (g138 : Value) (g139 : Value) (g140 : Value) (g141 : Value) (g142 : Value) (g143 : Value) (g144 : Value) (g145 : Value) (g146 : Value) (g147 : Value) (g148 : Value) (g149 : Value) (g150 : Value) (g151 : Value) (g152 : Value) (g153 : Value) (g154 : Value) (g155 : Value) (g156 : Value) (g157 : Value) (g158 : Value) (g159 : Value) (g160 : Value) (g161 : Value) (g162 : Value) (g163 : Value) (g164 : Value) (g165 : Value) (g166 : Value) (g167 : Value) (g168 : Value) (g169 : Value) (g170 : Value) (g171 : Value) (g172 : Value) (g173 : Value) (g174 : Value) (g175 : Value) (g176 : Value) (g177 : Value) (g178 : Value) (g179 : Value) (g180 : Value) (g181 : Value) (g182 : Value) (g183 : Value) (g184 : Value) (g185 : Value) (g186 : Value) (g187 : Value) (g188 : Value) (g189 : Value) (g190 : Value) (g191 : Value), a = ⟨#[.agg #[s1, s3], vp b5 0, g101, vi x102, g103, g104, g105, g106, g107, g108, g109, g110, g111, g112, g113, g114, g115, g116, g117, g118, g119, g120, g121, g122, g123, g124, g125, g126, g127, g128, g129, g130, g131, g132, g133, g134, g135, g136, g137, g138, g139, g140, g141, g142, g143, g144, g145, g146, g147, g148, g149, g150, g151, g152, g153, g154, g155, g156, g157, g158, g159, g160, g161, g162, g163, g164, g165, g166, g167, g168, g169, g170, g171, g172, g173, g174, g175, g176, g177, g178, g179, g180, g181, g182, g183, g184, g185, g186, g187, g188, g189, g190, g191, Z, Z, Z, Z, Z, Z, Z], []⟩ ∧ St no w0 w [Box b5 #[s1, s3] 25] ∧ g_tarnlaw13_HeapMany_l1 fuel K100 n x102 = some r) fuel ⟨0, _, _, _, _, _, _, _, _, _, _, _, _, _, _, _, _, _, _, _, _, _, _, _, _, _, _, _, _, _, _, _, _, _, _, _, _, _, _, _, _, _, _, _, _, _, _, _, _, _, _, _, _, _, _, _, _, _, _, _, _, _, _, _, _, _, _, _, _, _, _, _, _, _, _, _, _, _, _, _, _, _, _, _, _, _, _, _, _, _, _, rfl, St.sel H8 [0] (by decide) rfl, h⟩ ?_
    rintro n a w ⟨x102, g101, g103, g104, g105, g106, g107, g108, g109, g110, g111, g112, g113, g114, g115, g116, g117, g118, g119, g120, g121, g122, g123, g124, g125, g126, g127, g128, g129, g130, g131, g132, g133, g134, g135, g136, g137, g138, g139, g140, g141, g142, g143, g144, g145, g146, g147, g148, g149, g150, g151, g152, g153, g154, g155, g156, g157, g158, g159, g160, g161, g162, g163, g164, g165, g166, g167, g168, g169, g170, g171, g172, g173, g174, g175, g176, g177, g178, g179, g180, g181, g182, g183, g184, g185, g186, g187, g188, g189, g190, g191, rfl, H, h⟩
    cases n with
    | zero => rw [g_tarnlaw13_HeapMany_l1] at h; cases h
    | succ n =>
      rw [g_tarnlaw13_HeapMany_l1] at h
      obtain ⟨w192, rfl⟩ : ∃ x, x = w := ⟨_, rfl⟩
      have H193 := H; clear H
      refine WP.seq ?_
      refine WP.seq ?_
      refine WP.region ?_
      obtain ⟨c194, hc194, h⟩ := lt_some h
      refine WPI.run 2 ⟨#[.agg #[s1, s3], vp b5 0, g101, vi x102, g103, g104, g105, g106, g107, g108, g109, g110, g111, g112, vi x102, vb c194, g115, g116, g117, g118, g119, g120, g121, g122, g123, g124, g125, g126, g127, g128, g129, g130, g131, g132, g133, g134, g135, g136, g137, g138, g139, g140, g141, g142, g143, g144, g145, g146, g147, g148, g149, g150, g151, g152, g153, g154, g155, g156, g157, g158, g159, g160, g161, g162, g163, g164, g165, g166, g167, g168, g169, g170, g171, g172, g173, g174, g175, g176, g177, g178, g179, g180, g181, g182, g183, g184, g185, g186, g187, g188, g189, g190, g191, Z, Z, Z, Z, Z, Z, Z], []⟩ w192 (fun K => by subst hc194; kernel_rfl) ?_
      refine WPI.done rfl ?_
      refine then_n ?_
      cases c194 with
      | false =>
        replace h := br_f h
        refine WP.condF (by kernel_rfl) ?_
        refine WP.exit ?_
        exact then_e (then_e (inb_e (then_n ⟨_, _, _, _, _, _, _, _, _, _, _, _, _, _, _, _, _, _, _, _, _, _, _, _, _, _, _, _, _, _, _, _, _, _, _, _, _, _, _, _, _, _, _, _, _, _, _, _, _, _, _, _, _, _, _, _, _, _, _, _, _, _, _, _, _, _, _, _, _, _, _, _, _, _, _, _, _, _, _, _, _, _, _, _, _, _, _, _, _, _, _, rfl, St.sel H193 [0] (by decide) rfl, h⟩)))
      | true =>
        replace h := br_t h
        refine WP.condT (by kernel_rfl) ?_
        refine WP.skip ?_
        refine then_n ?_
        refine WP.seq ?_
        obtain ⟨K281, hK281, h⟩ := jn_some h
        refine WP.blockJ (fun a w => ∃ (g195 : Value) (g196 : Value) (g197 : Value) (g198 : Value) (g199 : Value) (g200 : Value) (g201 : Value) (g202 : Value) (g203 : Value) (g204 : Value) (g205 : Value) (g206 : Value) (g207 : Value) (g208 : Value) (g209 : Value) (g210 : Value) (g211 : Value) (g212 : Value) (g213 : Value) (g214 : Value) (g215 : Value) (g216 : Value) (g217 : Value) (g218 : Value) (g219 : Value) (g220 : Value) (g221 : Value) (g222 : Value) (g223 : Value) (g224 : Value) (g225 : Value) (g226 : Value) (g227 : Value) (g228 : Value) (g229 : Value) (g230 : Value) (g231 : Value) (g232 : Value) (g233 : Value) (g234 : Value) (g235 : Value) (g236 : Value) (g237 : Value) (g238 : Value) (g239 : Value) (g240 : Value) (g241 : Value) (g242 : Value) (g243 : Value) (g244 : Value) (g245 : Value) (g246 : Value) (g247 : Value) (g248 : Value) (g249 : Value) (g250 : Value) (g251 : Value) (g252 : Value) (g253 : Value) (g254 : Value) (g255 : Value) (g256 : Value) (g257 : Value) (g258 : Value) (g259 : Value) (g260 : Value) (g261 : Value) (g262 : Value) (g263 : Value) (g264 : Value) (g265 : Value) (g266 : Value) (g267 : Value) (g268 : Value) (g269 : Value) (g270 : Value) (g271 : Value) (g272 : Value) (g273 : Value) (g274 : Value) (g275 : Value) (g276 : Value) (g277 : Value) (g278 : Value) (g279 : Value) (g280 : Value), a = ⟨#[.agg #[s1, s3], vp b5 0, g195, vi x102, g196, g197, g198, g199, g200, g201, g202, g203, g204, g205, vi x102, vb true, g115, g116, g206, g207, g208, g209, g210, g211, g212, g213, g214, g215, g216, g217, g218, g219, g220, g221, g222, g223, g224, g225, g226, g227, g228, g229, g230, g231, g232, g233, g234, g235, g236, g237, g238, g239, g240, g241, g242, g243, g244, g245, g246, g247, g248, g249, g250, g251, g252, g253, g254, g255, g256, g257, g258, g259, g260, g261, g262, g263, g264, g265, g266, g267, g268, g269, g270, g271, g272, g273, g274, g275, g276, g277, g278, g279, g280, Z, Z, Z, Z, Z, Z, Z], []⟩ ∧ St no w0 w [Box b5 #[s1, s3] 25] ∧ K281 = some r) ?_ ?_
        · skip
          refine WP.seq ?_
          refine WP.region ?_
          refine WPI.run 1 ⟨#[.agg #[s1, s3], vp b5 0, g101, vi x102, vn, g104, g105, g106, g107, g108, g109, g110, g111, g112, vi x102, vb true, g115, g116, g117, g118, g119, g120, g121, g122, g123, g124, g125, g126, g127, g128, g129, g130, g131, g132, g133, g134, g135, g136, g137, g138, g139, g140, g141, g142, g143, g144, g145, g146, g147, g148, g149, g150, g151, g152, g153, g154, g155, g156, g157, g158, g159, g160, g161, g162, g163, g164, g165, g166, g167, g168, g169, g170, g171, g172, g173, g174, g175, g176, g177, g178, g179, g180, g181, g182, g183, g184, g185, g186, g187, g188, g189, g190, g191, Z, Z, Z, Z, Z, Z, Z], []⟩ w192 (fun K => by kernel_rfl) ?_
          refine WPI.done rfl ?_
          refine then_n ?_
          refine WP.seq ?_
          refine WP.seq ?_
          refine WP.region ?_
          refine WPI.run 1 ⟨#[.agg #[s1, s3], vp b5 0, g101, vi x102, vn, vi 0, g105, g106, g107, g108, g109, g110, g111, g112, vi x102, vb true, g115, g116, g117, g118, g119, g120, g121, g122, g123, g124, g125, g126, g127, g128, g129, g130, g131, g132, g133, g134, g135, g136, g137, g138, g139, g140, g141, g142, g143, g144, g145, g146, g147, g148, g149, g150, g151, g152, g153, g154, g155, g156, g157, g158, g159, g160, g161, g162, g163, g164, g165, g166, g167, g168, g169, g170, g171, g172, g173, g174, g175, g176, g177, g178, g179, g180, g181, g182, g183, g184, g185, g186, g187, g188, g189, g190, g191, Z, Z, Z, Z, Z, Z, Z], []⟩ w192 (fun K => by kernel_rfl) ?_
          refine WPI.done rfl ?_
          refine then_n ?_
          obtain ⟨K343, hK343, h⟩ := jn_some h
          refine WP.blockJ (fun a w => ∃ (l284 : List TNode) (s285 : Value) (g282 : Value) (g286 : Value) (g287 : Value) (g288 : Value) (g289 : Value) (g290 : Value) (g291 : Value) (g292 : Value) (g293 : Value) (g294 : Value) (g295 : Value) (g296 : Value) (g297 : Value) (g298 : Value) (g299 : Value) (g300 : Value) (g301 : Value) (g302 : Value) (g303 : Value) (g304 : Value) (g305 : Value) (g306 : Value) (g307 : Value) (g308 : Value) (g309 : Value) (g310 : Value) (g311 : Value) (g312 : Value) (g313 : Value) (g314 : Value) (g315 : Value) (g316 : Value) (g317 : Value) (g318 : Value) (g319 : Value) (g320 : Value) (g321 : Value) (g322 : Value) (g323 : Value) (g324 : Value) (g325 : Value) (g326 : Value) (g327 : Value) (g328 : Value) (g329 : Value) (g330 : Value) (g331 : Value) (g332 : Value) (g333 : Value) (g334 : Value) (g335 : Value) (g336 : Value) (g337 : Value) (g338 : Value) (g339 : Value) (g340 : Value) (g341 : Value) (g342 : Value), a = ⟨#[.agg #[s1, s3], vp b5 0, g282, vi x102, s285, g286, g287, g288, g289, g290, g291, g110, g111, g112, vi x102, vb true, g115, g116, g292, g293, g294, g295, g296, g297, g298, g299, g300, g301, g302, g303, g304, g305, g306, g307, g308, g309, g310, g311, g312, g313, g314, g315, g316, g317, g318, g319, g320, g321, g322, g323, g324, g325, g326, g327, g328, g329, g330, g331, g332, g333, g334, g335, g336, g337, g338, g339, g340, g341, g342, g168, g169, g170, g171, g172, g173, g174, g175, g176, g177, g178, g179, g180, g181, g182, g183, g184, g185, g186, g187, g188, g189, g190, g191, Z, Z, Z, Z, Z, Z, Z], []⟩ ∧ St no w0 w [Box b5 #[s1, s3] 25, Own fTNode 33 s285 l284] ∧ K343 l284 = some r) ?_ ?_
          · skip
            refine WP.loop (fun n a w => ∃ (l346 : List TNode) (x348 : Int) (s347 : Value) (g344 : Value) (g349 : Value) (g350 : Value) (g351 : Value) (g352 : Value) (g353 : Value) (g354 : Value) (g355 : Value) (g356 : Value) (g357 : Value) (g358 : Value) (g359 : Value) (g360 : Value) (g361 : Value) (g362 : Value) (g363 : Value) (g364 : Value) (g365 : Value) (g366 : Value) (g367 : Value) (g368 : Value) (g369 : Value) (g370 : Value) (g371 : Value) (g372 : Value) (g373 : Value) (g374 : Value) (g375 : Value) (g376 : Value) (g377 : Value) (g378 : Value) (g379 : Value) (g380 : Value) (g381 : Value) (g382 : Value) (g383 : Value) (g384 : Value) (g385 : Value) (g386 : Value) (g387 : Value) (g388 : Value) (g389 : Value) (g390 : Value) (g391 : Value) (g392 : Value) (g393 : Value) (g394 : Value) (g395 : Value) (g396 : Value) (g397 : Value) (g398 : Value) (g399 : Value) (g400 : Value) (g401 : Value) (g402 : Value) (g403 : Value) (g404 : Value), a = ⟨#[.agg #[s1, s3], vp b5 0, g344, vi x102, s347, vi x348, g349, g350, g351, g352, g353, g110, g111, g112, vi x102, vb true, g115, g116, g354, g355, g356, g357, g358, g359, g360, g361, g362, g363, g364, g365, g366, g367, g368, g369, g370, g371, g372, g373, g374, g375, g376, g377, g378, g379, g380, g381, g382, g383, g384, g385, g386, g387, g388, g389, g390, g391, g392, g393, g394, g395, g396, g397, g398, g399, g400, g401, g402, g403, g404, g168, g169, g170, g171, g172, g173, g174, g175, g176, g177, g178, g179, g180, g181, g182, g183, g184, g185, g186, g187, g188, g189, g190, g191, Z, Z, Z, Z, Z, Z, Z], []⟩ ∧ St no w0 w [Box b5 #[s1, s3] 25, Own fTNode 33 s347 l346] ∧ g_tarnlaw13_HeapMany_l2 x102 fuel K343 n l346 x348 = some r) fuel ⟨([]), 0, vn, _, _, _, _, _, _, _, _, _, _, _, _, _, _, _, _, _, _, _, _, _, _, _, _, _, _, _, _, _, _, _, _, _, _, _, _, _, _, _, _, _, _, _, _, _, _, _, _, _, _, _, _, _, _, _, _, _, rfl, St.sel (St.nil H193 fTNode 33) [1, 0] (by decide) rfl, h⟩ ?_
            rintro n a w ⟨l346, x348, s347, g344, g349, g350, g351, g352, g353, g354, g355, g356, g357, g358, g359, g360, g361, g362, g363, g364, g365, g366, g367, g368, g369, g370, g371, g372, g373, g374, g375, g376, g377, g378, g379, g380, g381, g382, g383, g384, g385, g386, g387, g388, g389, g390, g391, g392, g393, g394, g395, g396, g397, g398, g399, g400, g401, g402, g403, g404, rfl, H, h⟩
            cases n with
            | zero => rw [g_tarnlaw13_HeapMany_l2] at h; cases h
            | succ n =>
              rw [g_tarnlaw13_HeapMany_l2] at h
              obtain ⟨w405, rfl⟩ : ∃ x, x = w := ⟨_, rfl⟩
              have H406 := H; clear H
              have sf407 := Own.isSl (St.get H406 1 rfl)
              refine WP.seq ?_
              refine WP.seq ?_
              refine WP.region ?_
              obtain ⟨c408, hc408, h⟩ := lt_some h
              refine WPI.run 2 ⟨#[.agg #[s1, s3], vp b5 0, g344, vi x102, s347, vi x348, g349, g350, g351, g352, g353, g110, g111, g112, vi x102, vb true, g115, g116, vi x348, vb c408, g356, g357, g358, g359, g360, g361, g362, g363, g364, g365, g366, g367, g368, g369, g370, g371, g372, g373, g374, g375, g376, g377, g378, g379, g380, g381, g382, g383, g384, g385, g386, g387, g388, g389, g390, g391, g392, g393, g394, g395, g396, g397, g398, g399, g400, g401, g402, g403, g404, g168, g169, g170, g171, g172, g173, g174, g175, g176, g177, g178, g179, g180, g181, g182, g183, g184, g185, g186, g187, g188, g189, g190, g191, Z, Z, Z, Z, Z, Z, Z], []⟩ w405 (fun K => by subst hc408; kernel_rfl) ?_
              refine WPI.done rfl ?_
              refine then_n ?_
              cases c408 with
              | false =>
                replace h := br_f h
                refine WP.condF (by kernel_rfl) ?_
                refine WP.exit ?_
                exact then_e (then_e (inb_e (then_n ⟨l346, s347, _, _, _, _, _, _, _, _, _, _, _, _, _, _, _, _, _, _, _, _, _, _, _, _, _, _, _, _, _, _, _, _, _, _, _, _, _, _, _, _, _, _, _, _, _, _, _, _, _, _, _, _, _, _, _, _, _, _, rfl, St.sel H406 [0, 1] (by decide) rfl, h⟩)))
              | true =>
                replace h := br_t h
                refine WP.condT (by kernel_rfl) ?_
                refine WP.skip ?_
                refine then_n ?_
                refine WP.seq ?_
                refine WP.block ?_
                refine WP.seq ?_
                refine WP.region ?_
                obtain ⟨x409, hx409, h⟩ := lt_some h
                obtain ⟨x410, hx410, h⟩ := lt_some h
                obtain ⟨x411, hx411, h⟩ := lt_some h
                obtain ⟨x412, hx412, h⟩ := lt_some h
                obtain ⟨x413, hx413, h⟩ := lt_some h
                refine WPI.run 9 ⟨#[.agg #[s1, s3], vp b5 0, g344, vi x102, s347, vi x348, g349, g350, g351, g352, g353, g110, g111, g112, vi x102, vb true, g115, g116, vi x348, vb true, g356, g357, vi x348, vi x348, vi x409, vi x348, vi x410, vi x411, vi x348, vi x412, vi x413, g367, g368, g369, g370, g371, g372, g373, g374, g375, g376, g377, g378, g379, g380, g381, g382, g383, g384, g385, g386, g387, g388, g389, g390, g391, g392, g393, g394, g395, g396, g397, g398, g399, g400, g401, g402, g403, g404, g168, g169, g170, g171, g172, g173, g174, g175, g176, g177, g178, g179, g180, g181, g182, g183, g184, g185, g186, g187, g188, g189, g190, g191, Z, Z, Z, Z, Z, Z, Z], []⟩ w405 (fun K => by subst hx413 hx412 hx411 hx410 hx409; kernel_rfl) ?_
                refine WPI.op rfl (Op1.lit (F := fI64) (E := 3) H406 (by kernel_rfl) ([x348, x409, x411, x413] : List Int) (fun w => by kernel_rfl) (by simp [maxLen]) (fun s415 w417 H418 => ?_))
                clear H406
                have sf416 := Own.isSl (St.get H418 0 rfl)
                obtain ⟨hg419, h⟩ := gd_some h
                refine WPI.run 1 ⟨#[.agg #[s1, s3], vp b5 0, g344, vi x102, s347, vi x348, g349, g350, g351, g352, g353, g110, g111, g112, vi x102, vb true, g115, g116, vi x348, vb true, g356, g357, vi x348, vi x348, vi x409, vi x348, vi x410, vi x411, vi x348, vi x412, vi x413, s415, vi x102, g369, g370, g371, g372, g373, g374, g375, g376, g377, g378, g379, g380, g381, g382, g383, g384, g385, g386, g387, g388, g389, g390, g391, g392, g393, g394, g395, g396, g397, g398, g399, g400, g401, g402, g403, g404, g168, g169, g170, g171, g172, g173, g174, g175, g176, g177, g178, g179, g180, g181, g182, g183, g184, g185, g186, g187, g188, g189, g190, g191, Z, Z, Z, Z, Z, Z, Z], []⟩ w417 (fun K => by kernel_rfl) ?_
                refine WPI.value (v := va (slAt s415 1 (Int.toNat x102))) rfl (by kernel_rfl) (ev_index sf416 53 (.tmp 31) (.tmp 32) 3 1 8 .i64 x102 rfl (by kernel_rfl) (by kernel_rfl) (by kernel_rfl) hg419) ?_
                obtain ⟨x420, hx420, h⟩ := bd_some h
                refine WPI.run 0 ⟨#[.agg #[s1, s3], vp b5 0, g344, vi x102, s347, vi x348, g349, g350, g351, g352, g353, g110, g111, g112, vi x102, vb true, g115, g116, vi x348, vb true, g356, g357, vi x348, vi x348, vi x409, vi x348, vi x410, vi x411, vi x348, vi x412, vi x413, s415, vi x102, va (slAt s415 1 (Int.toNat x102)), g370, g371, g372, g373, g374, g375, g376, g377, g378, g379, g380, g381, g382, g383, g384, g385, g386, g387, g388, g389, g390, g391, g392, g393, g394, g395, g396, g397, g398, g399, g400, g401, g402, g403, g404, g168, g169, g170, g171, g172, g173, g174, g175, g176, g177, g178, g179, g180, g181, g182, g183, g184, g185, g186, g187, g188, g189, g190, g191, Z, Z, Z, Z, Z, Z, Z], []⟩ w417 (fun K => by kernel_rfl) ?_
                refine WPI.value (v := vi x420) rfl (by kernel_rfl) (ev_loadEl (F := fI64) (St.rd H418 0 rfl) (hp_no_le _) hx420 3 (.tmp 33) 0 (vi x420) rfl (by kernel_rfl) (by kernel_rfl)) ?_
                refine WPI.run 1 ⟨#[.agg #[s1, s3], vp b5 0, g344, vi x102, s347, vi x348, vi x420, g350, g351, g352, g353, g110, g111, g112, vi x102, vb true, g115, g116, vi x348, vb true, g356, g357, vi x348, vi x348, vi x409, vi x348, vi x410, vi x411, vi x348, vi x412, vi x413, s415, vi x102, va (slAt s415 1 (Int.toNat x102)), vi x420, g371, g372, g373, g374, g375, g376, g377, g378, g379, g380, g381, g382, g383, g384, g385, g386, g387, g388, g389, g390, g391, g392, g393, g394, g395, g396, g397, g398, g399, g400, g401, g402, g403, g404, g168, g169, g170, g171, g172, g173, g174, g175, g176, g177, g178, g179, g180, g181, g182, g183, g184, g185, g186, g187, g188, g189, g190, g191, Z, Z, Z, Z, Z, Z, Z], []⟩ w417 (fun K => by kernel_rfl) ?_
                refine WPI.done rfl ?_
                refine then_n ?_
                refine WP.seq ?_
                refine WP.region ?_
                obtain ⟨x421, hx421, h⟩ := lt_some h
                obtain ⟨x422, hx422, h⟩ := lt_some h
                obtain ⟨t423, ht423, h⟩ := bd_some h
                refine WPI.run 7 ⟨#[.agg #[s1, s3], vp b5 0, g344, vi x102, s347, vi x348, vi x420, g350, g351, g352, g353, g110, g111, g112, vi x102, vb true, g115, g116, vi x348, vb true, g356, g357, vi x348, vi x348, vi x409, vi x348, vi x410, vi x411, vi x348, vi x412, vi x413, s415, vi x102, va (slAt s415 1 (Int.toNat x102)), vi x420, g371, s347, vi x420, vi x420, vi x421, vi x422, .agg #[vi x422, vu 0, vu 0, vu 0, vu 0], .agg #[vi x420, vi x422, vu 0, vu 0, vu 0, vu 0], g379, g380, g381, g382, g383, g384, g385, g386, g387, g388, g389, g390, g391, g392, g393, g394, g395, g396, g397, g398, g399, g400, g401, g402, g403, g404, g168, g169, g170, g171, g172, g173, g174, g175, g176, g177, g178, g179, g180, g181, g182, g183, g184, g185, g186, g187, g188, g189, g190, g191, Z, Z, Z, Z, Z, Z, Z], []⟩ w417 (fun K => by subst hx422 hx421; kernel_rfl) ?_
                refine WPI.op rfl (Op1.call (by kernel_rfl) (by kernel_rfl) (g_heap_Push_w fuel s347 l346 (TNode.mk x420 (TRank.mk x422 (TU256.mk 0 0 0 0))) t423 ht423 _ (St.rd H418 2 rfl)) ?_)
                rintro _ w427 ⟨s424, rfl, Hc428⟩
                have H429 := St.call0 H418 Hc428
                clear H418 Hc428
                have sf426 := Own.isSl (St.get H429 0 rfl)
                refine WPI.run 5 ⟨#[.agg #[s1, s3], vp b5 0, g344, vi x102, s347, vi x348, vi x420, s424, vi t423.2, g352, g353, g110, g111, g112, vi x102, vb true, g115, g116, vi x348, vb true, g356, g357, vi x348, vi x348, vi x409, vi x348, vi x410, vi x411, vi x348, vi x412, vi x413, s415, vi x102, va (slAt s415 1 (Int.toNat x102)), vi x420, .tuple #[s424, vi t423.2], s347, vi x420, vi x420, vi x421, vi x422, .agg #[vi x422, vu 0, vu 0, vu 0, vu 0], .agg #[vi x420, vi x422, vu 0, vu 0, vu 0, vu 0], .tuple #[s424, vi t423.2], s424, vi t423.2, g382, g383, g384, g385, g386, g387, g388, g389, g390, g391, g392, g393, g394, g395, g396, g397, g398, g399, g400, g401, g402, g403, g404, g168, g169, g170, g171, g172, g173, g174, g175, g176, g177, g178, g179, g180, g181, g182, g183, g184, g185, g186, g187, g188, g189, g190, g191, Z, Z, Z, Z, Z, Z, Z], []⟩ w427 (fun K => by kernel_rfl) ?_
                refine WPI.done rfl ?_
                refine then_n ?_
                refine WP.seq ?_
                refine WP.region ?_
                obtain ⟨t430, ht430, h⟩ := bd_some h
                refine WPI.run 3 ⟨#[.agg #[s1, s3], vp b5 0, g344, vi x102, s347, vi x348, vi x420, s424, vi t423.2, g352, g353, g110, g111, g112, vi x102, vb true, g115, g116, vi x348, vb true, g356, g357, vi x348, vi x348, vi x409, vi x348, vi x410, vi x411, vi x348, vi x412, vi x413, s415, vi x102, va (slAt s415 1 (Int.toNat x102)), vi x420, .tuple #[s424, vi t423.2], s347, vi x420, vi x420, vi x421, vi x422, .agg #[vi x422, vu 0, vu 0, vu 0, vu 0], .agg #[vi x420, vi x422, vu 0, vu 0, vu 0, vu 0], .tuple #[s424, vi t423.2], s424, vi t423.2, g382, s424, vi x420, .agg #[vi x420, vi 0, vu 0, vu 0, vu 0, vu 0], g386, g387, g388, g389, g390, g391, g392, g393, g394, g395, g396, g397, g398, g399, g400, g401, g402, g403, g404, g168, g169, g170, g171, g172, g173, g174, g175, g176, g177, g178, g179, g180, g181, g182, g183, g184, g185, g186, g187, g188, g189, g190, g191, Z, Z, Z, Z, Z, Z, Z], []⟩ w427 (fun K => by kernel_rfl) ?_
                refine WPI.op rfl (Op1.call (by kernel_rfl) (by kernel_rfl) (g_heap_Push_w fuel s424 t423.1 (TNode.mk x420 (TRank.mk 0 (TU256.mk 0 0 0 0))) t430 ht430 _ (St.rd H429 0 rfl)) ?_)
                rintro _ w434 ⟨s431, rfl, Hc435⟩
                have H436 := St.call0 H429 Hc435
                clear H429 Hc435
                have sf433 := Own.isSl (St.get H436 0 rfl)
                refine WPI.run 5 ⟨#[.agg #[s1, s3], vp b5 0, g344, vi x102, s347, vi x348, vi x420, s424, vi t423.2, s431, vi t430.2, g110, g111, g112, vi x102, vb true, g115, g116, vi x348, vb true, g356, g357, vi x348, vi x348, vi x409, vi x348, vi x410, vi x411, vi x348, vi x412, vi x413, s415, vi x102, va (slAt s415 1 (Int.toNat x102)), vi x420, .tuple #[s424, vi t423.2], s347, vi x420, vi x420, vi x421, vi x422, .agg #[vi x422, vu 0, vu 0, vu 0, vu 0], .agg #[vi x420, vi x422, vu 0, vu 0, vu 0, vu 0], .tuple #[s424, vi t423.2], s424, vi t423.2, .tuple #[s431, vi t430.2], s424, vi x420, .agg #[vi x420, vi 0, vu 0, vu 0, vu 0, vu 0], .tuple #[s431, vi t430.2], s431, vi t430.2, g389, g390, g391, g392, g393, g394, g395, g396, g397, g398, g399, g400, g401, g402, g403, g404, g168, g169, g170, g171, g172, g173, g174, g175, g176, g177, g178, g179, g180, g181, g182, g183, g184, g185, g186, g187, g188, g189, g190, g191, Z, Z, Z, Z, Z, Z, Z], []⟩ w434 (fun K => by kernel_rfl) ?_
                refine WPI.done rfl ?_
                refine then_n ?_
                refine WP.seq ?_
                refine WP.seq ?_
                obtain ⟨K452, hK452, h⟩ := jn_some h
                refine WP.onlyN (fun a w => ∃ (c451 : Bool) (g437 : Value) (g438 : Value) (g439 : Value) (g440 : Value) (g441 : Value) (g442 : Value) (g443 : Value) (g444 : Value) (g445 : Value) (g446 : Value) (g447 : Value) (g448 : Value) (g449 : Value) (g450 : Value), a = ⟨#[.agg #[s1, s3], vp b5 0, g344, vi x102, s347, vi x348, vi x420, s424, vi t423.2, s431, vi t430.2, g110, g111, g112, vi x102, vb true, g115, g116, vi x348, vb true, g356, g357, vi x348, vi x348, vi x409, vi x348, vi x410, vi x411, vi x348, vi x412, vi x413, s415, vi x102, va (slAt s415 1 (Int.toNat x102)), vi x420, .tuple #[s424, vi t423.2], s347, vi x420, vi x420, vi x421, vi x422, .agg #[vi x422, vu 0, vu 0, vu 0, vu 0], .agg #[vi x420, vi x422, vu 0, vu 0, vu 0, vu 0], .tuple #[s424, vi t423.2], s424, vi t423.2, .tuple #[s431, vi t430.2], s424, vi x420, .agg #[vi x420, vi 0, vu 0, vu 0, vu 0, vu 0], .tuple #[s431, vi t430.2], s431, vi t430.2, g437, g438, g439, g440, g441, g442, g443, g444, g445, g446, g447, g448, g449, g450, vb c451, g404, g168, g169, g170, g171, g172, g173, g174, g175, g176, g177, g178, g179, g180, g181, g182, g183, g184, g185, g186, g187, g188, g189, g190, g191, Z, Z, Z, Z, Z, Z, Z], []⟩ ∧ St no w0 w [Box b5 #[s1, s3] 25, Own fTNode 33 s431 t430.1, Own fTNode 33 s424 t423.1, Own fI64 3 s415 (([x348, x409, x411, x413] : List Int)), Own fTNode 33 s347 l346] ∧ K452 c451 = some r) ?_ ?_
                · skip
                  refine WP.region ?_
                  obtain ⟨t453, ht453, h⟩ := bd_some h
                  refine WPI.run 1 ⟨#[.agg #[s1, s3], vp b5 0, g344, vi x102, s347, vi x348, vi x420, s424, vi t423.2, s431, vi t430.2, g110, g111, g112, vi x102, vb true, g115, g116, vi x348, vb true, g356, g357, vi x348, vi x348, vi x409, vi x348, vi x410, vi x411, vi x348, vi x412, vi x413, s415, vi x102, va (slAt s415 1 (Int.toNat x102)), vi x420, .tuple #[s424, vi t423.2], s347, vi x420, vi x420, vi x421, vi x422, .agg #[vi x422, vu 0, vu 0, vu 0, vu 0], .agg #[vi x420, vi x422, vu 0, vu 0, vu 0, vu 0], .tuple #[s424, vi t423.2], s424, vi t423.2, .tuple #[s431, vi t430.2], s424, vi x420, .agg #[vi x420, vi 0, vu 0, vu 0, vu 0, vu 0], .tuple #[s431, vi t430.2], s431, vi t430.2, vi t423.2, g390, g391, g392, g393, g394, g395, g396, g397, g398, g399, g400, g401, g402, g403, g404, g168, g169, g170, g171, g172, g173, g174, g175, g176, g177, g178, g179, g180, g181, g182, g183, g184, g185, g186, g187, g188, g189, g190, g191, Z, Z, Z, Z, Z, Z, Z], []⟩ w434 (fun K => by kernel_rfl) ?_
                  refine WPI.op rfl (Op1.call (by kernel_rfl) (by kernel_rfl) (g_tarnlaw13_num_w fuel t423.2 t453 ht453 _) ?_)
                  rintro _ w454 ⟨rfl, Hc455⟩
                  have H456 := St.call0' H436 Hc455
                  clear H436 Hc455
                  obtain ⟨c457, hc457, h⟩ := lt_some h
                  refine WPI.run 2 ⟨#[.agg #[s1, s3], vp b5 0, g344, vi x102, s347, vi x348, vi x420, s424, vi t423.2, s431, vi t430.2, g110, g111, g112, vi x102, vb true, g115, g116, vi x348, vb true, g356, g357, vi x348, vi x348, vi x409, vi x348, vi x410, vi x411, vi x348, vi x412, vi x413, s415, vi x102, va (slAt s415 1 (Int.toNat x102)), vi x420, .tuple #[s424, vi t423.2], s347, vi x420, vi x420, vi x421, vi x422, .agg #[vi x422, vu 0, vu 0, vu 0, vu 0], .agg #[vi x420, vi x422, vu 0, vu 0, vu 0, vu 0], .tuple #[s424, vi t423.2], s424, vi t423.2, .tuple #[s431, vi t430.2], s424, vi x420, .agg #[vi x420, vi 0, vu 0, vu 0, vu 0, vu 0], .tuple #[s431, vi t430.2], s431, vi t430.2, vi t423.2, vi t453, vb c457, vb c457, g393, g394, g395, g396, g397, g398, g399, g400, g401, g402, g403, g404, g168, g169, g170, g171, g172, g173, g174, g175, g176, g177, g178, g179, g180, g181, g182, g183, g184, g185, g186, g187, g188, g189, g190, g191, Z, Z, Z, Z, Z, Z, Z], []⟩ w454 (fun K => by subst hc457; kernel_rfl) ?_
                  cases c457 with
                  | false =>
                    replace h := br_f h
                    obtain ⟨t458, ht458, h⟩ := bd_some h
                    refine WPI.run 1 ⟨#[.agg #[s1, s3], vp b5 0, g344, vi x102, s347, vi x348, vi x420, s424, vi t423.2, s431, vi t430.2, g110, g111, g112, vi x102, vb true, g115, g116, vi x348, vb true, g356, g357, vi x348, vi x348, vi x409, vi x348, vi x410, vi x411, vi x348, vi x412, vi x413, s415, vi x102, va (slAt s415 1 (Int.toNat x102)), vi x420, .tuple #[s424, vi t423.2], s347, vi x420, vi x420, vi x421, vi x422, .agg #[vi x422, vu 0, vu 0, vu 0, vu 0], .agg #[vi x420, vi x422, vu 0, vu 0, vu 0, vu 0], .tuple #[s424, vi t423.2], s424, vi t423.2, .tuple #[s431, vi t430.2], s424, vi x420, .agg #[vi x420, vi 0, vu 0, vu 0, vu 0, vu 0], .tuple #[s431, vi t430.2], s431, vi t430.2, vi t423.2, vi t453, vb false, vb false, vi t430.2, g394, g395, g396, g397, g398, g399, g400, g401, g402, g403, g404, g168, g169, g170, g171, g172, g173, g174, g175, g176, g177, g178, g179, g180, g181, g182, g183, g184, g185, g186, g187, g188, g189, g190, g191, Z, Z, Z, Z, Z, Z, Z], []⟩ w454 (fun K => by kernel_rfl) ?_
                    refine WPI.op rfl (Op1.call (by kernel_rfl) (by kernel_rfl) (g_tarnlaw13_num_w fuel t430.2 t458 ht458 _) ?_)
                    rintro _ w459 ⟨rfl, Hc460⟩
                    have H461 := St.call0' H456 Hc460
                    clear H456 Hc460
                    obtain ⟨c462, hc462, h⟩ := lt_some h
                    refine WPI.run 3 ⟨#[.agg #[s1, s3], vp b5 0, g344, vi x102, s347, vi x348, vi x420, s424, vi t423.2, s431, vi t430.2, g110, g111, g112, vi x102, vb true, g115, g116, vi x348, vb true, g356, g357, vi x348, vi x348, vi x409, vi x348, vi x410, vi x411, vi x348, vi x412, vi x413, s415, vi x102, va (slAt s415 1 (Int.toNat x102)), vi x420, .tuple #[s424, vi t423.2], s347, vi x420, vi x420, vi x421, vi x422, .agg #[vi x422, vu 0, vu 0, vu 0, vu 0], .agg #[vi x420, vi x422, vu 0, vu 0, vu 0, vu 0], .tuple #[s424, vi t423.2], s424, vi t423.2, .tuple #[s431, vi t430.2], s424, vi x420, .agg #[vi x420, vi 0, vu 0, vu 0, vu 0, vu 0], .tuple #[s431, vi t430.2], s431, vi t430.2, vi t423.2, vi t453, vb false, vb false, vi t430.2, vi t458, vb c462, vb c462, vb c462, g398, g399, g400, g401, g402, g403, g404, g168, g169, g170, g171, g172, g173, g174, g175, g176, g177, g178, g179, g180, g181, g182, g183, g184, g185, g186, g187, g188, g189, g190, g191, Z, Z, Z, Z, Z, Z, Z], []⟩ w459 (fun K => by subst hc462; kernel_rfl) ?_
                    cases c462 with
                    | false =>
                      replace h := br_f h
                      refine WPI.run 1 ⟨#[.agg #[s1, s3], vp b5 0, g344, vi x102, s347, vi x348, vi x420, s424, vi t423.2, s431, vi t430.2, g110, g111, g112, vi x102, vb true, g115, g116, vi x348, vb true, g356, g357, vi x348, vi x348, vi x409, vi x348, vi x410, vi x411, vi x348, vi x412, vi x413, s415, vi x102, va (slAt s415 1 (Int.toNat x102)), vi x420, .tuple #[s424, vi t423.2], s347, vi x420, vi x420, vi x421, vi x422, .agg #[vi x422, vu 0, vu 0, vu 0, vu 0], .agg #[vi x420, vi x422, vu 0, vu 0, vu 0, vu 0], .tuple #[s424, vi t423.2], s424, vi t423.2, .tuple #[s431, vi t430.2], s424, vi x420, .agg #[vi x420, vi 0, vu 0, vu 0, vu 0, vu 0], .tuple #[s431, vi t430.2], s431, vi t430.2, vi t423.2, vi t453, vb false, vb false, vi t430.2, vi t458, vb false, vb false, vb false, s424, g399, g400, g401, g402, g403, g404, g168, g169, g170, g171, g172, g173, g174, g175, g176, g177, g178, g179, g180, g181, g182, g183, g184, g185, g186, g187, g188, g189, g190, g191, Z, Z, Z, Z, Z, Z, Z], []⟩ w459 (fun K => by kernel_rfl) ?_
                      refine WPI.value (v := vi (((List.length t423.1 : Nat) : Int))) rfl (by kernel_rfl) (ev_len sf426 22 (.tmp 62) 33 6 48 rfl (by kernel_rfl) (by kernel_rfl)) ?_
                      obtain ⟨x463, hx463, h⟩ := lt_some h
                      obtain ⟨c464, hc464, h⟩ := lt_some h
                      refine WPI.run 4 ⟨#[.agg #[s1, s3], vp b5 0, g344, vi x102, s347, vi x348, vi x420, s424, vi t423.2, s431, vi t430.2, g110, g111, g112, vi x102, vb true, g115, g116, vi x348, vb true, g356, g357, vi x348, vi x348, vi x409, vi x348, vi x410, vi x411, vi x348, vi x412, vi x413, s415, vi x102, va (slAt s415 1 (Int.toNat x102)), vi x420, .tuple #[s424, vi t423.2], s347, vi x420, vi x420, vi x421, vi x422, .agg #[vi x422, vu 0, vu 0, vu 0, vu 0], .agg #[vi x420, vi x422, vu 0, vu 0, vu 0, vu 0], .tuple #[s424, vi t423.2], s424, vi t423.2, .tuple #[s431, vi t430.2], s424, vi x420, .agg #[vi x420, vi 0, vu 0, vu 0, vu 0, vu 0], .tuple #[s431, vi t430.2], s431, vi t430.2, vi t423.2, vi t453, vb false, vb false, vi t430.2, vi t458, vb false, vb false, vb false, s424, vi (((List.length t423.1 : Nat) : Int)), vi x348, vi x463, vb c464, vb c464, g404, g168, g169, g170, g171, g172, g173, g174, g175, g176, g177, g178, g179, g180, g181, g182, g183, g184, g185, g186, g187, g188, g189, g190, g191, Z, Z, Z, Z, Z, Z, Z], []⟩ w459 (fun K => by subst hc464 hx463; kernel_rfl) ?_
                      refine WPI.done rfl ?_
                      exact ⟨c464, _, _, _, _, _, _, _, _, _, _, _, _, _, _, rfl, St.sel H461 [3, 0, 1, 2, 4] (by decide) rfl, h⟩
                    | true =>
                      replace h := br_t h
                      refine WPI.run 6 ⟨#[.agg #[s1, s3], vp b5 0, g344, vi x102, s347, vi x348, vi x420, s424, vi t423.2, s431, vi t430.2, g110, g111, g112, vi x102, vb true, g115, g116, vi x348, vb true, g356, g357, vi x348, vi x348, vi x409, vi x348, vi x410, vi x411, vi x348, vi x412, vi x413, s415, vi x102, va (slAt s415 1 (Int.toNat x102)), vi x420, .tuple #[s424, vi t423.2], s347, vi x420, vi x420, vi x421, vi x422, .agg #[vi x422, vu 0, vu 0, vu 0, vu 0], .agg #[vi x420, vi x422, vu 0, vu 0, vu 0, vu 0], .tuple #[s424, vi t423.2], s424, vi t423.2, .tuple #[s431, vi t430.2], s424, vi x420, .agg #[vi x420, vi 0, vu 0, vu 0, vu 0, vu 0], .tuple #[s431, vi t430.2], s431, vi t430.2, vi t423.2, vi t453, vb false, vb false, vi t430.2, vi t458, vb true, vb true, vb true, Z, Z, Z, Z, Z, vb true, g404, g168, g169, g170, g171, g172, g173, g174, g175, g176, g177, g178, g179, g180, g181, g182, g183, g184, g185, g186, g187, g188, g189, g190, g191, Z, Z, Z, Z, Z, Z, Z], []⟩ w459 (fun K => by kernel_rfl) ?_
                      refine WPI.done rfl ?_
                      exact ⟨true, _, _, _, _, _, _, _, _, _, _, _, _, _, _, rfl, St.sel H461 [3, 0, 1, 2, 4] (by decide) rfl, h⟩
                  | true =>
                    replace h := br_t h
                    refine WPI.run 11 ⟨#[.agg #[s1, s3], vp b5 0, g344, vi x102, s347, vi x348, vi x420, s424, vi t423.2, s431, vi t430.2, g110, g111, g112, vi x102, vb true, g115, g116, vi x348, vb true, g356, g357, vi x348, vi x348, vi x409, vi x348, vi x410, vi x411, vi x348, vi x412, vi x413, s415, vi x102, va (slAt s415 1 (Int.toNat x102)), vi x420, .tuple #[s424, vi t423.2], s347, vi x420, vi x420, vi x421, vi x422, .agg #[vi x422, vu 0, vu 0, vu 0, vu 0], .agg #[vi x420, vi x422, vu 0, vu 0, vu 0, vu 0], .tuple #[s424, vi t423.2], s424, vi t423.2, .tuple #[s431, vi t430.2], s424, vi x420, .agg #[vi x420, vi 0, vu 0, vu 0, vu 0, vu 0], .tuple #[s431, vi t430.2], s431, vi t430.2, vi t423.2, vi t453, vb true, vb true, Z, Z, Z, vb true, vb true, Z, Z, Z, Z, Z, vb true, g404, g168, g169, g170, g171, g172, g173, g174, g175, g176, g177, g178, g179, g180, g181, g182, g183, g184, g185, g186, g187, g188, g189, g190, g191, Z, Z, Z, Z, Z, Z, Z], []⟩ w454 (fun K => by kernel_rfl) ?_
                    refine WPI.done rfl ?_
                    exact ⟨true, _, _, _, _, _, _, _, _, _, _, _, _, _, _, rfl, St.sel H456 [3, 0, 1, 2, 4] (by decide) rfl, h⟩
                · rintro a w ⟨c451, g437, g438, g439, g440, g441, g442, g443, g444, g445, g446, g447, g448, g449, g450, rfl, H, h⟩
                  have hQ := h; subst hK452; have h := hQ; clear hQ
                  obtain ⟨w465, rfl⟩ : ∃ x, x = w := ⟨_, rfl⟩
                  have H466 := H; clear H
                  have sf467 := Own.isSl (St.get H466 1 rfl)
                  have sf468 := Own.isSl (St.get H466 2 rfl)
                  have sf469 := Own.isSl (St.get H466 3 rfl)
                  have sf470 := Own.isSl (St.get H466 4 rfl)
                  refine then_n ?_
                  cases c451 with
                  | false =>
                    replace h := br_f h
                    refine WP.condF (by kernel_rfl) ?_
                    refine WP.skip ?_
                    refine then_n ?_
                    refine WP.region ?_
                    refine WPI.run 2 ⟨#[.agg #[s1, s3], vp b5 0, g344, vi x102, s424, vi x348, vi x420, s424, vi t423.2, s431, vi t430.2, g110, g111, g112, vi x102, vb true, g115, g116, vi x348, vb true, g356, g357, vi x348, vi x348, vi x409, vi x348, vi x410, vi x411, vi x348, vi x412, vi x413, s415, vi x102, va (slAt s415 1 (Int.toNat x102)), vi x420, .tuple #[s424, vi t423.2], s347, vi x420, vi x420, vi x421, vi x422, .agg #[vi x422, vu 0, vu 0, vu 0, vu 0], .agg #[vi x420, vi x422, vu 0, vu 0, vu 0, vu 0], .tuple #[s424, vi t423.2], s424, vi t423.2, .tuple #[s431, vi t430.2], s424, vi x420, .agg #[vi x420, vi 0, vu 0, vu 0, vu 0, vu 0], .tuple #[s431, vi t430.2], s431, vi t430.2, g437, g438, g439, g440, g441, g442, g443, g444, g445, g446, g447, g448, g449, g450, vb false, s424, g168, g169, g170, g171, g172, g173, g174, g175, g176, g177, g178, g179, g180, g181, g182, g183, g184, g185, g186, g187, g188, g189, g190, g191, Z, Z, Z, Z, Z, Z, Z], []⟩ w465 (fun K => by kernel_rfl) ?_
                    refine WPI.done rfl ?_
                    refine inb_n (then_n ?_)
                    refine WP.region ?_
                    obtain ⟨x471, hx471, h⟩ := lt_some h
                    refine WPI.run 3 ⟨#[.agg #[s1, s3], vp b5 0, g344, vi x102, s424, vi x471, vi x420, s424, vi t423.2, s431, vi t430.2, g110, g111, g112, vi x102, vb true, g115, g116, vi x348, vb true, vi x348, vi x471, vi x348, vi x348, vi x409, vi x348, vi x410, vi x411, vi x348, vi x412, vi x413, s415, vi x102, va (slAt s415 1 (Int.toNat x102)), vi x420, .tuple #[s424, vi t423.2], s347, vi x420, vi x420, vi x421, vi x422, .agg #[vi x422, vu 0, vu 0, vu 0, vu 0], .agg #[vi x420, vi x422, vu 0, vu 0, vu 0, vu 0], .tuple #[s424, vi t423.2], s424, vi t423.2, .tuple #[s431, vi t430.2], s424, vi x420, .agg #[vi x420, vi 0, vu 0, vu 0, vu 0, vu 0], .tuple #[s431, vi t430.2], s431, vi t430.2, g437, g438, g439, g440, g441, g442, g443, g444, g445, g446, g447, g448, g449, g450, vb false, s424, g168, g169, g170, g171, g172, g173, g174, g175, g176, g177, g178, g179, g180, g181, g182, g183, g184, g185, g186, g187, g188, g189, g190, g191, Z, Z, Z, Z, Z, Z, Z], []⟩ w465 (fun K => by subst hx471; kernel_rfl) ?_
                    refine WPI.done rfl ?_
                    exact then_n ⟨n, Nat.lt_succ_self n, t423.1, x471, s424, _, _, _, _, _, _, _, _, _, _, _, _, _, _, _, _, _, _, _, _, _, _, _, _, _, _, _, _, _, _, _, _, _, _, _, _, _, _, _, _, _, _, _, _, _, _, _, _, _, _, _, _, _, _, _, _, _, rfl, St.sel H466 [0, 2] (by decide) rfl, h⟩
                  | true =>
                    replace h := br_t h
                    refine WP.condT (by kernel_rfl) ?_
                    refine WP.seq ?_
                    refine WP.region ?_
                    refine WPI.run 1 ⟨#[.agg #[s1, s3], vp b5 0, vb false, vi x102, s347, vi x348, vi x420, s424, vi t423.2, s431, vi t430.2, g110, g111, g112, vi x102, vb true, g115, g116, vi x348, vb true, g356, g357, vi x348, vi x348, vi x409, vi x348, vi x410, vi x411, vi x348, vi x412, vi x413, s415, vi x102, va (slAt s415 1 (Int.toNat x102)), vi x420, .tuple #[s424, vi t423.2], s347, vi x420, vi x420, vi x421, vi x422, .agg #[vi x422, vu 0, vu 0, vu 0, vu 0], .agg #[vi x420, vi x422, vu 0, vu 0, vu 0, vu 0], .tuple #[s424, vi t423.2], s424, vi t423.2, .tuple #[s431, vi t430.2], s424, vi x420, .agg #[vi x420, vi 0, vu 0, vu 0, vu 0, vu 0], .tuple #[s431, vi t430.2], s431, vi t430.2, g437, g438, g439, g440, g441, g442, g443, g444, g445, g446, g447, g448, g449, g450, vb true, g404, g168, g169, g170, g171, g172, g173, g174, g175, g176, g177, g178, g179, g180, g181, g182, g183, g184, g185, g186, g187, g188, g189, g190, g191, Z, Z, Z, Z, Z, Z, Z], []⟩ w465 (fun K => by kernel_rfl) ?_
                    refine WPI.done rfl ?_
                    refine then_n ?_
                    refine WP.ret ?_
                    obtain rfl := Option.some.inj h
                    exact then_r (inb_r (then_r (then_r (inb_r (then_r (then_r (inb_r (then_r (then_r (then_r (inb_r (then_r (then_r (post_r (vb false) rfl (by kernel_rfl) ⟨rfl, St.sel H466 [] (by decide) rfl⟩))))))))))))))
          · rintro a w ⟨l284, s285, g282, g286, g287, g288, g289, g290, g291, g292, g293, g294, g295, g296, g297, g298, g299, g300, g301, g302, g303, g304, g305, g306, g307, g308, g309, g310, g311, g312, g313, g314, g315, g316, g317, g318, g319, g320, g321, g322, g323, g324, g325, g326, g327, g328, g329, g330, g331, g332, g333, g334, g335, g336, g337, g338, g339, g340, g341, g342, rfl, H, h⟩
            have hQ := h; subst hK343; have h := hQ; clear hQ
            obtain ⟨w472, rfl⟩ : ∃ x, x = w := ⟨_, rfl⟩
            have H473 := H; clear H
            have sf474 := Own.isSl (St.get H473 1 rfl)
            refine then_n ?_
            refine WP.seq ?_
            refine WP.region ?_
            refine WPI.op rfl (Op1.lit (F := fI64) (E := 3) H473 (by kernel_rfl) ([6, 7, 4, 5, 2, 3, 0, 1] : List Int) (fun w => by kernel_rfl) (by simp [maxLen]) (fun s476 w478 H479 => ?_))
            clear H473
            have sf477 := Own.isSl (St.get H479 0 rfl)
            refine WPI.run 1 ⟨#[.agg #[s1, s3], vp b5 0, g282, vi x102, s285, g286, g287, g288, g289, g290, g291, s476, g111, g112, vi x102, vb true, g115, g116, g292, g293, g294, g295, g296, g297, g298, g299, g300, g301, g302, g303, g304, g305, g306, g307, g308, g309, g310, g311, g312, g313, g314, g315, g316, g317, g318, g319, g320, g321, g322, g323, g324, g325, g326, g327, g328, g329, g330, g331, g332, g333, g334, g335, g336, g337, g338, g339, g340, g341, g342, s476, g169, g170, g171, g172, g173, g174, g175, g176, g177, g178, g179, g180, g181, g182, g183, g184, g185, g186, g187, g188, g189, g190, g191, Z, Z, Z, Z, Z, Z, Z], []⟩ w478 (fun K => by kernel_rfl) ?_
            refine WPI.done rfl ?_
            refine then_n ?_
            refine WP.seq ?_
            refine WP.region ?_
            obtain ⟨t480, ht480, h⟩ := bd_some h
            refine WPI.run 1 ⟨#[.agg #[s1, s3], vp b5 0, g282, vi x102, s285, g286, g287, g288, g289, g290, g291, s476, g111, g112, vi x102, vb true, g115, g116, g292, g293, g294, g295, g296, g297, g298, g299, g300, g301, g302, g303, g304, g305, g306, g307, g308, g309, g310, g311, g312, g313, g314, g315, g316, g317, g318, g319, g320, g321, g322, g323, g324, g325, g326, g327, g328, g329, g330, g331, g332, g333, g334, g335, g336, g337, g338, g339, g340, g341, g342, s476, s285, g170, g171, g172, g173, g174, g175, g176, g177, g178, g179, g180, g181, g182, g183, g184, g185, g186, g187, g188, g189, g190, g191, Z, Z, Z, Z, Z, Z, Z], []⟩ w478 (fun K => by kernel_rfl) ?_
            refine WPI.op rfl (Op1.call (by kernel_rfl) (by kernel_rfl) (g_tarnlaw13_order_w fuel s285 l284 100 t480 ht480 _ (St.rd H479 2 rfl)) ?_)
            rintro s481 w484 ⟨_, rfl, Hc485⟩
            have H486 := St.call0 H479 Hc485
            clear H479 Hc485
            have sf483 := Own.isSl (St.get H486 0 rfl)
            refine WPI.run 1 ⟨#[.agg #[s1, s3], vp b5 0, g282, vi x102, s285, g286, g287, g288, g289, g290, g291, s476, s481, g112, vi x102, vb true, g115, g116, g292, g293, g294, g295, g296, g297, g298, g299, g300, g301, g302, g303, g304, g305, g306, g307, g308, g309, g310, g311, g312, g313, g314, g315, g316, g317, g318, g319, g320, g321, g322, g323, g324, g325, g326, g327, g328, g329, g330, g331, g332, g333, g334, g335, g336, g337, g338, g339, g340, g341, g342, s476, s285, s481, g171, g172, g173, g174, g175, g176, g177, g178, g179, g180, g181, g182, g183, g184, g185, g186, g187, g188, g189, g190, g191, Z, Z, Z, Z, Z, Z, Z], []⟩ w484 (fun K => by kernel_rfl) ?_
            refine WPI.done rfl ?_
            refine then_n ?_
            refine WP.seq ?_
            refine WP.seq ?_
            refine WP.region ?_
            refine WPI.run 1 ⟨#[.agg #[s1, s3], vp b5 0, g282, vi x102, s285, g286, g287, g288, g289, g290, g291, s476, s481, g112, vi x102, vb true, g115, g116, g292, g293, g294, g295, g296, g297, g298, g299, g300, g301, g302, g303, g304, g305, g306, g307, g308, g309, g310, g311, g312, g313, g314, g315, g316, g317, g318, g319, g320, g321, g322, g323, g324, g325, g326, g327, g328, g329, g330, g331, g332, g333, g334, g335, g336, g337, g338, g339, g340, g341, g342, s476, s285, s481, s481, g172, g173, g174, g175, g176, g177, g178, g179, g180, g181, g182, g183, g184, g185, g186, g187, g188, g189, g190, g191, Z, Z, Z, Z, Z, Z, Z], []⟩ w484 (fun K => by kernel_rfl) ?_
            refine WPI.value (v := vi (((List.length t480 : Nat) : Int))) rfl (by kernel_rfl) (ev_len sf483 22 (.tmp 72) 33 6 48 rfl (by kernel_rfl) (by kernel_rfl)) ?_
            refine WPI.run 1 ⟨#[.agg #[s1, s3], vp b5 0, g282, vi x102, s285, g286, g287, g288, g289, g290, g291, s476, s481, g112, vi x102, vb true, g115, g116, g292, g293, g294, g295, g296, g297, g298, g299, g300, g301, g302, g303, g304, g305, g306, g307, g308, g309, g310, g311, g312, g313, g314, g315, g316, g317, g318, g319, g320, g321, g322, g323, g324, g325, g326, g327, g328, g329, g330, g331, g332, g333, g334, g335, g336, g337, g338, g339, g340, g341, g342, s476, s285, s481, s481, vi (((List.length t480 : Nat) : Int)), s476, g174, g175, g176, g177, g178, g179, g180, g181, g182, g183, g184, g185, g186, g187, g188, g189, g190, g191, Z, Z, Z, Z, Z, Z, Z], []⟩ w484 (fun K => by kernel_rfl) ?_
            refine WPI.value (v := vi (((List.length (([6, 7, 4, 5, 2, 3, 0, 1] : List Int)) : Nat) : Int))) rfl (by kernel_rfl) (ev_len sf477 53 (.tmp 74) 3 1 8 rfl (by kernel_rfl) (by kernel_rfl)) ?_
            obtain ⟨c487, hc487, h⟩ := lt_some h
            refine WPI.run 1 ⟨#[.agg #[s1, s3], vp b5 0, g282, vi x102, s285, g286, g287, g288, g289, g290, g291, s476, s481, g112, vi x102, vb true, g115, g116, g292, g293, g294, g295, g296, g297, g298, g299, g300, g301, g302, g303, g304, g305, g306, g307, g308, g309, g310, g311, g312, g313, g314, g315, g316, g317, g318, g319, g320, g321, g322, g323, g324, g325, g326, g327, g328, g329, g330, g331, g332, g333, g334, g335, g336, g337, g338, g339, g340, g341, g342, s476, s285, s481, s481, vi (((List.length t480 : Nat) : Int)), s476, vi (((List.length (([6, 7, 4, 5, 2, 3, 0, 1] : List Int)) : Nat) : Int)), vb c487, g176, g177, g178, g179, g180, g181, g182, g183, g184, g185, g186, g187, g188, g189, g190, g191, Z, Z, Z, Z, Z, Z, Z], []⟩ w484 (fun K => by subst hc487; kernel_rfl) ?_
            refine WPI.done rfl ?_
            refine then_n ?_
            cases c487 with
            | false =>
              replace h := br_f h
              refine WP.condF (by kernel_rfl) ?_
              refine WP.skip ?_
              refine then_n ?_
              refine WP.seq ?_
              refine WP.region ?_
              refine WPI.run 1 ⟨#[.agg #[s1, s3], vp b5 0, g282, vi x102, s285, g286, g287, g288, g289, g290, g291, s476, s481, vi 0, vi x102, vb true, g115, g116, g292, g293, g294, g295, g296, g297, g298, g299, g300, g301, g302, g303, g304, g305, g306, g307, g308, g309, g310, g311, g312, g313, g314, g315, g316, g317, g318, g319, g320, g321, g322, g323, g324, g325, g326, g327, g328, g329, g330, g331, g332, g333, g334, g335, g336, g337, g338, g339, g340, g341, g342, s476, s285, s481, s481, vi (((List.length t480 : Nat) : Int)), s476, vi (((List.length (([6, 7, 4, 5, 2, 3, 0, 1] : List Int)) : Nat) : Int)), vb false, g176, g177, g178, g179, g180, g181, g182, g183, g184, g185, g186, g187, g188, g189, g190, g191, Z, Z, Z, Z, Z, Z, Z], []⟩ w484 (fun K => by kernel_rfl) ?_
              refine WPI.done rfl ?_
              refine then_n ?_
              obtain ⟨K506, hK506, h⟩ := jn_some h
              refine WP.blockJ (fun a w => ∃ (g488 : Value) (g489 : Value) (g490 : Value) (g491 : Value) (g492 : Value) (g493 : Value) (g494 : Value) (g495 : Value) (g496 : Value) (g497 : Value) (g498 : Value) (g499 : Value) (g500 : Value) (g501 : Value) (g502 : Value) (g503 : Value) (g504 : Value) (g505 : Value), a = ⟨#[.agg #[s1, s3], vp b5 0, g488, vi x102, s285, g286, g287, g288, g289, g290, g291, s476, s481, g489, vi x102, vb true, g115, g116, g292, g293, g294, g295, g296, g297, g298, g299, g300, g301, g302, g303, g304, g305, g306, g307, g308, g309, g310, g311, g312, g313, g314, g315, g316, g317, g318, g319, g320, g321, g322, g323, g324, g325, g326, g327, g328, g329, g330, g331, g332, g333, g334, g335, g336, g337, g338, g339, g340, g341, g342, s476, s285, s481, s481, vi (((List.length t480 : Nat) : Int)), s476, vi (((List.length (([6, 7, 4, 5, 2, 3, 0, 1] : List Int)) : Nat) : Int)), vb false, g490, g491, g492, g493, g494, g495, g496, g497, g498, g499, g500, g501, g502, g503, g504, g505, Z, Z, Z, Z, Z, Z, Z], []⟩ ∧ St no w0 w [Box b5 #[s1, s3] 25, Own fTNode 33 s481 t480, Own fI64 3 s476 (([6, 7, 4, 5, 2, 3, 0, 1] : List Int)), Own fTNode 33 s285 l284] ∧ K506 = some r) ?_ ?_
              · skip
                refine WP.loop (fun n a w => ∃ (x508 : Int) (g507 : Value) (g509 : Value) (g510 : Value) (g511 : Value) (g512 : Value) (g513 : Value) (g514 : Value) (g515 : Value) (g516 : Value) (g517 : Value) (g518 : Value) (g519 : Value) (g520 : Value) (g521 : Value) (g522 : Value) (g523 : Value) (g524 : Value), a = ⟨#[.agg #[s1, s3], vp b5 0, g507, vi x102, s285, g286, g287, g288, g289, g290, g291, s476, s481, vi x508, vi x102, vb true, g115, g116, g292, g293, g294, g295, g296, g297, g298, g299, g300, g301, g302, g303, g304, g305, g306, g307, g308, g309, g310, g311, g312, g313, g314, g315, g316, g317, g318, g319, g320, g321, g322, g323, g324, g325, g326, g327, g328, g329, g330, g331, g332, g333, g334, g335, g336, g337, g338, g339, g340, g341, g342, s476, s285, s481, s481, vi (((List.length t480 : Nat) : Int)), s476, vi (((List.length (([6, 7, 4, 5, 2, 3, 0, 1] : List Int)) : Nat) : Int)), vb false, g509, g510, g511, g512, g513, g514, g515, g516, g517, g518, g519, g520, g521, g522, g523, g524, Z, Z, Z, Z, Z, Z, Z], []⟩ ∧ St no w0 w [Box b5 #[s1, s3] 25, Own fTNode 33 s481 t480, Own fI64 3 s476 (([6, 7, 4, 5, 2, 3, 0, 1] : List Int)), Own fTNode 33 s285 l284] ∧ g_tarnlaw13_HeapMany_l3 t480 K506 fuel n x508 = some r) fuel ⟨0, _, _, _, _, _, _, _, _, _, _, _, _, _, _, _, _, _, rfl, St.sel H486 [2, 0, 1, 3] (by decide) rfl, h⟩ ?_
                rintro n a w ⟨x508, g507, g509, g510, g511, g512, g513, g514, g515, g516, g517, g518, g519, g520, g521, g522, g523, g524, rfl, H, h⟩
                cases n with
                | zero => rw [g_tarnlaw13_HeapMany_l3] at h; cases h
                | succ n =>
                  rw [g_tarnlaw13_HeapMany_l3] at h
                  obtain ⟨w525, rfl⟩ : ∃ x, x = w := ⟨_, rfl⟩
                  have H526 := H; clear H
                  have sf527 := Own.isSl (St.get H526 1 rfl)
                  have sf528 := Own.isSl (St.get H526 2 rfl)
                  have sf529 := Own.isSl (St.get H526 3 rfl)
                  refine WP.seq ?_
                  refine WP.seq ?_
                  refine WP.region ?_
                  refine WPI.run 2 ⟨#[.agg #[s1, s3], vp b5 0, g507, vi x102, s285, g286, g287, g288, g289, g290, g291, s476, s481, vi x508, vi x102, vb true, g115, g116, g292, g293, g294, g295, g296, g297, g298, g299, g300, g301, g302, g303, g304, g305, g306, g307, g308, g309, g310, g311, g312, g313, g314, g315, g316, g317, g318, g319, g320, g321, g322, g323, g324, g325, g326, g327, g328, g329, g330, g331, g332, g333, g334, g335, g336, g337, g338, g339, g340, g341, g342, s476, s285, s481, s481, vi (((List.length t480 : Nat) : Int)), s476, vi (((List.length (([6, 7, 4, 5, 2, 3, 0, 1] : List Int)) : Nat) : Int)), vb false, vi x508, s476, g511, g512, g513, g514, g515, g516, g517, g518, g519, g520, g521, g522, g523, g524, Z, Z, Z, Z, Z, Z, Z], []⟩ w525 (fun K => by kernel_rfl) ?_
                  refine WPI.value (v := vi (((List.length (([6, 7, 4, 5, 2, 3, 0, 1] : List Int)) : Nat) : Int))) rfl (by kernel_rfl) (ev_len sf528 53 (.tmp 78) 3 1 8 rfl (by kernel_rfl) (by kernel_rfl)) ?_
                  obtain ⟨c530, hc530, h⟩ := lt_some h
                  refine WPI.run 1 ⟨#[.agg #[s1, s3], vp b5 0, g507, vi x102, s285, g286, g287, g288, g289, g290, g291, s476, s481, vi x508, vi x102, vb true, g115, g116, g292, g293, g294, g295, g296, g297, g298, g299, g300, g301, g302, g303, g304, g305, g306, g307, g308, g309, g310, g311, g312, g313, g314, g315, g316, g317, g318, g319, g320, g321, g322, g323, g324, g325, g326, g327, g328, g329, g330, g331, g332, g333, g334, g335, g336, g337, g338, g339, g340, g341, g342, s476, s285, s481, s481, vi (((List.length t480 : Nat) : Int)), s476, vi (((List.length (([6, 7, 4, 5, 2, 3, 0, 1] : List Int)) : Nat) : Int)), vb false, vi x508, s476, vi (((List.length (([6, 7, 4, 5, 2, 3, 0, 1] : List Int)) : Nat) : Int)), vb c530, g513, g514, g515, g516, g517, g518, g519, g520, g521, g522, g523, g524, Z, Z, Z, Z, Z, Z, Z], []⟩ w525 (fun K => by subst hc530; kernel_rfl) ?_
                  refine WPI.done rfl ?_
                  refine then_n ?_
                  cases c530 with
                  | false =>
                    replace h := br_f h
                    refine WP.condF (by kernel_rfl) ?_
                    refine WP.exit ?_
                    exact then_e (then_e (inb_e (then_n ⟨_, _, _, _, _, _, _, _, _, _, _, _, _, _, _, _, _, _, rfl, St.sel H526 [0, 1, 2, 3] (by decide) rfl, h⟩)))
                  | true =>
                    replace h := br_t h
                    refine WP.condT (by kernel_rfl) ?_
                    refine WP.skip ?_
                    refine then_n ?_
                    refine WP.seq ?_
                    refine WP.block ?_
                    refine WP.seq ?_
                    refine WP.quiet (by kernel_rfl) (by kernel_rfl) (by kernel_rfl) (fun w => St no w0 w [Box b5 #[s1, s3] 25, Own fTNode 33 s481 t480, Own fI64 3 s476 (([6, 7, 4, 5, 2, 3, 0, 1] : List Int)), Own fTNode 33 s285 l284]) (St.drew H526) ?_
                    refine WQ.value (v := s481) rfl (by kernel_rfl) (fun w _ => by kernel_rfl) ?_
                    refine WQ.value (v := vi x508) rfl (by kernel_rfl) (fun w _ => by kernel_rfl) ?_
                    obtain ⟨hg531, h⟩ := gd_some h
                    refine WQ.value (v := va (slAt s481 6 (Int.toNat x508))) rfl (by kernel_rfl) (fun w H => ev_index sf527 22 (.tmp 83) (.tmp 84) 33 6 48 .i64 x508 rfl (by kernel_rfl) (by kernel_rfl) (by kernel_rfl) hg531) ?_
                    refine WQ.value (v := va (slAt s481 6 (Int.toNat x508))) rfl (by kernel_rfl) (fun w _ => by kernel_rfl) ?_
                    obtain ⟨x532, hx532, h⟩ := bd_some h
                    refine WQ.value (v := vi x532.Acct) rfl (by kernel_rfl) (fun w H => ev_loadEl (F := fTNode) (St.rd H 1 rfl) (hp_no_le _) hx532 3 (.tmp 86) 0 (vi x532.Acct) rfl (by kernel_rfl) (by kernel_rfl)) ?_
                    refine WQ.value (v := s476) rfl (by kernel_rfl) (fun w _ => by kernel_rfl) ?_
                    refine WQ.value (v := vi x508) rfl (by kernel_rfl) (fun w _ => by kernel_rfl) ?_
                    obtain ⟨hg533, h⟩ := gd_some h
                    refine WQ.value (v := va (slAt s476 1 (Int.toNat x508))) rfl (by kernel_rfl) (fun w H => ev_index sf528 53 (.tmp 88) (.tmp 89) 3 1 8 .i64 x508 rfl (by kernel_rfl) (by kernel_rfl) (by kernel_rfl) hg533) ?_
                    obtain ⟨x534, hx534, h⟩ := bd_some h
                    refine WQ.value (v := vi x534) rfl (by kernel_rfl) (fun w H => ev_loadEl (F := fI64) (St.rd H 2 rfl) (hp_no_le _) hx534 3 (.tmp 90) 0 (vi x534) rfl (by kernel_rfl) (by kernel_rfl)) ?_
                    obtain ⟨c535, hc535, h⟩ := lt_some h
                    refine WQ.value (v := vb c535) rfl (by kernel_rfl) (fun w _ => by subst hc535; kernel_rfl) ?_
                    refine WQ.frame (a' := ⟨#[.agg #[s1, s3], vp b5 0, g507, vi x102, s285, g286, g287, g288, g289, g290, g291, s476, s481, vi x508, vi x102, vb true, g115, g116, g292, g293, g294, g295, g296, g297, g298, g299, g300, g301, g302, g303, g304, g305, g306, g307, g308, g309, g310, g311, g312, g313, g314, g315, g316, g317, g318, g319, g320, g321, g322, g323, g324, g325, g326, g327, g328, g329, g330, g331, g332, g333, g334, g335, g336, g337, g338, g339, g340, g341, g342, s476, s285, s481, s481, vi (((List.length t480 : Nat) : Int)), s476, vi (((List.length (([6, 7, 4, 5, 2, 3, 0, 1] : List Int)) : Nat) : Int)), vb false, vi x508, s476, vi (((List.length (([6, 7, 4, 5, 2, 3, 0, 1] : List Int)) : Nat) : Int)), vb true, g513, g514, s481, vi x508, va (slAt s481 6 (Int.toNat x508)), va (slAt s481 6 (Int.toNat x508)), vi x532.Acct, s476, vi x508, va (slAt s476 1 (Int.toNat x508)), vi x534, vb c535, Z, Z, Z, Z, Z, Z, Z], []⟩) (by kernel_rfl) ?_
                    refine WQ.done rfl ?_
                    refine (fun w536 H537 => ?_)
                    refine then_n ?_
                    cases c535 with
                    | false =>
                      replace h := br_f h
                      refine WP.condF (by kernel_rfl) ?_
                      refine WP.skip ?_
                      refine inb_n (then_n ?_)
                      refine WP.region ?_
                      obtain ⟨x538, hx538, h⟩ := lt_some h
                      refine WPI.run 3 ⟨#[.agg #[s1, s3], vp b5 0, g507, vi x102, s285, g286, g287, g288, g289, g290, g291, s476, s481, vi x538, vi x102, vb true, g115, g116, g292, g293, g294, g295, g296, g297, g298, g299, g300, g301, g302, g303, g304, g305, g306, g307, g308, g309, g310, g311, g312, g313, g314, g315, g316, g317, g318, g319, g320, g321, g322, g323, g324, g325, g326, g327, g328, g329, g330, g331, g332, g333, g334, g335, g336, g337, g338, g339, g340, g341, g342, s476, s285, s481, s481, vi (((List.length t480 : Nat) : Int)), s476, vi (((List.length (([6, 7, 4, 5, 2, 3, 0, 1] : List Int)) : Nat) : Int)), vb false, vi x508, s476, vi (((List.length (([6, 7, 4, 5, 2, 3, 0, 1] : List Int)) : Nat) : Int)), vb true, vi x508, vi x538, s481, vi x508, va (slAt s481 6 (Int.toNat x508)), va (slAt s481 6 (Int.toNat x508)), vi x532.Acct, s476, vi x508, va (slAt s476 1 (Int.toNat x508)), vi x534, vb false, Z, Z, Z, Z, Z, Z, Z], []⟩ w536 (fun K => by subst hx538; kernel_rfl) ?_
                      refine WPI.done rfl ?_
                      exact then_n ⟨n, Nat.lt_succ_self n, x538, _, _, _, _, _, _, _, _, _, _, _, _, _, _, _, _, _, rfl, St.sel H537 [0, 1, 2, 3] (by decide) rfl, h⟩
                    | true =>
                      replace h := br_t h
                      refine WP.condT (by kernel_rfl) ?_
                      refine WP.seq ?_
                      refine WP.region ?_
                      refine WPI.run 1 ⟨#[.agg #[s1, s3], vp b5 0, vb false, vi x102, s285, g286, g287, g288, g289, g290, g291, s476, s481, vi x508, vi x102, vb true, g115, g116, g292, g293, g294, g295, g296, g297, g298, g299, g300, g301, g302, g303, g304, g305, g306, g307, g308, g309, g310, g311, g312, g313, g314, g315, g316, g317, g318, g319, g320, g321, g322, g323, g324, g325, g326, g327, g328, g329, g330, g331, g332, g333, g334, g335, g336, g337, g338, g339, g340, g341, g342, s476, s285, s481, s481, vi (((List.length t480 : Nat) : Int)), s476, vi (((List.length (([6, 7, 4, 5, 2, 3, 0, 1] : List Int)) : Nat) : Int)), vb false, vi x508, s476, vi (((List.length (([6, 7, 4, 5, 2, 3, 0, 1] : List Int)) : Nat) : Int)), vb true, g513, g514, s481, vi x508, va (slAt s481 6 (Int.toNat x508)), va (slAt s481 6 (Int.toNat x508)), vi x532.Acct, s476, vi x508, va (slAt s476 1 (Int.toNat x508)), vi x534, vb true, Z, Z, Z, Z, Z, Z, Z], []⟩ w536 (fun K => by kernel_rfl) ?_
                      refine WPI.done rfl ?_
                      refine then_n ?_
                      refine WP.ret ?_
                      obtain rfl := Option.some.inj h
                      exact inb_r (then_r (then_r (inb_r (then_r (inb_r (then_r (then_r (then_r (inb_r (then_r (then_r (post_r (vb false) rfl (by kernel_rfl) ⟨rfl, St.sel H537 [] (by decide) rfl⟩))))))))))))
              · rintro a w ⟨g488, g489, g490, g491, g492, g493, g494, g495, g496, g497, g498, g499, g500, g501, g502, g503, g504, g505, rfl, H, h⟩
                have hQ := h; subst hK506; have h := hQ; clear hQ
                obtain ⟨w539, rfl⟩ : ∃ x, x = w := ⟨_, rfl⟩
                have H540 := H; clear H
                have sf541 := Own.isSl (St.get H540 1 rfl)
                have sf542 := Own.isSl (St.get H540 2 rfl)
                have sf543 := Own.isSl (St.get H540 3 rfl)
                exact inb_n (then_n ⟨_, _, _, _, _, _, _, _, _, _, _, _, _, _, _, _, _, _, _, _, _, _, _, _, _, _, _, _, _, _, _, _, _, _, _, _, _, _, _, _, _, _, _, _, _, _, _, _, _, _, _, _, _, _, _, _, _, _, _, _, _, _, _, _, _, _, _, _, _, _, _, _, _, _, _, _, _, _, _, _, _, _, _, _, _, _, rfl, St.sel H540 [0] (by decide) rfl, h⟩)
            | true =>
              replace h := br_t h
              refine WP.condT (by kernel_rfl) ?_
              refine WP.seq ?_
              refine WP.region ?_
              refine WPI.run 1 ⟨#[.agg #[s1, s3], vp b5 0, vb false, vi x102, s285, g286, g287, g288, g289, g290, g291, s476, s481, g112, vi x102, vb true, g115, g116, g292, g293, g294, g295, g296, g297, g298, g299, g300, g301, g302, g303, g304, g305, g306, g307, g308, g309, g310, g311, g312, g313, g314, g315, g316, g317, g318, g319, g320, g321, g322, g323, g324, g325, g326, g327, g328, g329, g330, g331, g332, g333, g334, g335, g336, g337, g338, g339, g340, g341, g342, s476, s285, s481, s481, vi (((List.length t480 : Nat) : Int)), s476, vi (((List.length (([6, 7, 4, 5, 2, 3, 0, 1] : List Int)) : Nat) : Int)), vb true, g176, g177, g178, g179, g180, g181, g182, g183, g184, g185, g186, g187, g188, g189, g190, g191, Z, Z, Z, Z, Z, Z, Z], []⟩ w484 (fun K => by kernel_rfl) ?_
              refine WPI.done rfl ?_
              refine then_n ?_
              refine WP.ret ?_
              obtain rfl := Option.some.inj h
              exact then_r (inb_r (then_r (then_r (then_r (inb_r (then_r (then_r (post_r (vb false) rfl (by kernel_rfl) ⟨rfl, St.sel H486 [] (by decide) rfl⟩))))))))
        · rintro a w ⟨g195, g196, g197, g198, g199, g200, g201, g202, g203, g204, g205, g206, g207, g208, g209, g210, g211, g212, g213, g214, g215, g216, g217, g218, g219, g220, g221, g222, g223, g224, g225, g226, g227, g228, g229, g230, g231, g232, g233, g234, g235, g236, g237, g238, g239, g240, g241, g242, g243, g244, g245, g246, g247, g248, g249, g250, g251, g252, g253, g254, g255, g256, g257, g258, g259, g260, g261, g262, g263, g264, g265, g266, g267, g268, g269, g270, g271, g272, g273, g274, g275, g276, g277, g278, g279, g280, rfl, H, h⟩
          have hQ := h; subst hK281; have h := hQ; clear hQ
          obtain ⟨w544, rfl⟩ : ∃ x, x = w := ⟨_, rfl⟩
          have H545 := H; clear H
          refine then_n ?_
          refine WP.region ?_
          obtain ⟨x546, hx546, h⟩ := lt_some h
          refine WPI.run 3 ⟨#[.agg #[s1, s3], vp b5 0, g195, vi x546, g196, g197, g198, g199, g200, g201, g202, g203, g204, g205, vi x102, vb true, vi x102, vi x546, g206, g207, g208, g209, g210, g211, g212, g213, g214, g215, g216, g217, g218, g219, g220, g221, g222, g223, g224, g225, g226, g227, g228, g229, g230, g231, g232, g233, g234, g235, g236, g237, g238, g239, g240, g241, g242, g243, g244, g245, g246, g247, g248, g249, g250, g251, g252, g253, g254, g255, g256, g257, g258, g259, g260, g261, g262, g263, g264, g265, g266, g267, g268, g269, g270, g271, g272, g273, g274, g275, g276, g277, g278, g279, g280, Z, Z, Z, Z, Z, Z, Z], []⟩ w544 (fun K => by subst hx546; kernel_rfl) ?_
          refine WPI.done rfl ?_
          exact then_n ⟨n, Nat.lt_succ_self n, x546, _, _, _, _, _, _, _, _, _, _, _, _, _, _, _, _, _, _, _, _, _, _, _, _, _, _, _, _, _, _, _, _, _, _, _, _, _, _, _, _, _, _, _, _, _, _, _, _, _, _, _, _, _, _, _, _, _, _, _, _, _, _, _, _, _, _, _, _, _, _, _, _, _, _, _, _, _, _, _, _, _, _, _, _, _, _, _, _, _, _, rfl, St.sel H545 [0] (by decide) rfl, h⟩
  · rintro a w ⟨g9, g10, g11, g12, g13, g14, g15, g16, g17, g18, g19, g20, g21, g22, g23, g24, g25, g26, g27, g28, g29, g30, g31, g32, g33, g34, g35, g36, g37, g38, g39, g40, g41, g42, g43, g44, g45, g46, g47, g48, g49, g50, g51, g52, g53, g54, g55, g56, g57, g58, g59, g60, g61, g62, g63, g64, g65, g66, g67, g68, g69, g70, g71, g72, g73, g74, g75, g76, g77, g78, g79, g80, g81, g82, g83, g84, g85, g86, g87, g88, g89, g90, g91, g92, g93, g94, g95, g96, g97, g98, g99, rfl, H, h⟩
    have hQ := h; subst hK100; have h := hQ; clear hQ
    obtain ⟨w547, rfl⟩ : ∃ x, x = w := ⟨_, rfl⟩
    have H548 := H; clear H
    refine then_n ?_
    refine WP.seq ?_
    obtain ⟨K557, hK557, h⟩ := jn_some h
    refine WP.onlyN (fun a w => ∃ (c549 : Bool) (g550 : Value) (g551 : Value) (g552 : Value) (g553 : Value) (g554 : Value) (g555 : Value) (g556 : Value), a = ⟨#[.agg #[s1, s3], vp b5 0, vb c549, g10, g11, g12, g13, g14, g15, g16, g17, g18, g19, g20, g21, g22, g23, g24, g25, g26, g27, g28, g29, g30, g31, g32, g33, g34, g35, g36, g37, g38, g39, g40, g41, g42, g43, g44, g45, g46, g47, g48, g49, g50, g51, g52, g53, g54, g55, g56, g57, g58, g59, g60, g61, g62, g63, g64, g65, g66, g67, g68, g69, g70, g71, g72, g73, g74, g75, g76, g77, g78, g79, g80, g81, g82, g83, g84, g85, g86, g87, g88, g89, g90, g91, g92, g93, g94, g95, g96, g97, g98, g99, g550, g551, g552, g553, g554, g555, g556], []⟩ ∧ St no w0 w [Box b5 #[s1, s3] 25] ∧ K557 c549 = some r) ?_ ?_
    · skip
      refine WP.region ?_
      refine WPI.run 1 ⟨#[.agg #[s1, s3], vp b5 0, g9, g10, g11, g12, g13, g14, g15, g16, g17, g18, g19, g20, g21, g22, g23, g24, g25, g26, g27, g28, g29, g30, g31, g32, g33, g34, g35, g36, g37, g38, g39, g40, g41, g42, g43, g44, g45, g46, g47, g48, g49, g50, g51, g52, g53, g54, g55, g56, g57, g58, g59, g60, g61, g62, g63, g64, g65, g66, g67, g68, g69, g70, g71, g72, g73, g74, g75, g76, g77, g78, g79, g80, g81, g82, g83, g84, g85, g86, g87, g88, g89, g90, g91, g92, g93, g94, g95, g96, g97, g98, g99, vp b5 1, Z, Z, Z, Z, Z, Z], []⟩ w547 (fun K => by kernel_rfl) ?_
      refine WPI.value (v := s3) rfl (by kernel_rfl) (ev_loadBox H548 0 rfl 23 (.tmp 93) 1 (s3) rfl (by kernel_rfl) (by kernel_rfl)) ?_
      refine WPI.run 0 ⟨#[.agg #[s1, s3], vp b5 0, g9, g10, g11, g12, g13, g14, g15, g16, g17, g18, g19, g20, g21, g22, g23, g24, g25, g26, g27, g28, g29, g30, g31, g32, g33, g34, g35, g36, g37, g38, g39, g40, g41, g42, g43, g44, g45, g46, g47, g48, g49, g50, g51, g52, g53, g54, g55, g56, g57, g58, g59, g60, g61, g62, g63, g64, g65, g66, g67, g68, g69, g70, g71, g72, g73, g74, g75, g76, g77, g78, g79, g80, g81, g82, g83, g84, g85, g86, g87, g88, g89, g90, g91, g92, g93, g94, g95, g96, g97, g98, g99, vp b5 1, s3, Z, Z, Z, Z, Z], []⟩ w547 (fun K => by kernel_rfl) ?_
      refine WPI.value (v := vi (((List.length l4 : Nat) : Int))) rfl (by kernel_rfl) (ev_len (Rd.sl hs3) 23 (.tmp 94) 45 7 56 rfl (by kernel_rfl) (by kernel_rfl)) ?_
      obtain ⟨c558, hc558, h⟩ := lt_some h
      refine WPI.run 2 ⟨#[.agg #[s1, s3], vp b5 0, g9, g10, g11, g12, g13, g14, g15, g16, g17, g18, g19, g20, g21, g22, g23, g24, g25, g26, g27, g28, g29, g30, g31, g32, g33, g34, g35, g36, g37, g38, g39, g40, g41, g42, g43, g44, g45, g46, g47, g48, g49, g50, g51, g52, g53, g54, g55, g56, g57, g58, g59, g60, g61, g62, g63, g64, g65, g66, g67, g68, g69, g70, g71, g72, g73, g74, g75, g76, g77, g78, g79, g80, g81, g82, g83, g84, g85, g86, g87, g88, g89, g90, g91, g92, g93, g94, g95, g96, g97, g98, g99, vp b5 1, s3, vi (((List.length l4 : Nat) : Int)), vb c558, vb c558, Z, Z], []⟩ w547 (fun K => by subst hc558; kernel_rfl) ?_
      cases c558 with
      | false =>
        replace h := br_f h
        refine WPI.run 3 ⟨#[.agg #[s1, s3], vp b5 0, vb false, g10, g11, g12, g13, g14, g15, g16, g17, g18, g19, g20, g21, g22, g23, g24, g25, g26, g27, g28, g29, g30, g31, g32, g33, g34, g35, g36, g37, g38, g39, g40, g41, g42, g43, g44, g45, g46, g47, g48, g49, g50, g51, g52, g53, g54, g55, g56, g57, g58, g59, g60, g61, g62, g63, g64, g65, g66, g67, g68, g69, g70, g71, g72, g73, g74, g75, g76, g77, g78, g79, g80, g81, g82, g83, g84, g85, g86, g87, g88, g89, g90, g91, g92, g93, g94, g95, g96, g97, g98, g99, vp b5 1, s3, vi (((List.length l4 : Nat) : Int)), vb false, vb false, Z, vb false], []⟩ w547 (fun K => by kernel_rfl) ?_
        refine WPI.done rfl ?_
        exact ⟨false, _, _, _, _, _, _, _, rfl, St.sel H548 [0] (by decide) rfl, h⟩
      | true =>
        replace h := br_t h
        obtain ⟨t559, ht559, h⟩ := bd_some h
        refine WPI.op rfl (Op1.call (by kernel_rfl) (by kernel_rfl) (g_tarnlaw13_wakes_w fuel t559 ht559 _) ?_)
        rintro _ w560 ⟨rfl, Hc561⟩
        have H562 := St.call0' H548 Hc561
        clear H548 Hc561
        refine WPI.run 2 ⟨#[.agg #[s1, s3], vp b5 0, vb t559, g10, g11, g12, g13, g14, g15, g16, g17, g18, g19, g20, g21, g22, g23, g24, g25, g26, g27, g28, g29, g30, g31, g32, g33, g34, g35, g36, g37, g38, g39, g40, g41, g42, g43, g44, g45, g46, g47, g48, g49, g50, g51, g52, g53, g54, g55, g56, g57, g58, g59, g60, g61, g62, g63, g64, g65, g66, g67, g68, g69, g70, g71, g72, g73, g74, g75, g76, g77, g78, g79, g80, g81, g82, g83, g84, g85, g86, g87, g88, g89, g90, g91, g92, g93, g94, g95, g96, g97, g98, g99, vp b5 1, s3, vi (((List.length l4 : Nat) : Int)), vb true, vb true, vb t559, vb t559], []⟩ w560 (fun K => by kernel_rfl) ?_
        refine WPI.done rfl ?_
        exact ⟨t559, _, _, _, _, _, _, _, rfl, St.sel H562 [0] (by decide) rfl, h⟩
    · rintro a w ⟨c549, g550, g551, g552, g553, g554, g555, g556, rfl, H, h⟩
      have hQ := h; subst hK557; have h := hQ; clear hQ
      obtain ⟨w563, rfl⟩ : ∃ x, x = w := ⟨_, rfl⟩
      have H564 := H; clear H
      refine then_n ?_
      refine WP.ret ?_
      obtain rfl := Option.some.inj h
      exact post_r (vb c549) rfl (by kernel_rfl) ⟨rfl, St.sel H564 [] (by decide) rfl⟩
end Go.Proofs
