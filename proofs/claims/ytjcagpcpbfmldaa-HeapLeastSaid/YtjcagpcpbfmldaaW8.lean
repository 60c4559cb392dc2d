import Derived.Test.YtjcagpcpbfmldaaGw
import Derived.Test.YtjcagpcpbfmldaaProg
import Derived.Test.YtjcagpcpbfmldaaT
import Derived.Test.YtjcagpcpbfmldaaW1
import Derived.Test.YtjcagpcpbfmldaaW2
import Derived.Test.YtjcagpcpbfmldaaW3
import Derived.Test.YtjcagpcpbfmldaaW4
import Derived.Test.YtjcagpcpbfmldaaW5
import Derived.Test.YtjcagpcpbfmldaaW6
import Derived.Test.YtjcagpcpbfmldaaW7
set_option linter.unusedVariables false
set_option linter.unusedSimpArgs false
set_option maxRecDepth 100000
set_option maxHeartbeats 4000000
namespace Go.Proofs
open Gw Go.RowKit
/- tarn/tarnlaw13.step -/
def g_tarnlaw13_step (fuel : Nat) (l2 : List TNode) (p3 : Ttarnlaw13_Act) : Option ((List TNode) × Bool) :=
  bd (g_tarnref12_Heap fuel l2) fun t8 => bd (g_tarnref0_CopyNodes fuel l2) fun t12 => jn (fun (x19 : Int) (l21 : List TNode) (l24 : List TNode) (x26 : Int) => jn (fun (c345 : Bool) => br c345 (some (l2, false)) (lt (x19 != 0) fun c367 => br c367 (some (l2, true)) (bd (g_tarnlaw0_Nodes fuel l24) fun t368 => bd (g_tarnref0_EqNodes fuel t12 l2) fun t373 => some (l21, t373)))) fun K346 => bd (g_tarnlaw13_num fuel x26) fun t347 => lt (t347 != x19) fun c351 => br c351 (K346 true) (bd (g_tarnref0_EqNodes fuel l24 l21) fun t352 => lt (!t352) fun c356 => br c356 (K346 true) (bd (g_tarnref0_EqNodes fuel t12 l2) fun t357 => lt (!t357) fun c361 => K346 c361))) fun K93 => bd (g_tarnlaw0_Within fuel p3.Do 5) fun t94 => jn (fun (x98 : Int) (l100 : List TNode) (l103 : List TNode) (x105 : Int) => K93 x98 l100 l103 x105) fun K169 => jn (fun (c170 : Bool) => br c170 (jn (fun (x270 : Int) (l272 : List TNode) => bd (g_heap_Push fuel t12 p3.N) fun t313 => K169 x270 l272 t313.1 t313.2) fun K287 => jn (fun (c293 : Bool) => br c293 (bd (g_tarnref12_Push fuel l2 p3.N) fun t302 => K287 t302.2 t302.1) (K287 1 ([]))) fun K294 => br t8 (bd (g_tarnref12_Node fuel p3.N) fun t295 => K294 t295) (K294 false)) (jn (fun (c179 : Bool) => br c179 (jn (fun (x220 : Int) (l222 : List TNode) => bd (g_heap_Set fuel t12 p3.N) fun t263 => K169 x220 l222 t263.1 t263.2) fun K237 => jn (fun (c243 : Bool) => br c243 (bd (g_tarnref12_Set fuel l2 p3.N) fun t252 => K237 t252.2 t252.1) (K237 1 ([]))) fun K244 => br t8 (bd (g_tarnref12_Node fuel p3.N) fun t245 => K244 t245) (K244 false)) (jn (fun (x188 : Int) (l190 : List TNode) => bd (g_heap_Drop fuel t12 p3.N.Acct) fun t213 => K169 x188 l190 t213.1 t213.2) fun K201 => br t8 (bd (g_tarnref12_Drop fuel l2 p3.N.Acct) fun t202 => K201 t202.2 t202.1) (K201 1 ([])))) fun K182 => lt (t94 == 2) fun c183 => br c183 (K182 true) (lt (t94 == 3) fun c184 => K182 c184))) fun K173 => lt (t94 == 0) fun c174 => br c174 (K173 true) (lt (t94 == 1) fun c175 => K173 c175)
theorem g_tarnlaw13_step_w (fuel : Nat) (s1 : Value) (l2 : List TNode) (p3 : Ttarnlaw13_Act) (r : (List TNode) × Bool) (h : g_tarnlaw13_step fuel l2 p3 = some r) (w0 : World) (hs1 : Rd fTNode (hp no w0) s1 l2) :
    Ret Try.prog 27 #[s1, Ttarnlaw13_Act.val p3] w0 (fun v w' => ∃ (q0 : Value), v = .tuple #[q0, vb r.2] ∧ Rd fTNode (hp no w') q0 r.1 ∧ St no w0 w' []) := by
  unfold g_tarnlaw13_step at h
  refine ret_of_wp Try.func27 rfl #[s1, Ttarnlaw13_Act.val p3, Z, Z, Z, Z, Z, Z, Z, Z, Z, Z, Z, Z, Z, Z, Z, Z, Z, Z, Z, Z, Z, Z, Z, Z, Z, Z, Z, Z, Z, Z, Z, Z, Z, Z, Z, Z, Z, Z, Z, Z, Z, Z, Z, Z, Z, Z, Z, Z, Z, Z, Z, Z, Z, Z, Z, Z, Z, Z, Z, Z, Z, Z, Z, Z, Z, Z, Z, Z, Z, Z, Z, Z, Z, Z, Z, Z, Z, Z, Z, Z, Z, Z, Z, Z, Z, Z, Z, Z, Z, Z, Z, Z, Z, Z, Z, Z, Z, Z, Z, Z, Z, Z, Z, Z, Z, Z] (by kernel_rfl) ?_
  have H0 := St.start w0
  refine WP.seq ?_
  refine WP.region ?_
  refine WPI.op rfl (Op1.box H0 (Ttarnlaw13_Act.cs p3).toArray (by kernel_rfl) 45 (.tmp 1) rfl (by kernel_rfl) (fun b4 w6 H7 => ?_))
  refine WPI.run 2 ⟨#[s1, Ttarnlaw13_Act.val p3, Z, vp b4 0, vn, vb false, Z, Z, Z, Z, Z, Z, Z, Z, Z, Z, Z, Z, Z, Z, Z, Z, Z, Z, Z, Z, Z, Z, Z, Z, Z, Z, Z, Z, Z, Z, Z, Z, Z, Z, Z, Z, Z, Z, Z, Z, Z, Z, Z, Z, Z, Z, Z, Z, Z, Z, Z, Z, Z, Z, Z, Z, Z, Z, Z, Z, Z, Z, Z, Z, Z, Z, Z, Z, Z, Z, Z, Z, Z, Z, Z, Z, Z, Z, Z, Z, Z, Z, Z, Z, Z, Z, Z, Z, Z, Z, Z, Z, Z, Z, Z, Z, Z, Z, Z, Z, Z, Z], []⟩ w6 (fun K => by kernel_rfl) ?_
  refine WPI.done rfl ?_
  refine then_n ?_
  refine WP.seq ?_
  refine WP.region ?_
  obtain ⟨t8, ht8, h⟩ := bd_some h
  refine WPI.run 1 ⟨#[s1, Ttarnlaw13_Act.val p3, Z, vp b4 0, vn, vb false, Z, Z, Z, Z, Z, Z, s1, Z, Z, Z, Z, Z, Z, Z, Z, Z, Z, Z, Z, Z, Z, Z, Z, Z, Z, Z, Z, Z, Z, Z, Z, Z, Z, Z, Z, Z, Z, Z, Z, Z, Z, Z, Z, Z, Z, Z, Z, Z, Z, Z, Z, Z, Z, Z, Z, Z, Z, Z, Z, Z, Z, Z, Z, Z, Z, Z, Z, Z, Z, Z, Z, Z, Z, Z, Z, Z, Z, Z, Z, Z, Z, Z, Z, Z, Z, Z, Z, Z, Z, Z, Z, Z, Z, Z, Z, Z, Z, Z, Z, Z, Z, Z], []⟩ w6 (fun K => by kernel_rfl) ?_
  refine WPI.op rfl (Op1.call (by kernel_rfl) (by kernel_rfl) (g_tarnref12_Heap_w fuel s1 l2 t8 ht8 _ (Rd.arg0 hs1 H7)) ?_)
  rintro _ w9 ⟨rfl, Hc10⟩
  have H11 := St.call0' H7 Hc10
  clear H7 Hc10
  refine WPI.run 1 ⟨#[s1, Ttarnlaw13_Act.val p3, Z, vp b4 0, vn, vb false, vb t8, Z, Z, Z, Z, Z, s1, vb t8, Z, Z, Z, Z, Z, Z, Z, Z, Z, Z, Z, Z, Z, Z, Z, Z, Z, Z, Z, Z, Z, Z, Z, Z, Z, Z, Z, Z, Z, Z, Z, Z, Z, Z, Z, Z, Z, Z, Z, Z, Z, Z, Z, Z, Z, Z, Z, Z, Z, Z, Z, Z, Z, Z, Z, Z, Z, Z, Z, Z, Z, Z, Z, Z, Z, Z, Z, Z, Z, Z, Z, Z, Z, Z, Z, Z, Z, Z, Z, Z, Z, Z, Z, Z, Z, Z, Z, Z, Z, Z, Z, Z, Z, Z], []⟩ w9 (fun K => by kernel_rfl) ?_
  refine WPI.done rfl ?_
  refine then_n ?_
  refine WP.seq ?_
  refine WP.region ?_
  obtain ⟨t12, ht12, h⟩ := bd_some h
  refine WPI.run 1 ⟨#[s1, Ttarnlaw13_Act.val p3, Z, vp b4 0, vn, vb false, vb t8, Z, Z, Z, Z, Z, s1, vb t8, s1, Z, Z, Z, Z, Z, Z, Z, Z, Z, Z, Z, Z, Z, Z, Z, Z, Z, Z, Z, Z, Z, Z, Z, Z, Z, Z, Z, Z, Z, Z, Z, Z, Z, Z, Z, Z, Z, Z, Z, Z, Z, Z, Z, Z, Z, Z, Z, Z, Z, Z, Z, Z, Z, Z, Z, Z, Z, Z, Z, Z, Z, Z, Z, Z, Z, Z, Z, Z, Z, Z, Z, Z, Z, Z, Z, Z, Z, Z, Z, Z, Z, Z, Z, Z, Z, Z, Z, Z, Z, Z, Z, Z, Z], []⟩ w9 (fun K => by kernel_rfl) ?_
  refine WPI.op rfl (Op1.call (by kernel_rfl) (by kernel_rfl) (g_tarnref0_CopyNodes_w fuel s1 l2 t12 ht12 _ (Rd.arg0 hs1 H11)) ?_)
  rintro s13 w16 ⟨_, rfl, Hc17⟩
  have H18 := St.call0 H11 Hc17
  clear H11 Hc17
  have sf15 := Own.isSl (St.get H18 0 rfl)
  refine WPI.run 1 ⟨#[s1, Ttarnlaw13_Act.val p3, Z, vp b4 0, vn, vb false, vb t8, s13, Z, Z, Z, Z, s1, vb t8, s1, s13, Z, Z, Z, Z, Z, Z, Z, Z, Z, Z, Z, Z, Z, Z, Z, Z, Z, Z, Z, Z, Z, Z, Z, Z, Z, Z, Z, Z, Z, Z, Z, Z, Z, Z, Z, Z, Z, Z, Z, Z, Z, Z, Z, Z, Z, Z, Z, Z, Z, Z, Z, Z, Z, Z, Z, Z, Z, Z, Z, Z, Z, Z, Z, Z, Z, Z, Z, Z, Z, Z, Z, Z, Z, Z, Z, Z, Z, Z, Z, Z, Z, Z, Z, Z, Z, Z, Z, Z, Z, Z, Z, Z], []⟩ w16 (fun K => by kernel_rfl) ?_
  refine WPI.done rfl ?_
  refine then_n ?_
  refine WP.seq ?_
  refine WP.region ?_
  refine WPI.run 1 ⟨#[s1, Ttarnlaw13_Act.val p3, Z, vp b4 0, vn, vb false, vb t8, s13, vi 1, Z, Z, Z, s1, vb t8, s1, s13, Z, Z, Z, Z, Z, Z, Z, Z, Z, Z, Z, Z, Z, Z, Z, Z, Z, Z, Z, Z, Z, Z, Z, Z, Z, Z, Z, Z, Z, Z, Z, Z, Z, Z, Z, Z, Z, Z, Z, Z, Z, Z, Z, Z, Z, Z, Z, Z, Z, Z, Z, Z, Z, Z, Z, Z, Z, Z, Z, Z, Z, Z, Z, Z, Z, Z, Z, Z, Z, Z, Z, Z, Z, Z, Z, Z, Z, Z, Z, Z, Z, Z, Z, Z, Z, Z, Z, Z, Z, Z, Z, Z], []⟩ w16 (fun K => by kernel_rfl) ?_
  refine WPI.done rfl ?_
  refine then_n ?_
  refine WP.seq ?_
  refine WP.region ?_
  refine WPI.run 2 ⟨#[s1, Ttarnlaw13_Act.val p3, Z, vp b4 0, vn, vb false, vb t8, s13, vi 1, vn, vn, Z, s1, vb t8, s1, s13, Z, Z, Z, Z, Z, Z, Z, Z, Z, Z, Z, Z, Z, Z, Z, Z, Z, Z, Z, Z, Z, Z, Z, Z, Z, Z, Z, Z, Z, Z, Z, Z, Z, Z, Z, Z, Z, Z, Z, Z, Z, Z, Z, Z, Z, Z, Z, Z, Z, Z, Z, Z, Z, Z, Z, Z, Z, Z, Z, Z, Z, Z, Z, Z, Z, Z, Z, Z, Z, Z, Z, Z, Z, Z, Z, Z, Z, Z, Z, Z, Z, Z, Z, Z, Z, Z, Z, Z, Z, Z, Z, Z], []⟩ w16 (fun K => by kernel_rfl) ?_
  refine WPI.done rfl ?_
  refine then_n ?_
  refine WP.seq ?_
  refine WP.region ?_
  refine WPI.run 1 ⟨#[s1, Ttarnlaw13_Act.val p3, Z, vp b4 0, vn, vb false, vb t8, s13, vi 1, vn, vn, vi 0, s1, vb t8, s1, s13, Z, Z, Z, Z, Z, Z, Z, Z, Z, Z, Z, Z, Z, Z, Z, Z, Z, Z, Z, Z, Z, Z, Z, Z, Z, Z, Z, Z, Z, Z, Z, Z, Z, Z, Z, Z, Z, Z, Z, Z, Z, Z, Z, Z, Z, Z, Z, Z, Z, Z, Z, Z, Z, Z, Z, Z, Z, Z, Z, Z, Z, Z, Z, Z, Z, Z, Z, Z, Z, Z, Z, Z, Z, Z, Z, Z, Z, Z, Z, Z, Z, Z, Z, Z, Z, Z, Z, Z, Z, Z, Z, Z], []⟩ w16 (fun K => by kernel_rfl) ?_
  refine WPI.done rfl ?_
  refine then_n ?_
  obtain ⟨K93, hK93, h⟩ := jn_some h
  refine WP.seqJ (fun a w => ∃ (x19 : Int) (l21 : List TNode) (l24 : List TNode) (x26 : Int) (s22 : Value) (s25 : Value) (g27 : Value) (g28 : Value) (g29 : Value) (g30 : Value) (g31 : Value) (g32 : Value) (g33 : Value) (g34 : Value) (g35 : Value) (g36 : Value) (g37 : Value) (g38 : Value) (g39 : Value) (g40 : Value) (g41 : Value) (g42 : Value) (g43 : Value) (g44 : Value) (g45 : Value) (g46 : Value) (g47 : Value) (g48 : Value) (g49 : Value) (g50 : Value) (g51 : Value) (g52 : Value) (g53 : Value) (g54 : Value) (g55 : Value) (g56 : Value) (g57 : Value) (g58 : Value) (g59 : Value) (g60 : Value) (g61 : Value) (g62 : Value) (g63 : Value) (g64 : Value) (g65 : Value) (g66 : Value) (g67 : Value) (g68 : Value) (g69 : Value) (g70 : Value) (g71 : Value) (g72 : Value) (g73 : Value) (g74 : Value) (g75 : Value) (g76 : Value) (g77 : Value) (g78 : Value) (g79 : Value) (g80 : Value) (g81 : Value) (g82 : Value) (g83 : Value) (g84 : Value) (g85 : Value) (g86 : Value) (g87 : Value) (g88 : Value) (g89 : Value) (g90 : Value) (g91 : Value) (g92 : Value), a = ⟨#[s1, Ttarnlaw13_Act.val p3, Z, vp b4 0, vn, vb false, vb t8, s13, vi x19, s22, s25, vi x26, s1, vb t8, s1, s13, g27, g28, g29, g30, g31, g32, g33, g34, g35, g36, g37, g38, g39, g40, g41, g42, g43, g44, g45, g46, g47, g48, g49, g50, g51, g52, g53, g54, g55, g56, g57, g58, g59, g60, g61, g62, g63, g64, g65, g66, g67, g68, g69, g70, g71, g72, g73, g74, g75, g76, g77, g78, g79, g80, g81, g82, g83, g84, g85, g86, g87, g88, g89, g90, g91, g92, Z, Z, Z, Z, Z, Z, Z, Z, Z, Z, Z, Z, Z, Z, Z, Z, Z, Z, Z, Z, Z, Z, Z, Z, Z, Z], []⟩ ∧ St no w0 w [Box b4 (Ttarnlaw13_Act.cs p3).toArray 45, Own fTNode 33 s13 t12, Own fTNode 33 s22 l21, Own fTNode 33 s25 l24] ∧ K93 x19 l21 l24 x26 = some r) ?_ ?_
  · skip
    refine WP.seq ?_
    refine WP.region ?_
    refine WPI.run 1 ⟨#[s1, Ttarnlaw13_Act.val p3, Z, vp b4 0, vn, vb false, vb t8, s13, vi 1, vn, vn, vi 0, s1, vb t8, s1, s13, vp b4 0, Z, Z, Z, Z, Z, Z, Z, Z, Z, Z, Z, Z, Z, Z, Z, Z, Z, Z, Z, Z, Z, Z, Z, Z, Z, Z, Z, Z, Z, Z, Z, Z, Z, Z, Z, Z, Z, Z, Z, Z, Z, Z, Z, Z, Z, Z, Z, Z, Z, Z, Z, Z, Z, Z, Z, Z, Z, Z, Z, Z, Z, Z, Z, Z, Z, Z, Z, Z, Z, Z, Z, Z, Z, Z, Z, Z, Z, Z, Z, Z, Z, Z, Z, Z, Z, Z, Z, Z, Z, Z, Z], []⟩ w16 (fun K => by kernel_rfl) ?_
    refine WPI.value (v := vi p3.Do) rfl (by kernel_rfl) (ev_loadBox H18 1 rfl 3 (.tmp 16) 0 (vi p3.Do) rfl (by kernel_rfl) (by kernel_rfl)) ?_
    obtain ⟨t94, ht94, h⟩ := bd_some h
    refine WPI.run 0 ⟨#[s1, Ttarnlaw13_Act.val p3, Z, vp b4 0, vn, vb false, vb t8, s13, vi 1, vn, vn, vi 0, s1, vb t8, s1, s13, vp b4 0, vi p3.Do, Z, Z, Z, Z, Z, Z, Z, Z, Z, Z, Z, Z, Z, Z, Z, Z, Z, Z, Z, Z, Z, Z, Z, Z, Z, Z, Z, Z, Z, Z, Z, Z, Z, Z, Z, Z, Z, Z, Z, Z, Z, Z, Z, Z, Z, Z, Z, Z, Z, Z, Z, Z, Z, Z, Z, Z, Z, Z, Z, Z, Z, Z, Z, Z, Z, Z, Z, Z, Z, Z, Z, Z, Z, Z, Z, Z, Z, Z, Z, Z, Z, Z, Z, Z, Z, Z, Z, Z, Z, Z], []⟩ w16 (fun K => by kernel_rfl) ?_
    refine WPI.op rfl (Op1.call (by kernel_rfl) (by kernel_rfl) (g_tarnlaw0_Within_w fuel p3.Do 5 t94 ht94 _) ?_)
    rintro _ w95 ⟨rfl, Hc96⟩
    have H97 := St.call0' H18 Hc96
    clear H18 Hc96
    refine WPI.run 0 ⟨#[s1, Ttarnlaw13_Act.val p3, Z, vp b4 0, vn, vb false, vb t8, s13, vi 1, vn, vn, vi 0, s1, vb t8, s1, s13, vp b4 0, vi p3.Do, vi t94, Z, Z, Z, Z, Z, Z, Z, Z, Z, Z, Z, Z, Z, Z, Z, Z, Z, Z, Z, Z, Z, Z, Z, Z, Z, Z, Z, Z, Z, Z, Z, Z, Z, Z, Z, Z, Z, Z, Z, Z, Z, Z, Z, Z, Z, Z, Z, Z, Z, Z, Z, Z, Z, Z, Z, Z, Z, Z, Z, Z, Z, Z, Z, Z, Z, Z, Z, Z, Z, Z, Z, Z, Z, Z, Z, Z, Z, Z, Z, Z, Z, Z, Z, Z, Z, Z, Z, Z, Z], []⟩ w95 (fun K => by kernel_rfl) ?_
    refine WPI.done rfl ?_
    refine then_n ?_
    obtain ⟨K169, hK169, h⟩ := jn_some h
    refine WP.blockJ (fun a w => ∃ (x98 : Int) (l100 : List TNode) (l103 : List TNode) (x105 : Int) (s101 : Value) (s104 : Value) (g106 : Value) (g107 : Value) (g108 : Value) (g109 : Value) (g110 : Value) (g111 : Value) (g112 : Value) (g113 : Value) (g114 : Value) (g115 : Value) (g116 : Value) (g117 : Value) (g118 : Value) (g119 : Value) (g120 : Value) (g121 : Value) (g122 : Value) (g123 : Value) (g124 : Value) (g125 : Value) (g126 : Value) (g127 : Value) (g128 : Value) (g129 : Value) (g130 : Value) (g131 : Value) (g132 : Value) (g133 : Value) (g134 : Value) (g135 : Value) (g136 : Value) (g137 : Value) (g138 : Value) (g139 : Value) (g140 : Value) (g141 : Value) (g142 : Value) (g143 : Value) (g144 : Value) (g145 : Value) (g146 : Value) (g147 : Value) (g148 : Value) (g149 : Value) (g150 : Value) (g151 : Value) (g152 : Value) (g153 : Value) (g154 : Value) (g155 : Value) (g156 : Value) (g157 : Value) (g158 : Value) (g159 : Value) (g160 : Value) (g161 : Value) (g162 : Value) (g163 : Value) (g164 : Value) (g165 : Value) (g166 : Value) (g167 : Value) (g168 : Value), a = ⟨#[s1, Ttarnlaw13_Act.val p3, Z, vp b4 0, vn, vb false, vb t8, s13, vi x98, s101, s104, vi x105, s1, vb t8, s1, s13, vp b4 0, vi p3.Do, vi t94, g106, g107, g108, g109, g110, g111, g112, g113, g114, g115, g116, g117, g118, g119, g120, g121, g122, g123, g124, g125, g126, g127, g128, g129, g130, g131, g132, g133, g134, g135, g136, g137, g138, g139, g140, g141, g142, g143, g144, g145, g146, g147, g148, g149, g150, g151, g152, g153, g154, g155, g156, g157, g158, g159, g160, g161, g162, g163, g164, g165, g166, g167, g168, Z, Z, Z, Z, Z, Z, Z, Z, Z, Z, Z, Z, Z, Z, Z, Z, Z, Z, Z, Z, Z, Z, Z, Z, Z, Z], []⟩ ∧ St no w0 w [Box b4 (Ttarnlaw13_Act.cs p3).toArray 45, Own fTNode 33 s13 t12, Own fTNode 33 s101 l100, Own fTNode 33 s104 l103] ∧ K169 x98 l100 l103 x105 = some r) ?_ ?_
    · skip
      obtain ⟨K173, hK173, h⟩ := jn_some h
      refine WP.seqJ (fun a w => ∃ (c170 : Bool) (g171 : Value) (g172 : Value), a = ⟨#[s1, Ttarnlaw13_Act.val p3, Z, vp b4 0, vn, vb false, vb t8, s13, vi 1, vn, vn, vi 0, s1, vb t8, s1, s13, vp b4 0, vi p3.Do, vi t94, Z, Z, Z, Z, Z, Z, Z, Z, Z, Z, Z, Z, Z, Z, Z, Z, Z, vb c170, g171, g172, Z, Z, Z, Z, Z, Z, Z, Z, Z, Z, Z, Z, Z, Z, Z, Z, Z, Z, Z, Z, Z, Z, Z, Z, Z, Z, Z, Z, Z, Z, Z, Z, Z, Z, Z, Z, Z, Z, Z, Z, Z, Z, Z, Z, Z, Z, Z, Z, Z, Z, Z, Z, Z, Z, Z, Z, Z, Z, Z, Z, Z, Z, Z, Z, Z, Z, Z, Z, Z], []⟩ ∧ St no w0 w [Box b4 (Ttarnlaw13_Act.cs p3).toArray 45, Own fTNode 33 s13 t12] ∧ K173 c170 = some r) ?_ ?_
      · skip
        refine WP.seq ?_
        refine WP.region ?_
        obtain ⟨c174, hc174, h⟩ := lt_some h
        refine WPI.run 2 ⟨#[s1, Ttarnlaw13_Act.val p3, Z, vp b4 0, vn, vb false, vb t8, s13, vi 1, vn, vn, vi 0, s1, vb t8, s1, s13, vp b4 0, vi p3.Do, vi t94, Z, Z, Z, Z, Z, Z, Z, Z, Z, Z, Z, Z, Z, Z, Z, Z, Z, vb c174, vb c174, Z, Z, Z, Z, Z, Z, Z, Z, Z, Z, Z, Z, Z, Z, Z, Z, Z, Z, Z, Z, Z, Z, Z, Z, Z, Z, Z, Z, Z, Z, Z, Z, Z, Z, Z, Z, Z, Z, Z, Z, Z, Z, Z, Z, Z, Z, Z, Z, Z, Z, Z, Z, Z, Z, Z, Z, Z, Z, Z, Z, Z, Z, Z, Z, Z, Z, Z, Z, Z, Z], []⟩ w95 (fun K => by subst hc174; kernel_rfl) ?_
        refine WPI.done rfl ?_
        refine then_n ?_
        cases c174 with
        | false =>
          replace h := br_f h
          refine WP.condF (by kernel_rfl) ?_
          refine WP.region ?_
          obtain ⟨c175, hc175, h⟩ := lt_some h
          refine WPI.run 2 ⟨#[s1, Ttarnlaw13_Act.val p3, Z, vp b4 0, vn, vb false, vb t8, s13, vi 1, vn, vn, vi 0, s1, vb t8, s1, s13, vp b4 0, vi p3.Do, vi t94, Z, Z, Z, Z, Z, Z, Z, Z, Z, Z, Z, Z, Z, Z, Z, Z, Z, vb c175, vb false, vb c175, Z, Z, Z, Z, Z, Z, Z, Z, Z, Z, Z, Z, Z, Z, Z, Z, Z, Z, Z, Z, Z, Z, Z, Z, Z, Z, Z, Z, Z, Z, Z, Z, Z, Z, Z, Z, Z, Z, Z, Z, Z, Z, Z, Z, Z, Z, Z, Z, Z, Z, Z, Z, Z, Z, Z, Z, Z, Z, Z, Z, Z, Z, Z, Z, Z, Z, Z, Z, Z], []⟩ w95 (fun K => by subst hc175; kernel_rfl) ?_
          refine WPI.done rfl ?_
          exact then_n ⟨c175, _, _, rfl, St.sel H97 [1, 0] (by decide) rfl, h⟩
        | true =>
          replace h := br_t h
          refine WP.condT (by kernel_rfl) ?_
          refine WP.skip ?_
          exact then_n ⟨true, _, _, rfl, St.sel H97 [1, 0] (by decide) rfl, h⟩
      · rintro a w ⟨c170, g171, g172, rfl, H, h⟩
        subst hK173
        obtain ⟨w176, rfl⟩ : ∃ x, x = w := ⟨_, rfl⟩
        have H177 := H; clear H
        have sf178 := Own.isSl (St.get H177 1 rfl)
        cases c170 with
        | false =>
          replace h := br_f h
          refine WP.condF (by kernel_rfl) ?_
          obtain ⟨K182, hK182, h⟩ := jn_some h
          refine WP.seqJ (fun a w => ∃ (c179 : Bool) (g180 : Value) (g181 : Value), a = ⟨#[s1, Ttarnlaw13_Act.val p3, Z, vp b4 0, vn, vb false, vb t8, s13, vi 1, vn, vn, vi 0, s1, vb t8, s1, s13, vp b4 0, vi p3.Do, vi t94, Z, Z, Z, Z, Z, Z, Z, Z, Z, Z, Z, Z, Z, Z, Z, Z, Z, vb false, g171, g172, Z, Z, Z, Z, Z, Z, Z, Z, Z, Z, Z, Z, Z, Z, Z, Z, Z, Z, Z, Z, vb c179, g180, g181, Z, Z, Z, Z, Z, Z, Z, Z, Z, Z, Z, Z, Z, Z, Z, Z, Z, Z, Z, Z, Z, Z, Z, Z, Z, Z, Z, Z, Z, Z, Z, Z, Z, Z, Z, Z, Z, Z, Z, Z, Z, Z, Z, Z, Z, Z], []⟩ ∧ St no w0 w [Box b4 (Ttarnlaw13_Act.cs p3).toArray 45, Own fTNode 33 s13 t12] ∧ K182 c179 = some r) ?_ ?_
          · skip
            refine WP.seq ?_
            refine WP.region ?_
            obtain ⟨c183, hc183, h⟩ := lt_some h
            refine WPI.run 2 ⟨#[s1, Ttarnlaw13_Act.val p3, Z, vp b4 0, vn, vb false, vb t8, s13, vi 1, vn, vn, vi 0, s1, vb t8, s1, s13, vp b4 0, vi p3.Do, vi t94, Z, Z, Z, Z, Z, Z, Z, Z, Z, Z, Z, Z, Z, Z, Z, Z, Z, vb false, g171, g172, Z, Z, Z, Z, Z, Z, Z, Z, Z, Z, Z, Z, Z, Z, Z, Z, Z, Z, Z, Z, vb c183, vb c183, Z, Z, Z, Z, Z, Z, Z, Z, Z, Z, Z, Z, Z, Z, Z, Z, Z, Z, Z, Z, Z, Z, Z, Z, Z, Z, Z, Z, Z, Z, Z, Z, Z, Z, Z, Z, Z, Z, Z, Z, Z, Z, Z, Z, Z, Z, Z], []⟩ w176 (fun K => by subst hc183; kernel_rfl) ?_
            refine WPI.done rfl ?_
            refine then_n ?_
            cases c183 with
            | false =>
              replace h := br_f h
              refine WP.condF (by kernel_rfl) ?_
              refine WP.region ?_
              obtain ⟨c184, hc184, h⟩ := lt_some h
              refine WPI.run 2 ⟨#[s1, Ttarnlaw13_Act.val p3, Z, vp b4 0, vn, vb false, vb t8, s13, vi 1, vn, vn, vi 0, s1, vb t8, s1, s13, vp b4 0, vi p3.Do, vi t94, Z, Z, Z, Z, Z, Z, Z, Z, Z, Z, Z, Z, Z, Z, Z, Z, Z, vb false, g171, g172, Z, Z, Z, Z, Z, Z, Z, Z, Z, Z, Z, Z, Z, Z, Z, Z, Z, Z, Z, Z, vb c184, vb false, vb c184, Z, Z, Z, Z, Z, Z, Z, Z, Z, Z, Z, Z, Z, Z, Z, Z, Z, Z, Z, Z, Z, Z, Z, Z, Z, Z, Z, Z, Z, Z, Z, Z, Z, Z, Z, Z, Z, Z, Z, Z, Z, Z, Z, Z, Z, Z], []⟩ w176 (fun K => by subst hc184; kernel_rfl) ?_
              refine WPI.done rfl ?_
              exact then_n ⟨c184, _, _, rfl, St.sel H177 [0, 1] (by decide) rfl, h⟩
            | true =>
              replace h := br_t h
              refine WP.condT (by kernel_rfl) ?_
              refine WP.skip ?_
              exact then_n ⟨true, _, _, rfl, St.sel H177 [0, 1] (by decide) rfl, h⟩
          · rintro a w ⟨c179, g180, g181, rfl, H, h⟩
            subst hK182
            obtain ⟨w185, rfl⟩ : ∃ x, x = w := ⟨_, rfl⟩
            have H186 := H; clear H
            have sf187 := Own.isSl (St.get H186 1 rfl)
            cases c179 with
            | false =>
              replace h := br_f h
              refine WP.condF (by kernel_rfl) ?_
              obtain ⟨K201, hK201, h⟩ := jn_some h
              refine WP.seqJ (fun a w => ∃ (x188 : Int) (l190 : List TNode) (s191 : Value) (g192 : Value) (g193 : Value) (g194 : Value) (g195 : Value) (g196 : Value) (g197 : Value) (g198 : Value) (g199 : Value) (g200 : Value), a = ⟨#[s1, Ttarnlaw13_Act.val p3, Z, vp b4 0, vn, vb false, vb t8, s13, vi x188, s191, vn, vi 0, s1, vb t8, s1, s13, vp b4 0, vi p3.Do, vi t94, g192, g193, g194, g195, g196, g197, g198, g199, g200, Z, Z, Z, Z, Z, Z, Z, Z, vb false, g171, g172, Z, Z, Z, Z, Z, Z, Z, Z, Z, Z, Z, Z, Z, Z, Z, Z, Z, Z, Z, Z, vb false, g180, g181, Z, Z, Z, Z, Z, Z, Z, Z, Z, Z, Z, Z, Z, Z, Z, Z, Z, Z, Z, Z, Z, Z, Z, Z, Z, Z, Z, Z, Z, Z, Z, Z, Z, Z, Z, Z, Z, Z, Z, Z, Z, Z, Z, Z, Z, Z], []⟩ ∧ St no w0 w [Box b4 (Ttarnlaw13_Act.cs p3).toArray 45, Own fTNode 33 s13 t12, Own fTNode 33 s191 l190] ∧ K201 x188 l190 = some r) ?_ ?_
              · skip
                refine WP.seq ?_
                refine WP.region ?_
                refine WPI.run 1 ⟨#[s1, Ttarnlaw13_Act.val p3, Z, vp b4 0, vn, vb false, vb t8, s13, vi 1, vn, vn, vi 0, s1, vb t8, s1, s13, vp b4 0, vi p3.Do, vi t94, vb t8, Z, Z, Z, Z, Z, Z, Z, Z, Z, Z, Z, Z, Z, Z, Z, Z, vb false, g171, g172, Z, Z, Z, Z, Z, Z, Z, Z, Z, Z, Z, Z, Z, Z, Z, Z, Z, Z, Z, Z, vb false, g180, g181, Z, Z, Z, Z, Z, Z, Z, Z, Z, Z, Z, Z, Z, Z, Z, Z, Z, Z, Z, Z, Z, Z, Z, Z, Z, Z, Z, Z, Z, Z, Z, Z, Z, Z, Z, Z, Z, Z, Z, Z, Z, Z, Z, Z, Z, Z], []⟩ w185 (fun K => by kernel_rfl) ?_
                refine WPI.done rfl ?_
                refine then_n ?_
                cases t8 with
                | false =>
                  replace h := br_f h
                  refine WP.condF (by kernel_rfl) ?_
                  refine WP.skip ?_
                  exact then_n ⟨1, ([]), vn, _, _, _, _, _, _, _, _, _, rfl, St.sel (St.nil H186 fTNode 33) [1, 2, 0] (by decide) rfl, h⟩
                | true =>
                  replace h := br_t h
                  refine WP.condT (by kernel_rfl) ?_
                  refine WP.region ?_
                  refine WPI.run 3 ⟨#[s1, Ttarnlaw13_Act.val p3, Z, vp b4 0, vn, vb false, vb true, s13, vi 1, vn, vn, vi 0, s1, vb true, s1, s13, vp b4 0, vi p3.Do, vi t94, vb true, Z, s1, vp b4 1, vp b4 1, Z, Z, Z, Z, Z, Z, Z, Z, Z, Z, Z, Z, vb false, g171, g172, Z, Z, Z, Z, Z, Z, Z, Z, Z, Z, Z, Z, Z, Z, Z, Z, Z, Z, Z, Z, vb false, g180, g181, Z, Z, Z, Z, Z, Z, Z, Z, Z, Z, Z, Z, Z, Z, Z, Z, Z, Z, Z, Z, Z, Z, Z, Z, Z, Z, Z, Z, Z, Z, Z, Z, Z, Z, Z, Z, Z, Z, Z, Z, Z, Z, Z, Z, Z, Z], []⟩ w185 (fun K => by kernel_rfl) ?_
                  refine WPI.value (v := vi p3.N.Acct) rfl (by kernel_rfl) (ev_loadBox H186 0 rfl 3 (.tmp 23) 1 (vi p3.N.Acct) rfl (by kernel_rfl) (by kernel_rfl)) ?_
                  obtain ⟨t202, ht202, h⟩ := bd_some h
                  refine WPI.run 0 ⟨#[s1, Ttarnlaw13_Act.val p3, Z, vp b4 0, vn, vb false, vb true, s13, vi 1, vn, vn, vi 0, s1, vb true, s1, s13, vp b4 0, vi p3.Do, vi t94, vb true, Z, s1, vp b4 1, vp b4 1, vi p3.N.Acct, Z, Z, Z, Z, Z, Z, Z, Z, Z, Z, Z, vb false, g171, g172, Z, Z, Z, Z, Z, Z, Z, Z, Z, Z, Z, Z, Z, Z, Z, Z, Z, Z, Z, Z, vb false, g180, g181, Z, Z, Z, Z, Z, Z, Z, Z, Z, Z, Z, Z, Z, Z, Z, Z, Z, Z, Z, Z, Z, Z, Z, Z, Z, Z, Z, Z, Z, Z, Z, Z, Z, Z, Z, Z, Z, Z, Z, Z, Z, Z, Z, Z, Z, Z], []⟩ w185 (fun K => by kernel_rfl) ?_
                  refine WPI.op rfl (Op1.call (by kernel_rfl) (by kernel_rfl) (g_tarnref12_Drop_w fuel s1 l2 p3.N.Acct t202 ht202 _ (Rd.arg0 hs1 H186)) ?_)
                  rintro _ w206 ⟨s203, rfl, Hc207⟩
                  have H208 := St.call0 H186 Hc207
                  clear H186 Hc207
                  have sf205 := Own.isSl (St.get H208 0 rfl)
                  refine WPI.run 5 ⟨#[s1, Ttarnlaw13_Act.val p3, Z, vp b4 0, vn, vb false, vb true, s13, vi t202.2, s203, vn, vi 0, s1, vb true, s1, s13, vp b4 0, vi p3.Do, vi t94, vb true, .tuple #[s203, vi t202.2], s1, vp b4 1, vp b4 1, vi p3.N.Acct, .tuple #[s203, vi t202.2], s203, vi t202.2, Z, Z, Z, Z, Z, Z, Z, Z, vb false, g171, g172, Z, Z, Z, Z, Z, Z, Z, Z, Z, Z, Z, Z, Z, Z, Z, Z, Z, Z, Z, Z, vb false, g180, g181, Z, Z, Z, Z, Z, Z, Z, Z, Z, Z, Z, Z, Z, Z, Z, Z, Z, Z, Z, Z, Z, Z, Z, Z, Z, Z, Z, Z, Z, Z, Z, Z, Z, Z, Z, Z, Z, Z, Z, Z, Z, Z, Z, Z, Z, Z], []⟩ w206 (fun K => by kernel_rfl) ?_
                  refine WPI.done rfl ?_
                  exact then_n ⟨t202.2, t202.1, s203, _, _, _, _, _, _, _, _, _, rfl, St.sel H208 [1, 2, 0] (by decide) rfl, h⟩
              · rintro a w ⟨x188, l190, s191, g192, g193, g194, g195, g196, g197, g198, g199, g200, rfl, H, h⟩
                subst hK201
                obtain ⟨w209, rfl⟩ : ∃ x, x = w := ⟨_, rfl⟩
                have H210 := H; clear H
                have sf211 := Own.isSl (St.get H210 1 rfl)
                have sf212 := Own.isSl (St.get H210 2 rfl)
                refine WP.region ?_
                refine WPI.run 3 ⟨#[s1, Ttarnlaw13_Act.val p3, Z, vp b4 0, vn, vb false, vb t8, s13, vi x188, s191, vn, vi 0, s1, vb t8, s1, s13, vp b4 0, vi p3.Do, vi t94, g192, g193, g194, g195, g196, g197, g198, g199, g200, Z, s13, vp b4 1, vp b4 1, Z, Z, Z, Z, vb false, g171, g172, Z, Z, Z, Z, Z, Z, Z, Z, Z, Z, Z, Z, Z, Z, Z, Z, Z, Z, Z, Z, vb false, g180, g181, Z, Z, Z, Z, Z, Z, Z, Z, Z, Z, Z, Z, Z, Z, Z, Z, Z, Z, Z, Z, Z, Z, Z, Z, Z, Z, Z, Z, Z, Z, Z, Z, Z, Z, Z, Z, Z, Z, Z, Z, Z, Z, Z, Z, Z, Z], []⟩ w209 (fun K => by kernel_rfl) ?_
                refine WPI.value (v := vi p3.N.Acct) rfl (by kernel_rfl) (ev_loadBox H210 0 rfl 3 (.tmp 31) 1 (vi p3.N.Acct) rfl (by kernel_rfl) (by kernel_rfl)) ?_
                obtain ⟨t213, ht213, h⟩ := bd_some h
                refine WPI.run 0 ⟨#[s1, Ttarnlaw13_Act.val p3, Z, vp b4 0, vn, vb false, vb t8, s13, vi x188, s191, vn, vi 0, s1, vb t8, s1, s13, vp b4 0, vi p3.Do, vi t94, g192, g193, g194, g195, g196, g197, g198, g199, g200, Z, s13, vp b4 1, vp b4 1, vi p3.N.Acct, Z, Z, Z, vb false, g171, g172, Z, Z, Z, Z, Z, Z, Z, Z, Z, Z, Z, Z, Z, Z, Z, Z, Z, Z, Z, Z, vb false, g180, g181, Z, Z, Z, Z, Z, Z, Z, Z, Z, Z, Z, Z, Z, Z, Z, Z, Z, Z, Z, Z, Z, Z, Z, Z, Z, Z, Z, Z, Z, Z, Z, Z, Z, Z, Z, Z, Z, Z, Z, Z, Z, Z, Z, Z, Z, Z], []⟩ w209 (fun K => by kernel_rfl) ?_
                refine WPI.op rfl (Op1.call (by kernel_rfl) (by kernel_rfl) (g_heap_Drop_w fuel s13 t12 p3.N.Acct t213 ht213 _ (St.rd H210 1 rfl)) ?_)
                rintro _ w217 ⟨s214, rfl, Hc218⟩
                have H219 := St.call0 H210 Hc218
                clear H210 Hc218
                have sf216 := Own.isSl (St.get H219 0 rfl)
                refine WPI.run 5 ⟨#[s1, Ttarnlaw13_Act.val p3, Z, vp b4 0, vn, vb false, vb t8, s13, vi x188, s191, s214, vi t213.2, s1, vb t8, s1, s13, vp b4 0, vi p3.Do, vi t94, g192, g193, g194, g195, g196, g197, g198, g199, g200, .tuple #[s214, vi t213.2], s13, vp b4 1, vp b4 1, vi p3.N.Acct, .tuple #[s214, vi t213.2], s214, vi t213.2, vb false, g171, g172, Z, Z, Z, Z, Z, Z, Z, Z, Z, Z, Z, Z, Z, Z, Z, Z, Z, Z, Z, Z, vb false, g180, g181, Z, Z, Z, Z, Z, Z, Z, Z, Z, Z, Z, Z, Z, Z, Z, Z, Z, Z, Z, Z, Z, Z, Z, Z, Z, Z, Z, Z, Z, Z, Z, Z, Z, Z, Z, Z, Z, Z, Z, Z, Z, Z, Z, Z, Z, Z], []⟩ w217 (fun K => by kernel_rfl) ?_
                refine WPI.done rfl ?_
                exact inb_n (then_n ⟨x188, l190, t213.1, t213.2, s191, s214, _, _, _, _, _, _, _, _, _, _, _, _, _, _, _, _, _, _, _, _, _, _, _, _, _, _, _, _, _, _, _, _, _, _, _, _, _, _, _, _, _, _, _, _, _, _, _, _, _, _, _, _, _, _, _, _, _, _, _, _, _, _, _, rfl, St.sel H219 [1, 2, 3, 0] (by decide) rfl, h⟩)
            | true =>
              replace h := br_t h
              refine WP.condT (by kernel_rfl) ?_
              obtain ⟨K237, hK237, h⟩ := jn_some h
              refine WP.seqJ (fun a w => ∃ (x220 : Int) (l222 : List TNode) (s223 : Value) (g224 : Value) (g225 : Value) (g226 : Value) (g227 : Value) (g228 : Value) (g229 : Value) (g230 : Value) (g231 : Value) (g232 : Value) (g233 : Value) (g234 : Value) (g235 : Value) (g236 : Value), a = ⟨#[s1, Ttarnlaw13_Act.val p3, Z, vp b4 0, vn, vb false, vb t8, s13, vi x220, s223, vn, vi 0, s1, vb t8, s1, s13, vp b4 0, vi p3.Do, vi t94, Z, Z, Z, Z, Z, Z, Z, Z, Z, Z, Z, Z, Z, Z, Z, Z, Z, vb false, g171, g172, Z, Z, Z, Z, Z, Z, Z, Z, Z, Z, Z, Z, Z, Z, Z, Z, Z, Z, Z, Z, vb true, g180, g181, g224, g225, g226, g227, g228, g229, g230, g231, g232, g233, g234, g235, g236, Z, Z, Z, Z, Z, Z, Z, Z, Z, Z, Z, Z, Z, Z, Z, Z, Z, Z, Z, Z, Z, Z, Z, Z, Z, Z, Z, Z, Z, Z, Z, Z, Z], []⟩ ∧ St no w0 w [Box b4 (Ttarnlaw13_Act.cs p3).toArray 45, Own fTNode 33 s13 t12, Own fTNode 33 s223 l222] ∧ K237 x220 l222 = some r) ?_ ?_
              · skip
                refine WP.seq ?_
                obtain ⟨K244, hK244, h⟩ := jn_some h
                refine WP.onlyN (fun a w => ∃ (c243 : Bool) (g238 : Value) (g239 : Value) (g240 : Value) (g241 : Value) (g242 : Value), a = ⟨#[s1, Ttarnlaw13_Act.val p3, Z, vp b4 0, vn, vb false, vb t8, s13, vi 1, vn, vn, vi 0, s1, vb t8, s1, s13, vp b4 0, vi p3.Do, vi t94, Z, Z, Z, Z, Z, Z, Z, Z, Z, Z, Z, Z, Z, Z, Z, Z, Z, vb false, g171, g172, Z, Z, Z, Z, Z, Z, Z, Z, Z, Z, Z, Z, Z, Z, Z, Z, Z, Z, Z, Z, vb true, g180, g181, g238, g239, g240, g241, g242, vb c243, Z, Z, Z, Z, Z, Z, Z, Z, Z, Z, Z, Z, Z, Z, Z, Z, Z, Z, Z, Z, Z, Z, Z, Z, Z, Z, Z, Z, Z, Z, Z, Z, Z, Z, Z, Z, Z, Z, Z, Z], []⟩ ∧ St no w0 w [Box b4 (Ttarnlaw13_Act.cs p3).toArray 45, Own fTNode 33 s13 t12] ∧ K244 c243 = some r) ?_ ?_
                · skip
                  refine WP.region ?_
                  refine WPI.run 2 ⟨#[s1, Ttarnlaw13_Act.val p3, Z, vp b4 0, vn, vb false, vb t8, s13, vi 1, vn, vn, vi 0, s1, vb t8, s1, s13, vp b4 0, vi p3.Do, vi t94, Z, Z, Z, Z, Z, Z, Z, Z, Z, Z, Z, Z, Z, Z, Z, Z, Z, vb false, g171, g172, Z, Z, Z, Z, Z, Z, Z, Z, Z, Z, Z, Z, Z, Z, Z, Z, Z, Z, Z, Z, vb true, g180, g181, vb t8, vb t8, Z, Z, Z, Z, Z, Z, Z, Z, Z, Z, Z, Z, Z, Z, Z, Z, Z, Z, Z, Z, Z, Z, Z, Z, Z, Z, Z, Z, Z, Z, Z, Z, Z, Z, Z, Z, Z, Z, Z, Z, Z, Z, Z, Z], []⟩ w185 (fun K => by kernel_rfl) ?_
                  cases t8 with
                  | false =>
                    replace h := br_f h
                    refine WPI.run 4 ⟨#[s1, Ttarnlaw13_Act.val p3, Z, vp b4 0, vn, vb false, vb false, s13, vi 1, vn, vn, vi 0, s1, vb false, s1, s13, vp b4 0, vi p3.Do, vi t94, Z, Z, Z, Z, Z, Z, Z, Z, Z, Z, Z, Z, Z, Z, Z, Z, Z, vb false, g171, g172, Z, Z, Z, Z, Z, Z, Z, Z, Z, Z, Z, Z, Z, Z, Z, Z, Z, Z, Z, Z, vb true, g180, g181, vb false, vb false, Z, Z, Z, vb false, Z, Z, Z, Z, Z, Z, Z, Z, Z, Z, Z, Z, Z, Z, Z, Z, Z, Z, Z, Z, Z, Z, Z, Z, Z, Z, Z, Z, Z, Z, Z, Z, Z, Z, Z, Z, Z, Z, Z, Z], []⟩ w185 (fun K => by kernel_rfl) ?_
                    refine WPI.done rfl ?_
                    exact ⟨false, _, _, _, _, _, rfl, St.sel H186 [0, 1] (by decide) rfl, h⟩
                  | true =>
                    replace h := br_t h
                    refine WPI.run 1 ⟨#[s1, Ttarnlaw13_Act.val p3, Z, vp b4 0, vn, vb false, vb true, s13, vi 1, vn, vn, vi 0, s1, vb true, s1, s13, vp b4 0, vi p3.Do, vi t94, Z, Z, Z, Z, Z, Z, Z, Z, Z, Z, Z, Z, Z, Z, Z, Z, Z, vb false, g171, g172, Z, Z, Z, Z, Z, Z, Z, Z, Z, Z, Z, Z, Z, Z, Z, Z, Z, Z, Z, Z, vb true, g180, g181, vb true, vb true, vp b4 1, Z, Z, Z, Z, Z, Z, Z, Z, Z, Z, Z, Z, Z, Z, Z, Z, Z, Z, Z, Z, Z, Z, Z, Z, Z, Z, Z, Z, Z, Z, Z, Z, Z, Z, Z, Z, Z, Z, Z, Z, Z, Z, Z], []⟩ w185 (fun K => by kernel_rfl) ?_
                    refine WPI.value (v := TNode.val p3.N) rfl (by kernel_rfl) (ev_loadBox H186 0 rfl 33 (.tmp 64) 1 (TNode.val p3.N) rfl (by kernel_rfl) (by kernel_rfl)) ?_
                    obtain ⟨t245, ht245, h⟩ := bd_some h
                    refine WPI.run 0 ⟨#[s1, Ttarnlaw13_Act.val p3, Z, vp b4 0, vn, vb false, vb true, s13, vi 1, vn, vn, vi 0, s1, vb true, s1, s13, vp b4 0, vi p3.Do, vi t94, Z, Z, Z, Z, Z, Z, Z, Z, Z, Z, Z, Z, Z, Z, Z, Z, Z, vb false, g171, g172, Z, Z, Z, Z, Z, Z, Z, Z, Z, Z, Z, Z, Z, Z, Z, Z, Z, Z, Z, Z, vb true, g180, g181, vb true, vb true, vp b4 1, TNode.val p3.N, Z, Z, Z, Z, Z, Z, Z, Z, Z, Z, Z, Z, Z, Z, Z, Z, Z, Z, Z, Z, Z, Z, Z, Z, Z, Z, Z, Z, Z, Z, Z, Z, Z, Z, Z, Z, Z, Z, Z, Z, Z, Z], []⟩ w185 (fun K => by kernel_rfl) ?_
                    refine WPI.op rfl (Op1.call (by kernel_rfl) (by kernel_rfl) (g_tarnref12_Node_w fuel p3.N t245 ht245 _) ?_)
                    rintro _ w246 ⟨rfl, Hc247⟩
                    have H248 := St.call0' H186 Hc247
                    clear H186 Hc247
                    refine WPI.run 1 ⟨#[s1, Ttarnlaw13_Act.val p3, Z, vp b4 0, vn, vb false, vb true, s13, vi 1, vn, vn, vi 0, s1, vb true, s1, s13, vp b4 0, vi p3.Do, vi t94, Z, Z, Z, Z, Z, Z, Z, Z, Z, Z, Z, Z, Z, Z, Z, Z, Z, vb false, g171, g172, Z, Z, Z, Z, Z, Z, Z, Z, Z, Z, Z, Z, Z, Z, Z, Z, Z, Z, Z, Z, vb true, g180, g181, vb true, vb true, vp b4 1, TNode.val p3.N, vb t245, vb t245, Z, Z, Z, Z, Z, Z, Z, Z, Z, Z, Z, Z, Z, Z, Z, Z, Z, Z, Z, Z, Z, Z, Z, Z, Z, Z, Z, Z, Z, Z, Z, Z, Z, Z, Z, Z, Z, Z, Z, Z], []⟩ w246 (fun K => by kernel_rfl) ?_
                    refine WPI.done rfl ?_
                    exact ⟨t245, _, _, _, _, _, rfl, St.sel H248 [0, 1] (by decide) rfl, h⟩
                · rintro a w ⟨c243, g238, g239, g240, g241, g242, rfl, H, h⟩
                  subst hK244
                  obtain ⟨w249, rfl⟩ : ∃ x, x = w := ⟨_, rfl⟩
                  have H250 := H; clear H
                  have sf251 := Own.isSl (St.get H250 1 rfl)
                  refine then_n ?_
                  cases c243 with
                  | false =>
                    replace h := br_f h
                    refine WP.condF (by kernel_rfl) ?_
                    refine WP.skip ?_
                    exact then_n ⟨1, ([]), vn, _, _, _, _, _, _, _, _, _, _, _, _, _, rfl, St.sel (St.nil H250 fTNode 33) [1, 2, 0] (by decide) rfl, h⟩
                  | true =>
                    replace h := br_t h
                    refine WP.condT (by kernel_rfl) ?_
                    refine WP.region ?_
                    refine WPI.run 2 ⟨#[s1, Ttarnlaw13_Act.val p3, Z, vp b4 0, vn, vb false, vb t8, s13, vi 1, vn, vn, vi 0, s1, vb t8, s1, s13, vp b4 0, vi p3.Do, vi t94, Z, Z, Z, Z, Z, Z, Z, Z, Z, Z, Z, Z, Z, Z, Z, Z, Z, vb false, g171, g172, Z, Z, Z, Z, Z, Z, Z, Z, Z, Z, Z, Z, Z, Z, Z, Z, Z, Z, Z, Z, vb true, g180, g181, g238, g239, g240, g241, g242, vb true, Z, s1, vp b4 1, Z, Z, Z, Z, Z, Z, Z, Z, Z, Z, Z, Z, Z, Z, Z, Z, Z, Z, Z, Z, Z, Z, Z, Z, Z, Z, Z, Z, Z, Z, Z, Z, Z, Z, Z, Z, Z], []⟩ w249 (fun K => by kernel_rfl) ?_
                    refine WPI.value (v := TNode.val p3.N) rfl (by kernel_rfl) (ev_loadBox H250 0 rfl 33 (.tmp 70) 1 (TNode.val p3.N) rfl (by kernel_rfl) (by kernel_rfl)) ?_
                    obtain ⟨t252, ht252, h⟩ := bd_some h
                    refine WPI.run 0 ⟨#[s1, Ttarnlaw13_Act.val p3, Z, vp b4 0, vn, vb false, vb t8, s13, vi 1, vn, vn, vi 0, s1, vb t8, s1, s13, vp b4 0, vi p3.Do, vi t94, Z, Z, Z, Z, Z, Z, Z, Z, Z, Z, Z, Z, Z, Z, Z, Z, Z, vb false, g171, g172, Z, Z, Z, Z, Z, Z, Z, Z, Z, Z, Z, Z, Z, Z, Z, Z, Z, Z, Z, Z, vb true, g180, g181, g238, g239, g240, g241, g242, vb true, Z, s1, vp b4 1, TNode.val p3.N, Z, Z, Z, Z, Z, Z, Z, Z, Z, Z, Z, Z, Z, Z, Z, Z, Z, Z, Z, Z, Z, Z, Z, Z, Z, Z, Z, Z, Z, Z, Z, Z, Z, Z, Z, Z], []⟩ w249 (fun K => by kernel_rfl) ?_
                    refine WPI.op rfl (Op1.call (by kernel_rfl) (by kernel_rfl) (g_tarnref12_Set_w fuel s1 l2 p3.N t252 ht252 _ (Rd.arg0 hs1 H250)) ?_)
                    rintro _ w256 ⟨s253, rfl, Hc257⟩
                    have H258 := St.call0 H250 Hc257
                    clear H250 Hc257
                    have sf255 := Own.isSl (St.get H258 0 rfl)
                    refine WPI.run 5 ⟨#[s1, Ttarnlaw13_Act.val p3, Z, vp b4 0, vn, vb false, vb t8, s13, vi t252.2, s253, vn, vi 0, s1, vb t8, s1, s13, vp b4 0, vi p3.Do, vi t94, Z, Z, Z, Z, Z, Z, Z, Z, Z, Z, Z, Z, Z, Z, Z, Z, Z, vb false, g171, g172, Z, Z, Z, Z, Z, Z, Z, Z, Z, Z, Z, Z, Z, Z, Z, Z, Z, Z, Z, Z, vb true, g180, g181, g238, g239, g240, g241, g242, vb true, .tuple #[s253, vi t252.2], s1, vp b4 1, TNode.val p3.N, .tuple #[s253, vi t252.2], s253, vi t252.2, Z, Z, Z, Z, Z, Z, Z, Z, Z, Z, Z, Z, Z, Z, Z, Z, Z, Z, Z, Z, Z, Z, Z, Z, Z, Z, Z, Z, Z, Z, Z, Z, Z], []⟩ w256 (fun K => by kernel_rfl) ?_
                    refine WPI.done rfl ?_
                    exact then_n ⟨t252.2, t252.1, s253, _, _, _, _, _, _, _, _, _, _, _, _, _, rfl, St.sel H258 [1, 2, 0] (by decide) rfl, h⟩
              · rintro a w ⟨x220, l222, s223, g224, g225, g226, g227, g228, g229, g230, g231, g232, g233, g234, g235, g236, rfl, H, h⟩
                subst hK237
                obtain ⟨w259, rfl⟩ : ∃ x, x = w := ⟨_, rfl⟩
                have H260 := H; clear H
                have sf261 := Own.isSl (St.get H260 1 rfl)
                have sf262 := Own.isSl (St.get H260 2 rfl)
                refine WP.region ?_
                refine WPI.run 2 ⟨#[s1, Ttarnlaw13_Act.val p3, Z, vp b4 0, vn, vb false, vb t8, s13, vi x220, s223, vn, vi 0, s1, vb t8, s1, s13, vp b4 0, vi p3.Do, vi t94, Z, Z, Z, Z, Z, Z, Z, Z, Z, Z, Z, Z, Z, Z, Z, Z, Z, vb false, g171, g172, Z, Z, Z, Z, Z, Z, Z, Z, Z, Z, Z, Z, Z, Z, Z, Z, Z, Z, Z, Z, vb true, g180, g181, g224, g225, g226, g227, g228, g229, g230, g231, g232, g233, g234, g235, g236, Z, s13, vp b4 1, Z, Z, Z, Z, Z, Z, Z, Z, Z, Z, Z, Z, Z, Z, Z, Z, Z, Z, Z, Z, Z, Z, Z, Z, Z, Z, Z, Z, Z, Z], []⟩ w259 (fun K => by kernel_rfl) ?_
                refine WPI.value (v := TNode.val p3.N) rfl (by kernel_rfl) (ev_loadBox H260 0 rfl 33 (.tmp 77) 1 (TNode.val p3.N) rfl (by kernel_rfl) (by kernel_rfl)) ?_
                obtain ⟨t263, ht263, h⟩ := bd_some h
                refine WPI.run 0 ⟨#[s1, Ttarnlaw13_Act.val p3, Z, vp b4 0, vn, vb false, vb t8, s13, vi x220, s223, vn, vi 0, s1, vb t8, s1, s13, vp b4 0, vi p3.Do, vi t94, Z, Z, Z, Z, Z, Z, Z, Z, Z, Z, Z, Z, Z, Z, Z, Z, Z, vb false, g171, g172, Z, Z, Z, Z, Z, Z, Z, Z, Z, Z, Z, Z, Z, Z, Z, Z, Z, Z, Z, Z, vb true, g180, g181, g224, g225, g226, g227, g228, g229, g230, g231, g232, g233, g234, g235, g236, Z, s13, vp b4 1, TNode.val p3.N, Z, Z, Z, Z, Z, Z, Z, Z, Z, Z, Z, Z, Z, Z, Z, Z, Z, Z, Z, Z, Z, Z, Z, Z, Z, Z, Z, Z, Z], []⟩ w259 (fun K => by kernel_rfl) ?_
                refine WPI.op rfl (Op1.call (by kernel_rfl) (by kernel_rfl) (g_heap_Set_w fuel s13 t12 p3.N t263 ht263 _ (St.rd H260 1 rfl)) ?_)
                rintro _ w267 ⟨s264, rfl, Hc268⟩
                have H269 := St.call0 H260 Hc268
                clear H260 Hc268
                have sf266 := Own.isSl (St.get H269 0 rfl)
                refine WPI.run 5 ⟨#[s1, Ttarnlaw13_Act.val p3, Z, vp b4 0, vn, vb false, vb t8, s13, vi x220, s223, s264, vi t263.2, s1, vb t8, s1, s13, vp b4 0, vi p3.Do, vi t94, Z, Z, Z, Z, Z, Z, Z, Z, Z, Z, Z, Z, Z, Z, Z, Z, Z, vb false, g171, g172, Z, Z, Z, Z, Z, Z, Z, Z, Z, Z, Z, Z, Z, Z, Z, Z, Z, Z, Z, Z, vb true, g180, g181, g224, g225, g226, g227, g228, g229, g230, g231, g232, g233, g234, g235, g236, .tuple #[s264, vi t263.2], s13, vp b4 1, TNode.val p3.N, .tuple #[s264, vi t263.2], s264, vi t263.2, Z, Z, Z, Z, Z, Z, Z, Z, Z, Z, Z, Z, Z, Z, Z, Z, Z, Z, Z, Z, Z, Z, Z, Z, Z, Z], []⟩ w267 (fun K => by kernel_rfl) ?_
                refine WPI.done rfl ?_
                exact inb_n (then_n ⟨x220, l222, t263.1, t263.2, s223, s264, _, _, _, _, _, _, _, _, _, _, _, _, _, _, _, _, _, _, _, _, _, _, _, _, _, _, _, _, _, _, _, _, _, _, _, _, _, _, _, _, _, _, _, _, _, _, _, _, _, _, _, _, _, _, _, _, _, _, _, _, _, _, _, rfl, St.sel H269 [1, 2, 3, 0] (by decide) rfl, h⟩)
        | true =>
          replace h := br_t h
          refine WP.condT (by kernel_rfl) ?_
          obtain ⟨K287, hK287, h⟩ := jn_some h
          refine WP.seqJ (fun a w => ∃ (x270 : Int) (l272 : List TNode) (s273 : Value) (g274 : Value) (g275 : Value) (g276 : Value) (g277 : Value) (g278 : Value) (g279 : Value) (g280 : Value) (g281 : Value) (g282 : Value) (g283 : Value) (g284 : Value) (g285 : Value) (g286 : Value), a = ⟨#[s1, Ttarnlaw13_Act.val p3, Z, vp b4 0, vn, vb false, vb t8, s13, vi x270, s273, vn, vi 0, s1, vb t8, s1, s13, vp b4 0, vi p3.Do, vi t94, Z, Z, Z, Z, Z, Z, Z, Z, Z, Z, Z, Z, Z, Z, Z, Z, Z, vb true, g171, g172, g274, g275, g276, g277, g278, g279, g280, g281, g282, g283, g284, g285, g286, Z, Z, Z, Z, Z, Z, Z, Z, Z, Z, Z, Z, Z, Z, Z, Z, Z, Z, Z, Z, Z, Z, Z, Z, Z, Z, Z, Z, Z, Z, Z, Z, Z, Z, Z, Z, Z, Z, Z, Z, Z, Z, Z, Z, Z, Z, Z, Z, Z, Z, Z, Z, Z, Z, Z, Z], []⟩ ∧ St no w0 w [Box b4 (Ttarnlaw13_Act.cs p3).toArray 45, Own fTNode 33 s13 t12, Own fTNode 33 s273 l272] ∧ K287 x270 l272 = some r) ?_ ?_
          · skip
            refine WP.seq ?_
            obtain ⟨K294, hK294, h⟩ := jn_some h
            refine WP.onlyN (fun a w => ∃ (c293 : Bool) (g288 : Value) (g289 : Value) (g290 : Value) (g291 : Value) (g292 : Value), a = ⟨#[s1, Ttarnlaw13_Act.val p3, Z, vp b4 0, vn, vb false, vb t8, s13, vi 1, vn, vn, vi 0, s1, vb t8, s1, s13, vp b4 0, vi p3.Do, vi t94, Z, Z, Z, Z, Z, Z, Z, Z, Z, Z, Z, Z, Z, Z, Z, Z, Z, vb true, g171, g172, g288, g289, g290, g291, g292, vb c293, Z, Z, Z, Z, Z, Z, Z, Z, Z, Z, Z, Z, Z, Z, Z, Z, Z, Z, Z, Z, Z, Z, Z, Z, Z, Z, Z, Z, Z, Z, Z, Z, Z, Z, Z, Z, Z, Z, Z, Z, Z, Z, Z, Z, Z, Z, Z, Z, Z, Z, Z, Z, Z, Z, Z, Z, Z, Z, Z, Z, Z, Z, Z], []⟩ ∧ St no w0 w [Box b4 (Ttarnlaw13_Act.cs p3).toArray 45, Own fTNode 33 s13 t12] ∧ K294 c293 = some r) ?_ ?_
            · skip
              refine WP.region ?_
              refine WPI.run 2 ⟨#[s1, Ttarnlaw13_Act.val p3, Z, vp b4 0, vn, vb false, vb t8, s13, vi 1, vn, vn, vi 0, s1, vb t8, s1, s13, vp b4 0, vi p3.Do, vi t94, Z, Z, Z, Z, Z, Z, Z, Z, Z, Z, Z, Z, Z, Z, Z, Z, Z, vb true, g171, g172, vb t8, vb t8, Z, Z, Z, Z, Z, Z, Z, Z, Z, Z, Z, Z, Z, Z, Z, Z, Z, Z, Z, Z, Z, Z, Z, Z, Z, Z, Z, Z, Z, Z, Z, Z, Z, Z, Z, Z, Z, Z, Z, Z, Z, Z, Z, Z, Z, Z, Z, Z, Z, Z, Z, Z, Z, Z, Z, Z, Z, Z, Z, Z, Z, Z, Z, Z, Z, Z, Z], []⟩ w176 (fun K => by kernel_rfl) ?_
              cases t8 with
              | false =>
                replace h := br_f h
                refine WPI.run 4 ⟨#[s1, Ttarnlaw13_Act.val p3, Z, vp b4 0, vn, vb false, vb false, s13, vi 1, vn, vn, vi 0, s1, vb false, s1, s13, vp b4 0, vi p3.Do, vi t94, Z, Z, Z, Z, Z, Z, Z, Z, Z, Z, Z, Z, Z, Z, Z, Z, Z, vb true, g171, g172, vb false, vb false, Z, Z, Z, vb false, Z, Z, Z, Z, Z, Z, Z, Z, Z, Z, Z, Z, Z, Z, Z, Z, Z, Z, Z, Z, Z, Z, Z, Z, Z, Z, Z, Z, Z, Z, Z, Z, Z, Z, Z, Z, Z, Z, Z, Z, Z, Z, Z, Z, Z, Z, Z, Z, Z, Z, Z, Z, Z, Z, Z, Z, Z, Z, Z, Z, Z, Z, Z], []⟩ w176 (fun K => by kernel_rfl) ?_
                refine WPI.done rfl ?_
                exact ⟨false, _, _, _, _, _, rfl, St.sel H177 [0, 1] (by decide) rfl, h⟩
              | true =>
                replace h := br_t h
                refine WPI.run 1 ⟨#[s1, Ttarnlaw13_Act.val p3, Z, vp b4 0, vn, vb false, vb true, s13, vi 1, vn, vn, vi 0, s1, vb true, s1, s13, vp b4 0, vi p3.Do, vi t94, Z, Z, Z, Z, Z, Z, Z, Z, Z, Z, Z, Z, Z, Z, Z, Z, Z, vb true, g171, g172, vb true, vb true, vp b4 1, Z, Z, Z, Z, Z, Z, Z, Z, Z, Z, Z, Z, Z, Z, Z, Z, Z, Z, Z, Z, Z, Z, Z, Z, Z, Z, Z, Z, Z, Z, Z, Z, Z, Z, Z, Z, Z, Z, Z, Z, Z, Z, Z, Z, Z, Z, Z, Z, Z, Z, Z, Z, Z, Z, Z, Z, Z, Z, Z, Z, Z, Z, Z, Z, Z, Z], []⟩ w176 (fun K => by kernel_rfl) ?_
                refine WPI.value (v := TNode.val p3.N) rfl (by kernel_rfl) (ev_loadBox H177 0 rfl 33 (.tmp 41) 1 (TNode.val p3.N) rfl (by kernel_rfl) (by kernel_rfl)) ?_
                obtain ⟨t295, ht295, h⟩ := bd_some h
                refine WPI.run 0 ⟨#[s1, Ttarnlaw13_Act.val p3, Z, vp b4 0, vn, vb false, vb true, s13, vi 1, vn, vn, vi 0, s1, vb true, s1, s13, vp b4 0, vi p3.Do, vi t94, Z, Z, Z, Z, Z, Z, Z, Z, Z, Z, Z, Z, Z, Z, Z, Z, Z, vb true, g171, g172, vb true, vb true, vp b4 1, TNode.val p3.N, Z, Z, Z, Z, Z, Z, Z, Z, Z, Z, Z, Z, Z, Z, Z, Z, Z, Z, Z, Z, Z, Z, Z, Z, Z, Z, Z, Z, Z, Z, Z, Z, Z, Z, Z, Z, Z, Z, Z, Z, Z, Z, Z, Z, Z, Z, Z, Z, Z, Z, Z, Z, Z, Z, Z, Z, Z, Z, Z, Z, Z, Z, Z, Z, Z], []⟩ w176 (fun K => by kernel_rfl) ?_
                refine WPI.op rfl (Op1.call (by kernel_rfl) (by kernel_rfl) (g_tarnref12_Node_w fuel p3.N t295 ht295 _) ?_)
                rintro _ w296 ⟨rfl, Hc297⟩
                have H298 := St.call0' H177 Hc297
                clear H177 Hc297
                refine WPI.run 1 ⟨#[s1, Ttarnlaw13_Act.val p3, Z, vp b4 0, vn, vb false, vb true, s13, vi 1, vn, vn, vi 0, s1, vb true, s1, s13, vp b4 0, vi p3.Do, vi t94, Z, Z, Z, Z, Z, Z, Z, Z, Z, Z, Z, Z, Z, Z, Z, Z, Z, vb true, g171, g172, vb true, vb true, vp b4 1, TNode.val p3.N, vb t295, vb t295, Z, Z, Z, Z, Z, Z, Z, Z, Z, Z, Z, Z, Z, Z, Z, Z, Z, Z, Z, Z, Z, Z, Z, Z, Z, Z, Z, Z, Z, Z, Z, Z, Z, Z, Z, Z, Z, Z, Z, Z, Z, Z, Z, Z, Z, Z, Z, Z, Z, Z, Z, Z, Z, Z, Z, Z, Z, Z, Z, Z, Z, Z, Z], []⟩ w296 (fun K => by kernel_rfl) ?_
                refine WPI.done rfl ?_
                exact ⟨t295, _, _, _, _, _, rfl, St.sel H298 [0, 1] (by decide) rfl, h⟩
            · rintro a w ⟨c293, g288, g289, g290, g291, g292, rfl, H, h⟩
              subst hK294
              obtain ⟨w299, rfl⟩ : ∃ x, x = w := ⟨_, rfl⟩
              have H300 := H; clear H
              have sf301 := Own.isSl (St.get H300 1 rfl)
              refine then_n ?_
              cases c293 with
              | false =>
                replace h := br_f h
                refine WP.condF (by kernel_rfl) ?_
                refine WP.skip ?_
                exact then_n ⟨1, ([]), vn, _, _, _, _, _, _, _, _, _, _, _, _, _, rfl, St.sel (St.nil H300 fTNode 33) [1, 2, 0] (by decide) rfl, h⟩
              | true =>
                replace h := br_t h
                refine WP.condT (by kernel_rfl) ?_
                refine WP.region ?_
                refine WPI.run 2 ⟨#[s1, Ttarnlaw13_Act.val p3, Z, vp b4 0, vn, vb false, vb t8, s13, vi 1, vn, vn, vi 0, s1, vb t8, s1, s13, vp b4 0, vi p3.Do, vi t94, Z, Z, Z, Z, Z, Z, Z, Z, Z, Z, Z, Z, Z, Z, Z, Z, Z, vb true, g171, g172, g288, g289, g290, g291, g292, vb true, Z, s1, vp b4 1, Z, Z, Z, Z, Z, Z, Z, Z, Z, Z, Z, Z, Z, Z, Z, Z, Z, Z, Z, Z, Z, Z, Z, Z, Z, Z, Z, Z, Z, Z, Z, Z, Z, Z, Z, Z, Z, Z, Z, Z, Z, Z, Z, Z, Z, Z, Z, Z, Z, Z, Z, Z, Z, Z, Z, Z, Z, Z, Z, Z], []⟩ w299 (fun K => by kernel_rfl) ?_
                refine WPI.value (v := TNode.val p3.N) rfl (by kernel_rfl) (ev_loadBox H300 0 rfl 33 (.tmp 47) 1 (TNode.val p3.N) rfl (by kernel_rfl) (by kernel_rfl)) ?_
                obtain ⟨t302, ht302, h⟩ := bd_some h
                refine WPI.run 0 ⟨#[s1, Ttarnlaw13_Act.val p3, Z, vp b4 0, vn, vb false, vb t8, s13, vi 1, vn, vn, vi 0, s1, vb t8, s1, s13, vp b4 0, vi p3.Do, vi t94, Z, Z, Z, Z, Z, Z, Z, Z, Z, Z, Z, Z, Z, Z, Z, Z, Z, vb true, g171, g172, g288, g289, g290, g291, g292, vb true, Z, s1, vp b4 1, TNode.val p3.N, Z, Z, Z, Z, Z, Z, Z, Z, Z, Z, Z, Z, Z, Z, Z, Z, Z, Z, Z, Z, Z, Z, Z, Z, Z, Z, Z, Z, Z, Z, Z, Z, Z, Z, Z, Z, Z, Z, Z, Z, Z, Z, Z, Z, Z, Z, Z, Z, Z, Z, Z, Z, Z, Z, Z, Z, Z, Z, Z], []⟩ w299 (fun K => by kernel_rfl) ?_
                refine WPI.op rfl (Op1.call (by kernel_rfl) (by kernel_rfl) (g_tarnref12_Push_w fuel s1 l2 p3.N t302 ht302 _ (Rd.arg0 hs1 H300)) ?_)
                rintro _ w306 ⟨s303, rfl, Hc307⟩
                have H308 := St.call0 H300 Hc307
                clear H300 Hc307
                have sf305 := Own.isSl (St.get H308 0 rfl)
                refine WPI.run 5 ⟨#[s1, Ttarnlaw13_Act.val p3, Z, vp b4 0, vn, vb false, vb t8, s13, vi t302.2, s303, vn, vi 0, s1, vb t8, s1, s13, vp b4 0, vi p3.Do, vi t94, Z, Z, Z, Z, Z, Z, Z, Z, Z, Z, Z, Z, Z, Z, Z, Z, Z, vb true, g171, g172, g288, g289, g290, g291, g292, vb true, .tuple #[s303, vi t302.2], s1, vp b4 1, TNode.val p3.N, .tuple #[s303, vi t302.2], s303, vi t302.2, Z, Z, Z, Z, Z, Z, Z, Z, Z, Z, Z, Z, Z, Z, Z, Z, Z, Z, Z, Z, Z, Z, Z, Z, Z, Z, Z, Z, Z, Z, Z, Z, Z, Z, Z, Z, Z, Z, Z, Z, Z, Z, Z, Z, Z, Z, Z, Z, Z, Z, Z, Z, Z, Z, Z, Z], []⟩ w306 (fun K => by kernel_rfl) ?_
                refine WPI.done rfl ?_
                exact then_n ⟨t302.2, t302.1, s303, _, _, _, _, _, _, _, _, _, _, _, _, _, rfl, St.sel H308 [1, 2, 0] (by decide) rfl, h⟩
          · rintro a w ⟨x270, l272, s273, g274, g275, g276, g277, g278, g279, g280, g281, g282, g283, g284, g285, g286, rfl, H, h⟩
            subst hK287
            obtain ⟨w309, rfl⟩ : ∃ x, x = w := ⟨_, rfl⟩
            have H310 := H; clear H
            have sf311 := Own.isSl (St.get H310 1 rfl)
            have sf312 := Own.isSl (St.get H310 2 rfl)
            refine WP.region ?_
            refine WPI.run 2 ⟨#[s1, Ttarnlaw13_Act.val p3, Z, vp b4 0, vn, vb false, vb t8, s13, vi x270, s273, vn, vi 0, s1, vb t8, s1, s13, vp b4 0, vi p3.Do, vi t94, Z, Z, Z, Z, Z, Z, Z, Z, Z, Z, Z, Z, Z, Z, Z, Z, Z, vb true, g171, g172, g274, g275, g276, g277, g278, g279, g280, g281, g282, g283, g284, g285, g286, Z, s13, vp b4 1, Z, Z, Z, Z, Z, Z, Z, Z, Z, Z, Z, Z, Z, Z, Z, Z, Z, Z, Z, Z, Z, Z, Z, Z, Z, Z, Z, Z, Z, Z, Z, Z, Z, Z, Z, Z, Z, Z, Z, Z, Z, Z, Z, Z, Z, Z, Z, Z, Z, Z, Z, Z, Z], []⟩ w309 (fun K => by kernel_rfl) ?_
            refine WPI.value (v := TNode.val p3.N) rfl (by kernel_rfl) (ev_loadBox H310 0 rfl 33 (.tmp 54) 1 (TNode.val p3.N) rfl (by kernel_rfl) (by kernel_rfl)) ?_
            obtain ⟨t313, ht313, h⟩ := bd_some h
            refine WPI.run 0 ⟨#[s1, Ttarnlaw13_Act.val p3, Z, vp b4 0, vn, vb false, vb t8, s13, vi x270, s273, vn, vi 0, s1, vb t8, s1, s13, vp b4 0, vi p3.Do, vi t94, Z, Z, Z, Z, Z, Z, Z, Z, Z, Z, Z, Z, Z, Z, Z, Z, Z, vb true, g171, g172, g274, g275, g276, g277, g278, g279, g280, g281, g282, g283, g284, g285, g286, Z, s13, vp b4 1, TNode.val p3.N, Z, Z, Z, Z, Z, Z, Z, Z, Z, Z, Z, Z, Z, Z, Z, Z, Z, Z, Z, Z, Z, Z, Z, Z, Z, Z, Z, Z, Z, Z, Z, Z, Z, Z, Z, Z, Z, Z, Z, Z, Z, Z, Z, Z, Z, Z, Z, Z, Z, Z, Z, Z], []⟩ w309 (fun K => by kernel_rfl) ?_
            refine WPI.op rfl (Op1.call (by kernel_rfl) (by kernel_rfl) (g_heap_Push_w fuel s13 t12 p3.N t313 ht313 _ (St.rd H310 1 rfl)) ?_)
            rintro _ w317 ⟨s314, rfl, Hc318⟩
            have H319 := St.call0 H310 Hc318
            clear H310 Hc318
            have sf316 := Own.isSl (St.get H319 0 rfl)
            refine WPI.run 5 ⟨#[s1, Ttarnlaw13_Act.val p3, Z, vp b4 0, vn, vb false, vb t8, s13, vi x270, s273, s314, vi t313.2, s1, vb t8, s1, s13, vp b4 0, vi p3.Do, vi t94, Z, Z, Z, Z, Z, Z, Z, Z, Z, Z, Z, Z, Z, Z, Z, Z, Z, vb true, g171, g172, g274, g275, g276, g277, g278, g279, g280, g281, g282, g283, g284, g285, g286, .tuple #[s314, vi t313.2], s13, vp b4 1, TNode.val p3.N, .tuple #[s314, vi t313.2], s314, vi t313.2, Z, Z, Z, Z, Z, Z, Z, Z, Z, Z, Z, Z, Z, Z, Z, Z, Z, Z, Z, Z, Z, Z, Z, Z, Z, Z, Z, Z, Z, Z, Z, Z, Z, Z, Z, Z, Z, Z, Z, Z, Z, Z, Z, Z, Z, Z, Z, Z, Z], []⟩ w317 (fun K => by kernel_rfl) ?_
            refine WPI.done rfl ?_
            exact inb_n (then_n ⟨x270, l272, t313.1, t313.2, s273, s314, _, _, _, _, _, _, _, _, _, _, _, _, _, _, _, _, _, _, _, _, _, _, _, _, _, _, _, _, _, _, _, _, _, _, _, _, _, _, _, _, _, _, _, _, _, _, _, _, _, _, _, _, _, _, _, _, _, _, _, _, _, _, _, rfl, St.sel H319 [1, 2, 3, 0] (by decide) rfl, h⟩)
    · rintro a w ⟨x98, l100, l103, x105, s101, s104, g106, g107, g108, g109, g110, g111, g112, g113, g114, g115, g116, g117, g118, g119, g120, g121, g122, g123, g124, g125, g126, g127, g128, g129, g130, g131, g132, g133, g134, g135, g136, g137, g138, g139, g140, g141, g142, g143, g144, g145, g146, g147, g148, g149, g150, g151, g152, g153, g154, g155, g156, g157, g158, g159, g160, g161, g162, g163, g164, g165, g166, g167, g168, rfl, H, h⟩
      subst hK169
      obtain ⟨w320, rfl⟩ : ∃ x, x = w := ⟨_, rfl⟩
      have H321 := H; clear H
      have sf322 := Own.isSl (St.get H321 1 rfl)
      have sf323 := Own.isSl (St.get H321 2 rfl)
      have sf324 := Own.isSl (St.get H321 3 rfl)
      exact then_n ⟨x98, l100, l103, x105, s101, s104, _, _, _, _, _, _, _, _, _, _, _, _, _, _, _, _, _, _, _, _, _, _, _, _, _, _, _, _, _, _, _, _, _, _, _, _, _, _, _, _, _, _, _, _, _, _, _, _, _, _, _, _, _, _, _, _, _, _, _, _, _, _, _, _, _, _, rfl, St.sel H321 [0, 1, 2, 3] (by decide) rfl, h⟩
  · rintro a w ⟨x19, l21, l24, x26, s22, s25, g27, g28, g29, g30, g31, g32, g33, g34, g35, g36, g37, g38, g39, g40, g41, g42, g43, g44, g45, g46, g47, g48, g49, g50, g51, g52, g53, g54, g55, g56, g57, g58, g59, g60, g61, g62, g63, g64, g65, g66, g67, g68, g69, g70, g71, g72, g73, g74, g75, g76, g77, g78, g79, g80, g81, g82, g83, g84, g85, g86, g87, g88, g89, g90, g91, g92, rfl, H, h⟩
    subst hK93
    obtain ⟨w325, rfl⟩ : ∃ x, x = w := ⟨_, rfl⟩
    have H326 := H; clear H
    have sf327 := Own.isSl (St.get H326 1 rfl)
    have sf328 := Own.isSl (St.get H326 2 rfl)
    have sf329 := Own.isSl (St.get H326 3 rfl)
    refine WP.seq ?_
    refine WP.seq ?_
    obtain ⟨K346, hK346, h⟩ := jn_some h
    refine WP.onlyN (fun a w => ∃ (c345 : Bool) (g330 : Value) (g331 : Value) (g332 : Value) (g333 : Value) (g334 : Value) (g335 : Value) (g336 : Value) (g337 : Value) (g338 : Value) (g339 : Value) (g340 : Value) (g341 : Value) (g342 : Value) (g343 : Value) (g344 : Value), a = ⟨#[s1, Ttarnlaw13_Act.val p3, Z, vp b4 0, vn, vb false, vb t8, s13, vi x19, s22, s25, vi x26, s1, vb t8, s1, s13, g27, g28, g29, g30, g31, g32, g33, g34, g35, g36, g37, g38, g39, g40, g41, g42, g43, g44, g45, g46, g47, g48, g49, g50, g51, g52, g53, g54, g55, g56, g57, g58, g59, g60, g61, g62, g63, g64, g65, g66, g67, g68, g69, g70, g71, g72, g73, g74, g75, g76, g77, g78, g79, g80, g81, g82, g83, g84, g85, g86, g87, g88, g89, g90, g91, g92, g330, g331, g332, g333, g334, g335, g336, g337, g338, g339, g340, g341, g342, g343, g344, vb c345, Z, Z, Z, Z, Z, Z, Z, Z, Z, Z], []⟩ ∧ St no w0 w [Box b4 (Ttarnlaw13_Act.cs p3).toArray 45, Own fTNode 33 s13 t12, Own fTNode 33 s22 l21, Own fTNode 33 s25 l24] ∧ K346 c345 = some r) ?_ ?_
    · skip
      refine WP.region ?_
      obtain ⟨t347, ht347, h⟩ := bd_some h
      refine WPI.run 1 ⟨#[s1, Ttarnlaw13_Act.val p3, Z, vp b4 0, vn, vb false, vb t8, s13, vi x19, s22, s25, vi x26, s1, vb t8, s1, s13, g27, g28, g29, g30, g31, g32, g33, g34, g35, g36, g37, g38, g39, g40, g41, g42, g43, g44, g45, g46, g47, g48, g49, g50, g51, g52, g53, g54, g55, g56, g57, g58, g59, g60, g61, g62, g63, g64, g65, g66, g67, g68, g69, g70, g71, g72, g73, g74, g75, g76, g77, g78, g79, g80, g81, g82, g83, g84, g85, g86, g87, g88, g89, g90, g91, g92, vi x26, Z, Z, Z, Z, Z, Z, Z, Z, Z, Z, Z, Z, Z, Z, Z, Z, Z, Z, Z, Z, Z, Z, Z, Z, Z], []⟩ w325 (fun K => by kernel_rfl) ?_
      refine WPI.op rfl (Op1.call (by kernel_rfl) (by kernel_rfl) (g_tarnlaw13_num_w fuel x26 t347 ht347 _) ?_)
      rintro _ w348 ⟨rfl, Hc349⟩
      have H350 := St.call0' H326 Hc349
      clear H326 Hc349
      obtain ⟨c351, hc351, h⟩ := lt_some h
      refine WPI.run 3 ⟨#[s1, Ttarnlaw13_Act.val p3, Z, vp b4 0, vn, vb false, vb t8, s13, vi x19, s22, s25, vi x26, s1, vb t8, s1, s13, g27, g28, g29, g30, g31, g32, g33, g34, g35, g36, g37, g38, g39, g40, g41, g42, g43, g44, g45, g46, g47, g48, g49, g50, g51, g52, g53, g54, g55, g56, g57, g58, g59, g60, g61, g62, g63, g64, g65, g66, g67, g68, g69, g70, g71, g72, g73, g74, g75, g76, g77, g78, g79, g80, g81, g82, g83, g84, g85, g86, g87, g88, g89, g90, g91, g92, vi x26, vi t347, vi x19, vb c351, vb c351, Z, Z, Z, Z, Z, Z, Z, Z, Z, Z, Z, Z, Z, Z, Z, Z, Z, Z, Z, Z, Z], []⟩ w348 (fun K => by subst hc351; kernel_rfl) ?_
      cases c351 with
      | false =>
        replace h := br_f h
        obtain ⟨t352, ht352, h⟩ := bd_some h
        refine WPI.run 2 ⟨#[s1, Ttarnlaw13_Act.val p3, Z, vp b4 0, vn, vb false, vb t8, s13, vi x19, s22, s25, vi x26, s1, vb t8, s1, s13, g27, g28, g29, g30, g31, g32, g33, g34, g35, g36, g37, g38, g39, g40, g41, g42, g43, g44, g45, g46, g47, g48, g49, g50, g51, g52, g53, g54, g55, g56, g57, g58, g59, g60, g61, g62, g63, g64, g65, g66, g67, g68, g69, g70, g71, g72, g73, g74, g75, g76, g77, g78, g79, g80, g81, g82, g83, g84, g85, g86, g87, g88, g89, g90, g91, g92, vi x26, vi t347, vi x19, vb false, vb false, s25, s22, Z, Z, Z, Z, Z, Z, Z, Z, Z, Z, Z, Z, Z, Z, Z, Z, Z, Z, Z], []⟩ w348 (fun K => by kernel_rfl) ?_
        refine WPI.op rfl (Op1.call (by kernel_rfl) (by kernel_rfl) (g_tarnref0_EqNodes_w fuel s25 l24 s22 l21 t352 ht352 _ (St.rd H350 3 rfl) (St.rd H350 2 rfl)) ?_)
        rintro _ w353 ⟨rfl, Hc354⟩
        have H355 := St.call0' H350 Hc354
        clear H350 Hc354
        obtain ⟨c356, hc356, h⟩ := lt_some h
        refine WPI.run 3 ⟨#[s1, Ttarnlaw13_Act.val p3, Z, vp b4 0, vn, vb false, vb t8, s13, vi x19, s22, s25, vi x26, s1, vb t8, s1, s13, g27, g28, g29, g30, g31, g32, g33, g34, g35, g36, g37, g38, g39, g40, g41, g42, g43, g44, g45, g46, g47, g48, g49, g50, g51, g52, g53, g54, g55, g56, g57, g58, g59, g60, g61, g62, g63, g64, g65, g66, g67, g68, g69, g70, g71, g72, g73, g74, g75, g76, g77, g78, g79, g80, g81, g82, g83, g84, g85, g86, g87, g88, g89, g90, g91, g92, vi x26, vi t347, vi x19, vb false, vb false, s25, s22, vb t352, vb c356, vb c356, vb c356, Z, Z, Z, Z, Z, Z, Z, Z, Z, Z, Z, Z, Z, Z, Z], []⟩ w353 (fun K => by subst hc356; kernel_rfl) ?_
        cases c356 with
        | false =>
          replace h := br_f h
          obtain ⟨t357, ht357, h⟩ := bd_some h
          refine WPI.run 2 ⟨#[s1, Ttarnlaw13_Act.val p3, Z, vp b4 0, vn, vb false, vb t8, s13, vi x19, s22, s25, vi x26, s1, vb t8, s1, s13, g27, g28, g29, g30, g31, g32, g33, g34, g35, g36, g37, g38, g39, g40, g41, g42, g43, g44, g45, g46, g47, g48, g49, g50, g51, g52, g53, g54, g55, g56, g57, g58, g59, g60, g61, g62, g63, g64, g65, g66, g67, g68, g69, g70, g71, g72, g73, g74, g75, g76, g77, g78, g79, g80, g81, g82, g83, g84, g85, g86, g87, g88, g89, g90, g91, g92, vi x26, vi t347, vi x19, vb false, vb false, s25, s22, vb t352, vb false, vb false, vb false, s13, s1, Z, Z, Z, Z, Z, Z, Z, Z, Z, Z, Z, Z, Z], []⟩ w353 (fun K => by kernel_rfl) ?_
          refine WPI.op rfl (Op1.call (by kernel_rfl) (by kernel_rfl) (g_tarnref0_EqNodes_w fuel s13 t12 s1 l2 t357 ht357 _ (St.rd H355 1 rfl) (Rd.arg0 hs1 H355)) ?_)
          rintro _ w358 ⟨rfl, Hc359⟩
          have H360 := St.call0' H355 Hc359
          clear H355 Hc359
          obtain ⟨c361, hc361, h⟩ := lt_some h
          refine WPI.run 2 ⟨#[s1, Ttarnlaw13_Act.val p3, Z, vp b4 0, vn, vb false, vb t8, s13, vi x19, s22, s25, vi x26, s1, vb t8, s1, s13, g27, g28, g29, g30, g31, g32, g33, g34, g35, g36, g37, g38, g39, g40, g41, g42, g43, g44, g45, g46, g47, g48, g49, g50, g51, g52, g53, g54, g55, g56, g57, g58, g59, g60, g61, g62, g63, g64, g65, g66, g67, g68, g69, g70, g71, g72, g73, g74, g75, g76, g77, g78, g79, g80, g81, g82, g83, g84, g85, g86, g87, g88, g89, g90, g91, g92, vi x26, vi t347, vi x19, vb false, vb false, s25, s22, vb t352, vb false, vb false, vb false, s13, s1, vb t357, vb c361, vb c361, Z, Z, Z, Z, Z, Z, Z, Z, Z, Z], []⟩ w358 (fun K => by subst hc361; kernel_rfl) ?_
          refine WPI.done rfl ?_
          exact ⟨c361, _, _, _, _, _, _, _, _, _, _, _, _, _, _, _, rfl, St.sel H360 [0, 1, 2, 3] (by decide) rfl, h⟩
        | true =>
          replace h := br_t h
          refine WPI.run 5 ⟨#[s1, Ttarnlaw13_Act.val p3, Z, vp b4 0, vn, vb false, vb t8, s13, vi x19, s22, s25, vi x26, s1, vb t8, s1, s13, g27, g28, g29, g30, g31, g32, g33, g34, g35, g36, g37, g38, g39, g40, g41, g42, g43, g44, g45, g46, g47, g48, g49, g50, g51, g52, g53, g54, g55, g56, g57, g58, g59, g60, g61, g62, g63, g64, g65, g66, g67, g68, g69, g70, g71, g72, g73, g74, g75, g76, g77, g78, g79, g80, g81, g82, g83, g84, g85, g86, g87, g88, g89, g90, g91, g92, vi x26, vi t347, vi x19, vb false, vb false, s25, s22, vb t352, vb true, vb true, vb true, Z, Z, Z, Z, vb true, Z, Z, Z, Z, Z, Z, Z, Z, Z, Z], []⟩ w353 (fun K => by kernel_rfl) ?_
          refine WPI.done rfl ?_
          exact ⟨true, _, _, _, _, _, _, _, _, _, _, _, _, _, _, _, rfl, St.sel H355 [0, 1, 2, 3] (by decide) rfl, h⟩
      | true =>
        replace h := br_t h
        refine WPI.run 11 ⟨#[s1, Ttarnlaw13_Act.val p3, Z, vp b4 0, vn, vb false, vb t8, s13, vi x19, s22, s25, vi x26, s1, vb t8, s1, s13, g27, g28, g29, g30, g31, g32, g33, g34, g35, g36, g37, g38, g39, g40, g41, g42, g43, g44, g45, g46, g47, g48, g49, g50, g51, g52, g53, g54, g55, g56, g57, g58, g59, g60, g61, g62, g63, g64, g65, g66, g67, g68, g69, g70, g71, g72, g73, g74, g75, g76, g77, g78, g79, g80, g81, g82, g83, g84, g85, g86, g87, g88, g89, g90, g91, g92, vi x26, vi t347, vi x19, vb true, vb true, Z, Z, Z, Z, vb true, vb true, Z, Z, Z, Z, vb true, Z, Z, Z, Z, Z, Z, Z, Z, Z, Z], []⟩ w348 (fun K => by kernel_rfl) ?_
        refine WPI.done rfl ?_
        exact ⟨true, _, _, _, _, _, _, _, _, _, _, _, _, _, _, _, rfl, St.sel H350 [0, 1, 2, 3] (by decide) rfl, h⟩
    · rintro a w ⟨c345, g330, g331, g332, g333, g334, g335, g336, g337, g338, g339, g340, g341, g342, g343, g344, rfl, H, h⟩
      subst hK346
      obtain ⟨w362, rfl⟩ : ∃ x, x = w := ⟨_, rfl⟩
      have H363 := H; clear H
      have sf364 := Own.isSl (St.get H363 1 rfl)
      have sf365 := Own.isSl (St.get H363 2 rfl)
      have sf366 := Own.isSl (St.get H363 3 rfl)
      refine then_n ?_
      cases c345 with
      | false =>
        replace h := br_f h
        refine WP.condF (by kernel_rfl) ?_
        refine WP.skip ?_
        refine then_n ?_
        refine WP.seq ?_
        refine WP.seq ?_
        refine WP.region ?_
        obtain ⟨c367, hc367, h⟩ := lt_some h
        refine WPI.run 2 ⟨#[s1, Ttarnlaw13_Act.val p3, Z, vp b4 0, vn, vb false, vb t8, s13, vi x19, s22, s25, vi x26, s1, vb t8, s1, s13, g27, g28, g29, g30, g31, g32, g33, g34, g35, g36, g37, g38, g39, g40, g41, g42, g43, g44, g45, g46, g47, g48, g49, g50, g51, g52, g53, g54, g55, g56, g57, g58, g59, g60, g61, g62, g63, g64, g65, g66, g67, g68, g69, g70, g71, g72, g73, g74, g75, g76, g77, g78, g79, g80, g81, g82, g83, g84, g85, g86, g87, g88, g89, g90, g91, g92, g330, g331, g332, g333, g334, g335, g336, g337, g338, g339, g340, g341, g342, g343, g344, vb false, Z, vi x19, vb c367, Z, Z, Z, Z, Z, Z, Z], []⟩ w362 (fun K => by subst hc367; kernel_rfl) ?_
        refine WPI.done rfl ?_
        refine then_n ?_
        cases c367 with
        | false =>
          replace h := br_f h
          refine WP.condF (by kernel_rfl) ?_
          refine WP.skip ?_
          refine then_n ?_
          refine WP.seq ?_
          refine WP.region ?_
          obtain ⟨t368, ht368, h⟩ := bd_some h
          refine WPI.run 1 ⟨#[s1, Ttarnlaw13_Act.val p3, Z, vp b4 0, vn, vb false, vb t8, s13, vi x19, s22, s25, vi x26, s1, vb t8, s1, s13, g27, g28, g29, g30, g31, g32, g33, g34, g35, g36, g37, g38, g39, g40, g41, g42, g43, g44, g45, g46, g47, g48, g49, g50, g51, g52, g53, g54, g55, g56, g57, g58, g59, g60, g61, g62, g63, g64, g65, g66, g67, g68, g69, g70, g71, g72, g73, g74, g75, g76, g77, g78, g79, g80, g81, g82, g83, g84, g85, g86, g87, g88, g89, g90, g91, g92, g330, g331, g332, g333, g334, g335, g336, g337, g338, g339, g340, g341, g342, g343, g344, vb false, Z, vi x19, vb false, Z, s25, Z, Z, Z, Z, Z], []⟩ w362 (fun K => by kernel_rfl) ?_
          refine WPI.op rfl (Op1.call (by kernel_rfl) (by kernel_rfl) (g_tarnlaw0_Nodes_w fuel s25 l24 t368 ht368 _ (St.get H363 3 rfl)) ?_)
          rintro _ w370 ⟨rfl, Hc371⟩
          have H372 := St.call1 H363 3 rfl Hc371
          clear H363 Hc371
          refine WPI.run 0 ⟨#[s1, Ttarnlaw13_Act.val p3, Z, vp b4 0, vn, vb false, vb t8, s13, vi x19, s22, s25, vi x26, s1, vb t8, s1, s13, g27, g28, g29, g30, g31, g32, g33, g34, g35, g36, g37, g38, g39, g40, g41, g42, g43, g44, g45, g46, g47, g48, g49, g50, g51, g52, g53, g54, g55, g56, g57, g58, g59, g60, g61, g62, g63, g64, g65, g66, g67, g68, g69, g70, g71, g72, g73, g74, g75, g76, g77, g78, g79, g80, g81, g82, g83, g84, g85, g86, g87, g88, g89, g90, g91, g92, g330, g331, g332, g333, g334, g335, g336, g337, g338, g339, g340, g341, g342, g343, g344, vb false, Z, vi x19, vb false, Z, s25, .tuple #[], Z, Z, Z, Z], []⟩ w370 (fun K => by kernel_rfl) ?_
          refine WPI.done rfl ?_
          refine then_n ?_
          refine WP.seq ?_
          refine WP.region ?_
          obtain ⟨t373, ht373, h⟩ := bd_some h
          refine WPI.run 3 ⟨#[s1, Ttarnlaw13_Act.val p3, Z, vp b4 0, vn, vb false, vb t8, s13, vi x19, s22, s25, vi x26, s1, vb t8, s1, s13, g27, g28, g29, g30, g31, g32, g33, g34, g35, g36, g37, g38, g39, g40, g41, g42, g43, g44, g45, g46, g47, g48, g49, g50, g51, g52, g53, g54, g55, g56, g57, g58, g59, g60, g61, g62, g63, g64, g65, g66, g67, g68, g69, g70, g71, g72, g73, g74, g75, g76, g77, g78, g79, g80, g81, g82, g83, g84, g85, g86, g87, g88, g89, g90, g91, g92, g330, g331, g332, g333, g334, g335, g336, g337, g338, g339, g340, g341, g342, g343, g344, vb false, Z, vi x19, vb false, Z, s25, .tuple #[], s22, s13, s1, Z], []⟩ w370 (fun K => by kernel_rfl) ?_
          refine WPI.op rfl (Op1.call (by kernel_rfl) (by kernel_rfl) (g_tarnref0_EqNodes_w fuel s13 t12 s1 l2 t373 ht373 _ (St.rd H372 1 rfl) (Rd.arg0 hs1 H372)) ?_)
          rintro _ w374 ⟨rfl, Hc375⟩
          have H376 := St.call0' H372 Hc375
          clear H372 Hc375
          refine WPI.run 2 ⟨#[s1, Ttarnlaw13_Act.val p3, Z, vp b4 0, s22, vb t373, vb t8, s13, vi x19, s22, s25, vi x26, s1, vb t8, s1, s13, g27, g28, g29, g30, g31, g32, g33, g34, g35, g36, g37, g38, g39, g40, g41, g42, g43, g44, g45, g46, g47, g48, g49, g50, g51, g52, g53, g54, g55, g56, g57, g58, g59, g60, g61, g62, g63, g64, g65, g66, g67, g68, g69, g70, g71, g72, g73, g74, g75, g76, g77, g78, g79, g80, g81, g82, g83, g84, g85, g86, g87, g88, g89, g90, g91, g92, g330, g331, g332, g333, g334, g335, g336, g337, g338, g339, g340, g341, g342, g343, g344, vb false, Z, vi x19, vb false, Z, s25, .tuple #[], s22, s13, s1, vb t373], []⟩ w374 (fun K => by kernel_rfl) ?_
          refine WPI.done rfl ?_
          refine then_n ?_
          refine WP.ret ?_
          obtain rfl := Option.some.inj h
          exact post_r (.tuple #[s22, vb t373]) rfl (by kernel_rfl) ⟨s22, rfl, (St.rd H376 2 rfl), St.sel H376 [] (by decide) rfl⟩
        | true =>
          replace h := br_t h
          refine WP.condT (by kernel_rfl) ?_
          refine WP.seq ?_
          refine WP.region ?_
          refine WPI.run 3 ⟨#[s1, Ttarnlaw13_Act.val p3, Z, vp b4 0, s1, vb true, vb t8, s13, vi x19, s22, s25, vi x26, s1, vb t8, s1, s13, g27, g28, g29, g30, g31, g32, g33, g34, g35, g36, g37, g38, g39, g40, g41, g42, g43, g44, g45, g46, g47, g48, g49, g50, g51, g52, g53, g54, g55, g56, g57, g58, g59, g60, g61, g62, g63, g64, g65, g66, g67, g68, g69, g70, g71, g72, g73, g74, g75, g76, g77, g78, g79, g80, g81, g82, g83, g84, g85, g86, g87, g88, g89, g90, g91, g92, g330, g331, g332, g333, g334, g335, g336, g337, g338, g339, g340, g341, g342, g343, g344, vb false, Z, vi x19, vb true, s1, Z, Z, Z, Z, Z, Z], []⟩ w362 (fun K => by kernel_rfl) ?_
          refine WPI.done rfl ?_
          refine then_n ?_
          refine WP.ret ?_
          obtain rfl := Option.some.inj h
          exact then_r (post_r (.tuple #[s1, vb true]) rfl (by kernel_rfl) ⟨s1, rfl, (Rd.arg0 hs1 H363), St.sel H363 [] (by decide) rfl⟩)
      | true =>
        replace h := br_t h
        refine WP.condT (by kernel_rfl) ?_
        refine WP.seq ?_
        refine WP.region ?_
        refine WPI.run 3 ⟨#[s1, Ttarnlaw13_Act.val p3, Z, vp b4 0, s1, vb false, vb t8, s13, vi x19, s22, s25, vi x26, s1, vb t8, s1, s13, g27, g28, g29, g30, g31, g32, g33, g34, g35, g36, g37, g38, g39, g40, g41, g42, g43, g44, g45, g46, g47, g48, g49, g50, g51, g52, g53, g54, g55, g56, g57, g58, g59, g60, g61, g62, g63, g64, g65, g66, g67, g68, g69, g70, g71, g72, g73, g74, g75, g76, g77, g78, g79, g80, g81, g82, g83, g84, g85, g86, g87, g88, g89, g90, g91, g92, g330, g331, g332, g333, g334, g335, g336, g337, g338, g339, g340, g341, g342, g343, g344, vb true, s1, Z, Z, Z, Z, Z, Z, Z, Z, Z], []⟩ w362 (fun K => by kernel_rfl) ?_
        refine WPI.done rfl ?_
        refine then_n ?_
        refine WP.ret ?_
        obtain rfl := Option.some.inj h
        exact then_r (post_r (.tuple #[s1, vb false]) rfl (by kernel_rfl) ⟨s1, rfl, (Rd.arg0 hs1 H363), St.sel H363 [] (by decide) rfl⟩)
end Go.Proofs
