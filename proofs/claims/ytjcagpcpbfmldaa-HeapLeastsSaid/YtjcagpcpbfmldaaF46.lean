import Derived.Test.YtjcagpcpbfmldaaGw
import Derived.Test.YtjcagpcpbfmldaaProg
import Derived.Test.YtjcagpcpbfmldaaT
import Derived.Test.YtjcagpcpbfmldaaF37
set_option linter.unusedVariables false
set_option linter.unusedSimpArgs false
set_option maxRecDepth 100000
set_option maxHeartbeats 4000000
namespace Go.Proofs
open Gw Go.RowKit
/- tarn/heap.sink -/
def g_heap_sink_l1 (fuel : Nat) (K63 : (List TNode) → Option (List TNode)) : Nat → (List TNode) → Int → Option (List TNode)
  | 0, _, _ => none
  | n + 1, l64, x65 => lt (wr .i64 (2 * x65)) fun x124 => lt (wr .i64 (x124 + 1)) fun x125 => lt (decide (x125 < (((List.length l64 : Nat) : Int)))) fun c126 => br c126 (jn (fun (l127 : List TNode) (x128 : Int) => g_heap_sink_l1 fuel K63 n l127 x128) fun K178 => lt (wr .i64 (2 * x65)) fun x179 => lt (wr .i64 (x179 + 1)) fun x180 => jn (fun (x181 : Int) => gd ((0 : Int) ≤ x181 ∧ x181 < ((List.length l64 : Nat) : Int)) <| bd (l64[Int.toNat x181]?) fun x243 => gd ((0 : Int) ≤ x65 ∧ x65 < ((List.length l64 : Nat) : Int)) <| bd (l64[Int.toNat x65]?) fun x245 => bd (g_heap_order fuel x243 x245) fun t246 => lt (decide (t246 ≥ 0)) fun c247 => br c247 (K63 l64) (jn (fun (l250 : List TNode) => K178 l250 x181) fun K265 => gd ((0 : Int) ≤ x181 ∧ x181 < ((List.length l64 : Nat) : Int)) <| bd (l64[Int.toNat x181]?) fun x268 => gd ((0 : Int) ≤ x65 ∧ x65 < ((List.length l64 : Nat) : Int)) <| bd (l64[Int.toNat x65]?) fun x270 => gd ((0 : Int) ≤ x65 ∧ x65 < ((List.length l64 : Nat) : Int)) <| lt (List.set l64 (Int.toNat x65) x268) fun l272 => gd ((0 : Int) ≤ x181 ∧ x181 < ((List.length l64 : Nat) : Int)) <| lt (List.set l272 (Int.toNat x181) x270) fun l274 => K265 l274)) fun K202 => jn (fun (c220 : Bool) => br c220 (lt (wr .i64 (x180 + 1)) fun x238 => K202 x238) (K202 x180)) fun K221 => lt (wr .i64 (x180 + 1)) fun x222 => lt (decide (x222 < (((List.length l64 : Nat) : Int)))) fun c223 => br c223 (lt (wr .i64 (x180 + 1)) fun x226 => gd ((0 : Int) ≤ x226 ∧ x226 < ((List.length l64 : Nat) : Int)) <| bd (l64[Int.toNat x226]?) fun x228 => gd ((0 : Int) ≤ x180 ∧ x180 < ((List.length l64 : Nat) : Int)) <| bd (l64[Int.toNat x180]?) fun x230 => bd (g_heap_order fuel x228 x230) fun t231 => lt (decide (t231 < 0)) fun c232 => K221 c232) (K221 false)) (K63 l64)
def g_heap_sink (fuel : Nat) (l2 : List TNode) (p4 : Int) : Option (List TNode) :=
  jn (fun (l6 : List TNode) => some l6) fun K63 => g_heap_sink_l1 fuel K63 fuel l2 p4
theorem g_heap_sink_w (fuel : Nat) (s1 : Value) (l2 : List TNode) (p4 : Int) (r : List TNode) (h : g_heap_sink fuel l2 p4 = some r) (w0 : World) (hm : (Own fTNode 33 s1 l2).holds w0) :
    Ret Try.prog 46 #[s1, vi p4] w0 (fun v w' => v = .tuple #[] ∧ St (Own fTNode 33 s1 l2).fp w0 w' [Own fTNode 33 s1 r]) := by
  unfold g_heap_sink at h
  refine ret_of_wp Try.func46 rfl #[s1, vi p4, Z, Z, Z, Z, Z, Z, Z, Z, Z, Z, Z, Z, Z, Z, Z, Z, Z, Z, Z, Z, Z, Z, Z, Z, Z, Z, Z, Z, Z, Z, Z, Z, Z, Z, Z, Z, Z, Z, Z, Z, Z, Z, Z, Z, Z, Z, Z, Z, Z, Z, Z, Z, Z, Z, Z, Z, Z] (by kernel_rfl) ?_
  have H0 := St.start1 hm
  have sf5 := Own.isSl (St.get H0 0 rfl)
  refine WP.scope ?_
  refine WP.seq ?_
  refine WP.label ?_
  refine then_n ?_
  obtain ⟨K63, hK63, h⟩ := jn_some h
  refine WP.blockJ (fun a w => ∃ (l6 : List TNode) (g7 g8 g9 g10 g11 g12 g13 g14 g15 g16 g17 g18 g19 g20 g21 g22 g23 g24 g25 g26 g27 g28 g29 g30 g31 g32 g33 g34 g35 g36 g37 g38 g39 g40 g41 g42 g43 g44 g45 g46 g47 g48 g49 g50 g51 g52 g53 g54 g55 g56 g57 g58 g59 g60 g61 g62 : Value), a = ⟨#[s1, g7, Z, Z, g8, g9, g10, g11, g12, g13, g14, g15, g16, g17, g18, g19, g20, g21, g22, g23, g24, g25, g26, g27, g28, g29, g30, g31, g32, g33, g34, g35, g36, g37, g38, g39, g40, g41, g42, g43, g44, g45, g46, g47, g48, g49, g50, g51, g52, g53, g54, g55, g56, g57, g58, g59, g60, g61, g62], []⟩ ∧ St (Own fTNode 33 s1 l2).fp w0 w [Own fTNode 33 s1 l6] ∧ K63 l6 = some r) ?_ ?_
  · skip
    refine WP.loop (fun n a w => ∃ (l64 : List TNode) (x65 : Int) (g66 g67 g68 g69 g70 g71 g72 g73 g74 g75 g76 g77 g78 g79 g80 g81 g82 g83 g84 g85 g86 g87 g88 g89 g90 g91 g92 g93 g94 g95 g96 g97 g98 g99 g100 g101 g102 g103 g104 g105 g106 g107 g108 g109 g110 g111 g112 g113 g114 g115 g116 g117 g118 g119 g120 : Value), a = ⟨#[s1, vi x65, Z, Z, g66, g67, g68, g69, g70, g71, g72, g73, g74, g75, g76, g77, g78, g79, g80, g81, g82, g83, g84, g85, g86, g87, g88, g89, g90, g91, g92, g93, g94, g95, g96, g97, g98, g99, g100, g101, g102, g103, g104, g105, g106, g107, g108, g109, g110, g111, g112, g113, g114, g115, g116, g117, g118, g119, g120], []⟩ ∧ St (Own fTNode 33 s1 l2).fp w0 w [Own fTNode 33 s1 l64] ∧ g_heap_sink_l1 fuel K63 n l64 x65 = some r) fuel ⟨l2, p4, _, _, _, _, _, _, _, _, _, _, _, _, _, _, _, _, _, _, _, _, _, _, _, _, _, _, _, _, _, _, _, _, _, _, _, _, _, _, _, _, _, _, _, _, _, _, _, _, _, _, _, _, _, _, _, rfl, St.sel H0 [0] (by decide) rfl, h⟩ ?_
    rintro n a w ⟨l64, x65, g66, g67, g68, g69, g70, g71, g72, g73, g74, g75, g76, g77, g78, g79, g80, g81, g82, g83, g84, g85, g86, g87, g88, g89, g90, g91, g92, g93, g94, g95, g96, g97, g98, g99, g100, g101, g102, g103, g104, g105, g106, g107, g108, g109, g110, g111, g112, g113, g114, g115, g116, g117, g118, g119, g120, rfl, H, h⟩
    cases n with
    | zero => rw [g_heap_sink_l1] at h; cases h
    | succ n =>
      rw [g_heap_sink_l1] at h
      obtain ⟨w121, rfl⟩ : ∃ x, x = w := ⟨_, rfl⟩
      have H122 := H; clear H
      have sf123 := Own.isSl (St.get H122 0 rfl)
      refine WP.seq ?_
      refine WP.seq ?_
      refine WP.region ?_
      obtain ⟨x124, hx124, h⟩ := lt_some h
      obtain ⟨x125, hx125, h⟩ := lt_some h
      refine WPI.run 4 ⟨#[s1, vi x65, Z, Z, g66, vi x65, vi x124, vi x125, s1, g71, g72, g73, g74, g75, g76, g77, g78, g79, g80, g81, g82, g83, g84, g85, g86, g87, g88, g89, g90, g91, g92, g93, g94, g95, g96, g97, g98, g99, g100, g101, g102, g103, g104, g105, g106, g107, g108, g109, g110, g111, g112, g113, g114, g115, g116, g117, g118, g119, g120], []⟩ w121 (fun K => by subst hx125 hx124; kernel_rfl) ?_
      refine WPI.value (v := vi (((List.length l64 : Nat) : Int))) rfl (by kernel_rfl) (ev_len sf123 22 (.tmp 8) 33 6 48 rfl (by kernel_rfl) (by kernel_rfl)) ?_
      obtain ⟨c126, hc126, h⟩ := lt_some h
      refine WPI.run 1 ⟨#[s1, vi x65, Z, Z, g66, vi x65, vi x124, vi x125, s1, vi (((List.length l64 : Nat) : Int)), vb c126, g73, g74, g75, g76, g77, g78, g79, g80, g81, g82, g83, g84, g85, g86, g87, g88, g89, g90, g91, g92, g93, g94, g95, g96, g97, g98, g99, g100, g101, g102, g103, g104, g105, g106, g107, g108, g109, g110, g111, g112, g113, g114, g115, g116, g117, g118, g119, g120], []⟩ w121 (fun K => by subst hc126; kernel_rfl) ?_
      refine WPI.done rfl ?_
      refine then_n ?_
      cases c126 with
      | false =>
        replace h := br_f h
        refine WP.condF (by kernel_rfl) ?_
        refine WP.exit ?_
        exact then_e (then_e (inb_e (then_n ⟨l64, _, _, _, _, _, _, _, _, _, _, _, _, _, _, _, _, _, _, _, _, _, _, _, _, _, _, _, _, _, _, _, _, _, _, _, _, _, _, _, _, _, _, _, _, _, _, _, _, _, _, _, _, _, _, _, _, rfl, St.sel H122 [0] (by decide) rfl, h⟩)))
      | true =>
        replace h := br_t h
        refine WP.condT (by kernel_rfl) ?_
        refine WP.skip ?_
        refine then_n ?_
        obtain ⟨K178, hK178, h⟩ := jn_some h
        refine WP.blockJ (fun a w => ∃ (l127 : List TNode) (x128 : Int) (g129 g130 g131 g132 g133 g134 g135 g136 g137 g138 g139 g140 g141 g142 g143 g144 g145 g146 g147 g148 g149 g150 g151 g152 g153 g154 g155 g156 g157 g158 g159 g160 g161 g162 g163 g164 g165 g166 g167 g168 g169 g170 g171 g172 g173 g174 g175 g176 g177 : Value), a = ⟨#[s1, vi x128, Z, Z, g129, vi x65, vi x124, vi x125, s1, vi (((List.length l64 : Nat) : Int)), vb true, g130, g131, g132, g133, g134, g135, g136, g137, g138, g139, g140, g141, g142, g143, g144, g145, g146, g147, g148, g149, g150, g151, g152, g153, g154, g155, g156, g157, g158, g159, g160, g161, g162, g163, g164, g165, g166, g167, g168, g169, g170, g171, g172, g173, g174, g175, g176, g177], []⟩ ∧ St (Own fTNode 33 s1 l2).fp w0 w [Own fTNode 33 s1 l127] ∧ K178 l127 x128 = some r) ?_ ?_
        · skip
          refine WP.seq ?_
          refine WP.region ?_
          obtain ⟨x179, hx179, h⟩ := lt_some h
          obtain ⟨x180, hx180, h⟩ := lt_some h
          refine WPI.run 4 ⟨#[s1, vi x65, Z, Z, vi x180, vi x65, vi x124, vi x125, s1, vi (((List.length l64 : Nat) : Int)), vb true, vi x65, vi x179, vi x180, g76, g77, g78, g79, g80, g81, g82, g83, g84, g85, g86, g87, g88, g89, g90, g91, g92, g93, g94, g95, g96, g97, g98, g99, g100, g101, g102, g103, g104, g105, g106, g107, g108, g109, g110, g111, g112, g113, g114, g115, g116, g117, g118, g119, g120], []⟩ w121 (fun K => by subst hx180 hx179; kernel_rfl) ?_
          refine WPI.done rfl ?_
          refine then_n ?_
          obtain ⟨K202, hK202, h⟩ := jn_some h
          refine WP.seqJ (fun a w => ∃ (x181 : Int) (g182 g183 g184 g185 g186 g187 g188 g189 g190 g191 g192 g193 g194 g195 g196 g197 g198 g199 g200 g201 : Value), a = ⟨#[s1, vi x65, Z, Z, vi x181, vi x65, vi x124, vi x125, s1, vi (((List.length l64 : Nat) : Int)), vb true, vi x65, vi x179, vi x180, g182, g183, g184, g185, g186, g187, g188, g189, g190, g191, g192, g193, g194, g195, g196, g197, g198, g199, g200, g201, g96, g97, g98, g99, g100, g101, g102, g103, g104, g105, g106, g107, g108, g109, g110, g111, g112, g113, g114, g115, g116, g117, g118, g119, g120], []⟩ ∧ St (Own fTNode 33 s1 l2).fp w0 w [Own fTNode 33 s1 l64] ∧ K202 x181 = some r) ?_ ?_
          · skip
            refine WP.seq ?_
            obtain ⟨K221, hK221, h⟩ := jn_some h
            refine WP.onlyN (fun a w => ∃ (c220 : Bool) (g203 g204 g205 g206 g207 g208 g209 g210 g211 g212 g213 g214 g215 g216 g217 g218 g219 : Value), a = ⟨#[s1, vi x65, Z, Z, vi x180, vi x65, vi x124, vi x125, s1, vi (((List.length l64 : Nat) : Int)), vb true, vi x65, vi x179, vi x180, g203, g204, g205, g206, g207, g208, g209, g210, g211, g212, g213, g214, g215, g216, g217, g218, g219, vb c220, g94, g95, g96, g97, g98, g99, g100, g101, g102, g103, g104, g105, g106, g107, g108, g109, g110, g111, g112, g113, g114, g115, g116, g117, g118, g119, g120], []⟩ ∧ St (Own fTNode 33 s1 l2).fp w0 w [Own fTNode 33 s1 l64] ∧ K221 c220 = some r) ?_ ?_
            · skip
              refine WP.quiet (by kernel_rfl) (by kernel_rfl) (by kernel_rfl) (fun w => St (Own fTNode 33 s1 l2).fp w0 w [Own fTNode 33 s1 l64]) (St.drew H122) ?_
              refine WQ.value (v := vi x180) rfl (by kernel_rfl) (fun w _ => by kernel_rfl) ?_
              obtain ⟨x222, hx222, h⟩ := lt_some h
              refine WQ.value (v := vi x222) rfl (by kernel_rfl) (fun w _ => by subst hx222; kernel_rfl) ?_
              refine WQ.value (v := s1) rfl (by kernel_rfl) (fun w _ => by kernel_rfl) ?_
              refine WQ.value (v := vi (((List.length l64 : Nat) : Int))) rfl (by kernel_rfl) (fun w H => ev_len sf123 22 (.tmp 16) 33 6 48 rfl (by kernel_rfl) (by kernel_rfl)) ?_
              obtain ⟨c223, hc223, h⟩ := lt_some h
              refine WQ.value (v := vb c223) rfl (by kernel_rfl) (fun w _ => by subst hc223; kernel_rfl) ?_
              refine WQ.value (v := vb c223) rfl (by kernel_rfl) (fun w _ => by kernel_rfl) ?_
              cases c223 with
              | false =>
                replace h := br_f h
                refine WQ.off rfl (by kernel_rfl) ?_
                refine WQ.off rfl (by kernel_rfl) ?_
                refine WQ.off rfl (by kernel_rfl) ?_
                refine WQ.off rfl (by kernel_rfl) ?_
                refine WQ.off rfl (by kernel_rfl) ?_
                refine WQ.off rfl (by kernel_rfl) ?_
                refine WQ.off rfl (by kernel_rfl) ?_
                refine WQ.off rfl (by kernel_rfl) ?_
                refine WQ.off rfl (by kernel_rfl) ?_
                refine WQ.off rfl (by kernel_rfl) ?_
                refine WQ.off rfl (by kernel_rfl) ?_
                refine WQ.value (v := vb false) rfl (by kernel_rfl) (fun w _ => by kernel_rfl) ?_
                refine WQ.frame (a' := ⟨#[s1, vi x65, Z, Z, vi x180, vi x65, vi x124, vi x125, s1, vi (((List.length l64 : Nat) : Int)), vb true, vi x65, vi x179, vi x180, vi x180, vi x222, s1, vi (((List.length l64 : Nat) : Int)), vb false, vb false, Z, Z, Z, Z, Z, Z, Z, Z, Z, Z, Z, vb false, g94, g95, g96, g97, g98, g99, g100, g101, g102, g103, g104, g105, g106, g107, g108, g109, g110, g111, g112, g113, g114, g115, g116, g117, g118, g119, g120], []⟩) (by kernel_rfl) ?_
                refine WQ.done rfl ?_
                refine (fun w224 H225 => ?_)
                exact ⟨false, _, _, _, _, _, _, _, _, _, _, _, _, _, _, _, _, _, rfl, St.sel H225 [0] (by decide) rfl, h⟩
              | true =>
                replace h := br_t h
                refine WQ.value (v := s1) rfl (by kernel_rfl) (fun w _ => by kernel_rfl) ?_
                refine WQ.value (v := vi x180) rfl (by kernel_rfl) (fun w _ => by kernel_rfl) ?_
                obtain ⟨x226, hx226, h⟩ := lt_some h
                refine WQ.value (v := vi x226) rfl (by kernel_rfl) (fun w _ => by subst hx226; kernel_rfl) ?_
                obtain ⟨hg227, h⟩ := gd_some h
                refine WQ.value (v := va (slAt s1 6 (Int.toNat x226))) rfl (by kernel_rfl) (fun w H => ev_index sf123 22 (.tmp 20) (.tmp 22) 33 6 48 .i64 x226 rfl (by kernel_rfl) (by kernel_rfl) (by kernel_rfl) hg227) ?_
                obtain ⟨x228, hx228, h⟩ := bd_some h
                refine WQ.value (v := TNode.val x228) rfl (by kernel_rfl) (fun w H => ev_loadEl (F := fTNode) (St.rd H 0 rfl) (hp_no_le _) hx228 33 (.tmp 23) 0 (TNode.val x228) rfl (by kernel_rfl) (by kernel_rfl)) ?_
                refine WQ.value (v := s1) rfl (by kernel_rfl) (fun w _ => by kernel_rfl) ?_
                refine WQ.value (v := vi x180) rfl (by kernel_rfl) (fun w _ => by kernel_rfl) ?_
                obtain ⟨hg229, h⟩ := gd_some h
                refine WQ.value (v := va (slAt s1 6 (Int.toNat x180))) rfl (by kernel_rfl) (fun w H => ev_index sf123 22 (.tmp 25) (.tmp 26) 33 6 48 .i64 x180 rfl (by kernel_rfl) (by kernel_rfl) (by kernel_rfl) hg229) ?_
                obtain ⟨x230, hx230, h⟩ := bd_some h
                refine WQ.value (v := TNode.val x230) rfl (by kernel_rfl) (fun w H => ev_loadEl (F := fTNode) (St.rd H 0 rfl) (hp_no_le _) hx230 33 (.tmp 27) 0 (TNode.val x230) rfl (by kernel_rfl) (by kernel_rfl)) ?_
                obtain ⟨t231, ht231, h⟩ := bd_some h
                refine WQ.call (v := vi t231) rfl (by kernel_rfl) (fun w => by kernel_rfl) (fun w H => Ret.mono (g_heap_order_w fuel x228 x230 t231 ht231 _) fun u w1 hu => ⟨hu.1, St.call0' H hu.2⟩) ?_
                obtain ⟨c232, hc232, h⟩ := lt_some h
                refine WQ.value (v := vb c232) rfl (by kernel_rfl) (fun w _ => by subst hc232; kernel_rfl) ?_
                refine WQ.value (v := vb c232) rfl (by kernel_rfl) (fun w _ => by kernel_rfl) ?_
                refine WQ.frame (a' := ⟨#[s1, vi x65, Z, Z, vi x180, vi x65, vi x124, vi x125, s1, vi (((List.length l64 : Nat) : Int)), vb true, vi x65, vi x179, vi x180, vi x180, vi x222, s1, vi (((List.length l64 : Nat) : Int)), vb true, vb true, s1, vi x180, vi x226, va (slAt s1 6 (Int.toNat x226)), TNode.val x228, s1, vi x180, va (slAt s1 6 (Int.toNat x180)), TNode.val x230, vi t231, vb c232, vb c232, g94, g95, g96, g97, g98, g99, g100, g101, g102, g103, g104, g105, g106, g107, g108, g109, g110, g111, g112, g113, g114, g115, g116, g117, g118, g119, g120], []⟩) (by kernel_rfl) ?_
                refine WQ.done rfl ?_
                refine (fun w233 H234 => ?_)
                exact ⟨c232, _, _, _, _, _, _, _, _, _, _, _, _, _, _, _, _, _, rfl, St.sel H234 [0] (by decide) rfl, h⟩
            · rintro a w ⟨c220, g203, g204, g205, g206, g207, g208, g209, g210, g211, g212, g213, g214, g215, g216, g217, g218, g219, rfl, H, h⟩
              subst hK221
              obtain ⟨w235, rfl⟩ : ∃ x, x = w := ⟨_, rfl⟩
              have H236 := H; clear H
              have sf237 := Own.isSl (St.get H236 0 rfl)
              refine then_n ?_
              cases c220 with
              | false =>
                replace h := br_f h
                refine WP.condF (by kernel_rfl) ?_
                refine WP.skip ?_
                exact then_n ⟨x180, _, _, _, _, _, _, _, _, _, _, _, _, _, _, _, _, _, _, _, _, rfl, St.sel H236 [0] (by decide) rfl, h⟩
              | true =>
                replace h := br_t h
                refine WP.condT (by kernel_rfl) ?_
                refine WP.region ?_
                obtain ⟨x238, hx238, h⟩ := lt_some h
                refine WPI.run 3 ⟨#[s1, vi x65, Z, Z, vi x238, vi x65, vi x124, vi x125, s1, vi (((List.length l64 : Nat) : Int)), vb true, vi x65, vi x179, vi x180, g203, g204, g205, g206, g207, g208, g209, g210, g211, g212, g213, g214, g215, g216, g217, g218, g219, vb true, vi x180, vi x238, g96, g97, g98, g99, g100, g101, g102, g103, g104, g105, g106, g107, g108, g109, g110, g111, g112, g113, g114, g115, g116, g117, g118, g119, g120], []⟩ w235 (fun K => by subst hx238; kernel_rfl) ?_
                refine WPI.done rfl ?_
                exact then_n ⟨x238, _, _, _, _, _, _, _, _, _, _, _, _, _, _, _, _, _, _, _, _, rfl, St.sel H236 [0] (by decide) rfl, h⟩
          · rintro a w ⟨x181, g182, g183, g184, g185, g186, g187, g188, g189, g190, g191, g192, g193, g194, g195, g196, g197, g198, g199, g200, g201, rfl, H, h⟩
            subst hK202
            obtain ⟨w239, rfl⟩ : ∃ x, x = w := ⟨_, rfl⟩
            have H240 := H; clear H
            have sf241 := Own.isSl (St.get H240 0 rfl)
            refine WP.seq ?_
            refine WP.seq ?_
            refine WP.quiet (by kernel_rfl) (by kernel_rfl) (by kernel_rfl) (fun w => St (Own fTNode 33 s1 l2).fp w0 w [Own fTNode 33 s1 l64]) (St.drew H240) ?_
            refine WQ.value (v := s1) rfl (by kernel_rfl) (fun w _ => by kernel_rfl) ?_
            refine WQ.value (v := vi x181) rfl (by kernel_rfl) (fun w _ => by kernel_rfl) ?_
            obtain ⟨hg242, h⟩ := gd_some h
            refine WQ.value (v := va (slAt s1 6 (Int.toNat x181))) rfl (by kernel_rfl) (fun w H => ev_index sf241 22 (.tmp 34) (.tmp 35) 33 6 48 .i64 x181 rfl (by kernel_rfl) (by kernel_rfl) (by kernel_rfl) hg242) ?_
            obtain ⟨x243, hx243, h⟩ := bd_some h
            refine WQ.value (v := TNode.val x243) rfl (by kernel_rfl) (fun w H => ev_loadEl (F := fTNode) (St.rd H 0 rfl) (hp_no_le _) hx243 33 (.tmp 36) 0 (TNode.val x243) rfl (by kernel_rfl) (by kernel_rfl)) ?_
            refine WQ.value (v := s1) rfl (by kernel_rfl) (fun w _ => by kernel_rfl) ?_
            refine WQ.value (v := vi x65) rfl (by kernel_rfl) (fun w _ => by kernel_rfl) ?_
            obtain ⟨hg244, h⟩ := gd_some h
            refine WQ.value (v := va (slAt s1 6 (Int.toNat x65))) rfl (by kernel_rfl) (fun w H => ev_index sf241 22 (.tmp 38) (.tmp 39) 33 6 48 .i64 x65 rfl (by kernel_rfl) (by kernel_rfl) (by kernel_rfl) hg244) ?_
            obtain ⟨x245, hx245, h⟩ := bd_some h
            refine WQ.value (v := TNode.val x245) rfl (by kernel_rfl) (fun w H => ev_loadEl (F := fTNode) (St.rd H 0 rfl) (hp_no_le _) hx245 33 (.tmp 40) 0 (TNode.val x245) rfl (by kernel_rfl) (by kernel_rfl)) ?_
            obtain ⟨t246, ht246, h⟩ := bd_some h
            refine WQ.call (v := vi t246) rfl (by kernel_rfl) (fun w => by kernel_rfl) (fun w H => Ret.mono (g_heap_order_w fuel x243 x245 t246 ht246 _) fun u w1 hu => ⟨hu.1, St.call0' H hu.2⟩) ?_
            obtain ⟨c247, hc247, h⟩ := lt_some h
            refine WQ.value (v := vb c247) rfl (by kernel_rfl) (fun w _ => by subst hc247; kernel_rfl) ?_
            refine WQ.frame (a' := ⟨#[s1, vi x65, Z, Z, vi x181, vi x65, vi x124, vi x125, s1, vi (((List.length l64 : Nat) : Int)), vb true, vi x65, vi x179, vi x180, g182, g183, g184, g185, g186, g187, g188, g189, g190, g191, g192, g193, g194, g195, g196, g197, g198, g199, g200, g201, s1, vi x181, va (slAt s1 6 (Int.toNat x181)), TNode.val x243, s1, vi x65, va (slAt s1 6 (Int.toNat x65)), TNode.val x245, vi t246, vb c247, g106, g107, g108, g109, g110, g111, g112, g113, g114, g115, g116, g117, g118, g119, g120], []⟩) (by kernel_rfl) ?_
            refine WQ.done rfl ?_
            refine (fun w248 H249 => ?_)
            refine then_n ?_
            cases c247 with
            | false =>
              replace h := br_f h
              refine WP.condF (by kernel_rfl) ?_
              refine WP.skip ?_
              refine then_n ?_
              refine WP.seq ?_
              obtain ⟨K265, hK265, h⟩ := jn_some h
              refine WP.draw (by kernel_rfl) (by kernel_rfl) (fun a w => ∃ (l250 : List TNode) (g251 g252 g253 g254 g255 g256 g257 g258 g259 g260 g261 g262 g263 g264 : Value), a = ⟨#[s1, vi x65, Z, Z, vi x181, vi x65, vi x124, vi x125, s1, vi (((List.length l64 : Nat) : Int)), vb true, vi x65, vi x179, vi x180, g182, g183, g184, g185, g186, g187, g188, g189, g190, g191, g192, g193, g194, g195, g196, g197, g198, g199, g200, g201, s1, vi x181, va (slAt s1 6 (Int.toNat x181)), TNode.val x243, s1, vi x65, va (slAt s1 6 (Int.toNat x65)), TNode.val x245, vi t246, vb false, g251, g252, g253, g254, g255, g256, g257, g258, g259, g260, g261, g262, g263, g264, g120], []⟩ ∧ St (Own fTNode 33 s1 l2).fp w0 w [Own fTNode 33 s1 l250] ∧ K265 l250 = some r) 16 #[false, false, false, false, false, false, false, false, false, false, false, false, false, false, false, false] (by kernel_rfl) (by kernel_rfl) ?_ ?_
              · skip
                have H266 := St.drew H249
                obtain ⟨hg267, h⟩ := gd_some h
                obtain ⟨x268, hx268, h⟩ := bd_some h
                obtain ⟨hg269, h⟩ := gd_some h
                obtain ⟨x270, hx270, h⟩ := bd_some h
                obtain ⟨hg271, h⟩ := gd_some h
                obtain ⟨l272, hl272, h⟩ := lt_some h
                obtain ⟨hg273, h⟩ := gd_some h
                obtain ⟨l274, hl274, h⟩ := lt_some h
                refine WA.take 0 (v := s1) rfl (by kernel_rfl) (by kernel_rfl) (fun w => by kernel_rfl) (fun w => by kernel_rfl) (l' := #[true, false, false, false, false, false, false, false, false, false, false, false, false, false, false, false]) (by kernel_rfl) ?_
                refine WA.take 1 (v := vi x65) rfl (by kernel_rfl) (by kernel_rfl) (fun w => by kernel_rfl) (fun w => by kernel_rfl) (l' := #[true, true, false, false, false, false, false, false, false, false, false, false, false, false, false, false]) (by kernel_rfl) ?_
                refine WA.take 2 (v := s1) rfl (by kernel_rfl) (by kernel_rfl) (fun w => by kernel_rfl) (fun w => by kernel_rfl) (l' := #[true, true, true, false, false, false, false, false, false, false, false, false, false, false, false, false]) (by kernel_rfl) ?_
                refine WA.take 3 (v := vi x181) rfl (by kernel_rfl) (by kernel_rfl) (fun w => by kernel_rfl) (fun w => by kernel_rfl) (l' := #[true, true, true, true, false, false, false, false, false, false, false, false, false, false, false, false]) (by kernel_rfl) ?_
                refine WA.take 4 (v := s1) rfl (by kernel_rfl) (by kernel_rfl) (fun w => by kernel_rfl) (fun w => by kernel_rfl) (l' := #[true, true, true, true, true, false, false, false, false, false, false, false, false, false, false, false]) (by kernel_rfl) ?_
                refine WA.take 5 (v := vi x181) rfl (by kernel_rfl) (by kernel_rfl) (fun w => by kernel_rfl) (fun w => by kernel_rfl) (l' := #[true, true, true, true, true, true, false, false, false, false, false, false, false, false, false, false]) (by kernel_rfl) ?_
                refine WA.take 6 (v := va (slAt s1 6 (Int.toNat x181))) rfl (by kernel_rfl) (by kernel_rfl) (fun w => ev_index sf241 22 (.tmp 48) (.tmp 49) 33 6 48 .i64 x181 rfl (by kernel_rfl) (by kernel_rfl) (by kernel_rfl) hg267) (fun w => by kernel_rfl) (l' := #[true, true, true, true, true, true, true, false, false, false, false, false, false, false, false, false]) (by kernel_rfl) ?_
                refine WA.take 8 (v := s1) rfl (by kernel_rfl) (by kernel_rfl) (fun w => by kernel_rfl) (fun w => by kernel_rfl) (l' := #[true, true, true, true, true, true, true, false, true, false, false, false, false, false, false, false]) (by kernel_rfl) ?_
                refine WA.take 9 (v := vi x65) rfl (by kernel_rfl) (by kernel_rfl) (fun w => by kernel_rfl) (fun w => by kernel_rfl) (l' := #[true, true, true, true, true, true, true, false, true, true, false, false, false, false, false, false]) (by kernel_rfl) ?_
                refine WA.take 10 (v := va (slAt s1 6 (Int.toNat x65))) rfl (by kernel_rfl) (by kernel_rfl) (fun w => ev_index sf241 22 (.tmp 52) (.tmp 53) 33 6 48 .i64 x65 rfl (by kernel_rfl) (by kernel_rfl) (by kernel_rfl) hg269) (fun w => by kernel_rfl) (l' := #[true, true, true, true, true, true, true, false, true, true, true, false, false, false, false, false]) (by kernel_rfl) ?_
                refine WA.any [7, 11] (by kernel_rfl) (by simp) ?_
                simp only [List.mem_cons, List.not_mem_nil, or_false, forall_eq_or_imp, forall_eq]
                refine ⟨?_, ?_⟩
                · skip
                  refine WO.op rfl (Op1.val (v := TNode.val x268) (by kernel_rfl) (ev_loadEl (F := fTNode) (St.rd H266 0 rfl) (hp_no_le _) hx268 33 (.tmp 50) 0 (TNode.val x268) rfl (by kernel_rfl) (by kernel_rfl)) ?_)
                  refine WA.lst (l := #[true, true, true, true, true, true, true, true, true, true, true, false, false, false, false, false]) (by kernel_rfl) ?_
                  refine WA.any [11] (by kernel_rfl) (by simp) ?_
                  simp only [List.mem_singleton, forall_eq]
                  refine WO.op rfl (Op1.val (v := TNode.val x270) (by kernel_rfl) (ev_loadEl (F := fTNode) (St.rd H266 0 rfl) (hp_no_le _) hx270 33 (.tmp 54) 0 (TNode.val x270) rfl (by kernel_rfl) (by kernel_rfl)) ?_)
                  refine WA.lst (l := #[true, true, true, true, true, true, true, true, true, true, true, true, false, false, false, false]) (by kernel_rfl) ?_
                  refine WA.take 12 (v := va (slAt s1 6 (Int.toNat x65))) rfl (by kernel_rfl) (by kernel_rfl) (fun w => ev_index sf241 22 (.tmp 44) (.tmp 45) 33 6 48 .i64 x65 rfl (by kernel_rfl) (by kernel_rfl) (by kernel_rfl) hg271) (fun w => by kernel_rfl) (l' := #[true, true, true, true, true, true, true, true, true, true, true, true, true, false, false, false]) (by kernel_rfl) ?_
                  refine WA.any [13] (by kernel_rfl) (by simp) ?_
                  simp only [List.mem_singleton, forall_eq]
                  refine WO.op rfl (Op1.storeOwn H266 0 rfl (by kernel_rfl) 33 (.tmp 56) (.tmp 51) (Int.toNat x65) x268 true rfl (by kernel_rfl) (by kernel_rfl) (by kernel_rfl) (idx_lt hg271) (fun w275 H276 => ?_))
                  rw [← hl272] at H276
                  clear H266
                  refine WA.lst (l := #[true, true, true, true, true, true, true, true, true, true, true, true, true, true, false, false]) (by kernel_rfl) ?_
                  refine WA.take 14 (v := va (slAt s1 6 (Int.toNat x181))) rfl (by kernel_rfl) (by kernel_rfl) (fun w => ev_index sf241 22 (.tmp 46) (.tmp 47) 33 6 48 .i64 x181 rfl (by kernel_rfl) (by kernel_rfl) (by kernel_rfl) hg273) (fun w => by kernel_rfl) (l' := #[true, true, true, true, true, true, true, true, true, true, true, true, true, true, true, false]) (by kernel_rfl) ?_
                  refine WA.any [15] (by kernel_rfl) (by simp) ?_
                  simp only [List.mem_singleton, forall_eq]
                  refine WO.op rfl (Op1.storeOwn H276 0 rfl (by kernel_rfl) 33 (.tmp 57) (.tmp 55) (Int.toNat x181) x270 true rfl (by kernel_rfl) (by kernel_rfl) (by kernel_rfl) (by simp only [hl272, List.length_set]; exact idx_lt hg273) (fun w277 H278 => ?_))
                  rw [← hl274] at H278
                  clear H276
                  refine WA.lst (l := #[true, true, true, true, true, true, true, true, true, true, true, true, true, true, true, true]) (by kernel_rfl) ?_
                  refine WA.done (by kernel_rfl) ?_
                  exact ⟨l274, s1, (vi x65), s1, (vi x181), s1, (vi x181), (va (slAt s1 6 (Int.toNat x181))), (TNode.val x268), s1, (vi x65), (va (slAt s1 6 (Int.toNat x65))), (TNode.val x270), (va (slAt s1 6 (Int.toNat x65))), (va (slAt s1 6 (Int.toNat x181))), (by kernel_rfl), St.sel H278 [0] (by decide) rfl, h⟩
                · skip
                  refine WO.op rfl (Op1.val (v := TNode.val x270) (by kernel_rfl) (ev_loadEl (F := fTNode) (St.rd H266 0 rfl) (hp_no_le _) hx270 33 (.tmp 54) 0 (TNode.val x270) rfl (by kernel_rfl) (by kernel_rfl)) ?_)
                  refine WA.lst (l := #[true, true, true, true, true, true, true, false, true, true, true, true, false, false, false, false]) (by kernel_rfl) ?_
                  refine WA.any [7] (by kernel_rfl) (by simp) ?_
                  simp only [List.mem_singleton, forall_eq]
                  refine WO.op rfl (Op1.val (v := TNode.val x268) (by kernel_rfl) (ev_loadEl (F := fTNode) (St.rd H266 0 rfl) (hp_no_le _) hx268 33 (.tmp 50) 0 (TNode.val x268) rfl (by kernel_rfl) (by kernel_rfl)) ?_)
                  refine WA.lst (l := #[true, true, true, true, true, true, true, true, true, true, true, true, false, false, false, false]) (by kernel_rfl) ?_
                  refine WA.take 12 (v := va (slAt s1 6 (Int.toNat x65))) rfl (by kernel_rfl) (by kernel_rfl) (fun w => ev_index sf241 22 (.tmp 44) (.tmp 45) 33 6 48 .i64 x65 rfl (by kernel_rfl) (by kernel_rfl) (by kernel_rfl) hg271) (fun w => by kernel_rfl) (l' := #[true, true, true, true, true, true, true, true, true, true, true, true, true, false, false, false]) (by kernel_rfl) ?_
                  refine WA.any [13] (by kernel_rfl) (by simp) ?_
                  simp only [List.mem_singleton, forall_eq]
                  refine WO.op rfl (Op1.storeOwn H266 0 rfl (by kernel_rfl) 33 (.tmp 56) (.tmp 51) (Int.toNat x65) x268 true rfl (by kernel_rfl) (by kernel_rfl) (by kernel_rfl) (idx_lt hg271) (fun w279 H280 => ?_))
                  rw [← hl272] at H280
                  clear H266
                  refine WA.lst (l := #[true, true, true, true, true, true, true, true, true, true, true, true, true, true, false, false]) (by kernel_rfl) ?_
                  refine WA.take 14 (v := va (slAt s1 6 (Int.toNat x181))) rfl (by kernel_rfl) (by kernel_rfl) (fun w => ev_index sf241 22 (.tmp 46) (.tmp 47) 33 6 48 .i64 x181 rfl (by kernel_rfl) (by kernel_rfl) (by kernel_rfl) hg273) (fun w => by kernel_rfl) (l' := #[true, true, true, true, true, true, true, true, true, true, true, true, true, true, true, false]) (by kernel_rfl) ?_
                  refine WA.any [15] (by kernel_rfl) (by simp) ?_
                  simp only [List.mem_singleton, forall_eq]
                  refine WO.op rfl (Op1.storeOwn H280 0 rfl (by kernel_rfl) 33 (.tmp 57) (.tmp 55) (Int.toNat x181) x270 true rfl (by kernel_rfl) (by kernel_rfl) (by kernel_rfl) (by simp only [hl272, List.length_set]; exact idx_lt hg273) (fun w281 H282 => ?_))
                  rw [← hl274] at H282
                  clear H280
                  refine WA.lst (l := #[true, true, true, true, true, true, true, true, true, true, true, true, true, true, true, true]) (by kernel_rfl) ?_
                  refine WA.done (by kernel_rfl) ?_
                  exact ⟨l274, s1, (vi x65), s1, (vi x181), s1, (vi x181), (va (slAt s1 6 (Int.toNat x181))), (TNode.val x268), s1, (vi x65), (va (slAt s1 6 (Int.toNat x65))), (TNode.val x270), (va (slAt s1 6 (Int.toNat x65))), (va (slAt s1 6 (Int.toNat x181))), (by kernel_rfl), St.sel H282 [0] (by decide) rfl, h⟩
              · rintro a w ⟨l250, g251, g252, g253, g254, g255, g256, g257, g258, g259, g260, g261, g262, g263, g264, rfl, H, h⟩
                subst hK265
                obtain ⟨w283, rfl⟩ : ∃ x, x = w := ⟨_, rfl⟩
                have H284 := H; clear H
                have sf285 := Own.isSl (St.get H284 0 rfl)
                refine then_n ?_
                refine WP.region ?_
                refine WPI.run 2 ⟨#[s1, vi x181, Z, Z, vi x181, vi x65, vi x124, vi x125, s1, vi (((List.length l64 : Nat) : Int)), vb true, vi x65, vi x179, vi x180, g182, g183, g184, g185, g186, g187, g188, g189, g190, g191, g192, g193, g194, g195, g196, g197, g198, g199, g200, g201, s1, vi x181, va (slAt s1 6 (Int.toNat x181)), TNode.val x243, s1, vi x65, va (slAt s1 6 (Int.toNat x65)), TNode.val x245, vi t246, vb false, g251, g252, g253, g254, g255, g256, g257, g258, g259, g260, g261, g262, g263, g264, vi x181], []⟩ w283 (fun K => by kernel_rfl) ?_
                refine WPI.done rfl ?_
                exact inb_n (then_n ⟨l250, x181, _, _, _, _, _, _, _, _, _, _, _, _, _, _, _, _, _, _, _, _, _, _, _, _, _, _, _, _, _, _, _, _, _, _, _, _, _, _, _, _, _, _, _, _, _, _, _, _, _, rfl, St.sel H284 [0] (by decide) rfl, h⟩)
            | true =>
              replace h := br_t h
              refine WP.condT (by kernel_rfl) ?_
              refine WP.exit ?_
              exact then_e (inb_x (by decide) (then_e (then_e (inb_e (then_n ⟨l64, _, _, _, _, _, _, _, _, _, _, _, _, _, _, _, _, _, _, _, _, _, _, _, _, _, _, _, _, _, _, _, _, _, _, _, _, _, _, _, _, _, _, _, _, _, _, _, _, _, _, _, _, _, _, _, _, rfl, St.sel H249 [0] (by decide) rfl, h⟩)))))
        · rintro a w ⟨l127, x128, g129, g130, g131, g132, g133, g134, g135, g136, g137, g138, g139, g140, g141, g142, g143, g144, g145, g146, g147, g148, g149, g150, g151, g152, g153, g154, g155, g156, g157, g158, g159, g160, g161, g162, g163, g164, g165, g166, g167, g168, g169, g170, g171, g172, g173, g174, g175, g176, g177, rfl, H, h⟩
          subst hK178
          obtain ⟨w286, rfl⟩ : ∃ x, x = w := ⟨_, rfl⟩
          have H287 := H; clear H
          have sf288 := Own.isSl (St.get H287 0 rfl)
          exact then_n ⟨n, Nat.lt_succ_self n, l127, x128, _, _, _, _, _, _, _, _, _, _, _, _, _, _, _, _, _, _, _, _, _, _, _, _, _, _, _, _, _, _, _, _, _, _, _, _, _, _, _, _, _, _, _, _, _, _, _, _, _, _, _, _, _, _, _, rfl, St.sel H287 [0] (by decide) rfl, h⟩
  · rintro a w ⟨l6, g7, g8, g9, g10, g11, g12, g13, g14, g15, g16, g17, g18, g19, g20, g21, g22, g23, g24, g25, g26, g27, g28, g29, g30, g31, g32, g33, g34, g35, g36, g37, g38, g39, g40, g41, g42, g43, g44, g45, g46, g47, g48, g49, g50, g51, g52, g53, g54, g55, g56, g57, g58, g59, g60, g61, g62, rfl, H, h⟩
    subst hK63
    obtain ⟨w289, rfl⟩ : ∃ x, x = w := ⟨_, rfl⟩
    have H290 := H; clear H
    have sf291 := Own.isSl (St.get H290 0 rfl)
    obtain rfl := Option.some.inj h
    exact sc_n (post_n (.tuple #[]) rfl (by kernel_rfl) ⟨rfl, St.sel H290 [0] (by decide) rfl⟩)
end Go.Proofs
