/- The walks of meter.Files. -/
import Derived.Test.YtcbjobfklcefpaaDa
set_option linter.unusedVariables false
set_option linter.unusedSimpArgs false
set_option maxRecDepth 100000
set_option maxHeartbeats 0
namespace Go.Proofs
open Gw Go.RowKit
attribute [local irreducible] Gw.WP Gw.WPI Gw.WPL Gw.WA Gw.WQ Gw.PX Gw.PY Gw.WI Gw.PZ Gw.Op1 Gw.Ret Go.Exit.then Go.Exit.inBlock Go.wpOpIn Gw.Rnd Gw.Aft Gw.Begun

def ints (l : List Nat) : List Int := l.map fun n => ((n : Nat) : Int)
theorem wr_nat (x : Nat) (h : x < 100) : wr .i64 ((x : Int) + 1) = (((x + 1 : Nat)) : Int) := by
 have : IntKind.wrap .i64 ((x : Int) + 1) = (x : Int) + 1 := by
  have h1 : ((x : Int) + 1) % 2 ^ 64 = (x : Int) + 1 := Int.emod_eq_of_lt (by omega) (by omega)
  have h2 : ¬ ((x : Int) + 1 ≥ 2 ^ 63) := by omega
  show (if (true && decide (((x : Int) + 1) % 2 ^ 64 ≥ 2 ^ 63)) = true then ((x : Int) + 1) % 2 ^ 64 - 2 ^ 64 else ((x : Int) + 1) % 2 ^ 64) = _
  simp only [h1, h2, decide_false, Bool.and_false, Bool.false_eq_true, if_false]
 show IntKind.wrap .i64 ((x : Int) + 1) = _
 rw [this]; simp
theorem files_nil_w (w0 : World) : Ret Try.prog 7 #[.pointer none] w0 (fun v w' => v = .tuple #[vn, vi 1] ∧ St no w0 w' []) := by
 refine ret_of_wpS Try.func7 rfl 28 rfl [(0, .pointer none)] (by kernel_rfl) (fun G => ?_)
 have H0 := St.start w0
 refine zsg ?_
 refine zrd 2 2 [(3, vi 0), (2, vn)] ?_
 refine zs ?_
 refine zsg ?_
 refine zrd 2 2 [(9, vb true), (8, .pointer none)] ?_
 refine zT ?_
 refine zsg ?_
 refine zrd 2 2 [(3, vi 1), (2, vn)] ?_
 refine WP.ret ?_
 exact then_r (post_r (.tuple #[vn, vi 1]) rfl (by kernel_rfl) ⟨rfl, sl H0 []⟩)
theorem sizeP_on (ls : List Nat) (x : Nat) (h : x < 8) : sizeP false ls x = (((ls.getD x 0 : Nat) : Int), 0) := by
 unfold sizeP asksP
 have h1 : ¬ ((x : Int) < 0 ∨ (x : Int) ≥ 8) := by omega
 simp only [Bool.false_eq_true, if_false, if_neg h1, if_true]
 simp
theorem files_off_w (b : Nat) (cs : List Value) (ls : List Nat) (hD : DK cs ls true) (w0 : World) (hc : CellsAt (hp no w0) ⟨b, 0, none⟩ cs) :
    Ret Try.prog 7 #[vp b 0] w0 (fun v w' => v = .tuple #[vn, vi 13] ∧ St no w0 w' []) := by
 refine ret_of_wpS Try.func7 rfl 28 rfl [(0, vp b 0)] (by kernel_rfl) (fun G => ?_)
 have H0 := St.start w0
 refine zsg ?_
 refine zrd 2 2 [(3, vi 0), (2, vn)] ?_
 refine zs ?_
 refine zsg ?_
 refine zrd 2 2 [(9, vb false), (8, vp b 0)] ?_
 refine zFn ?_
 refine zsg ?_
 refine zrd 1 1 [(4, vn)] ?_
 refine zs ?_
 refine zsg ?_
 refine zrd 1 1 [(10, vi 0)] ?_
 refine WP.block ?_
 refine WP.loop1 ?_
 refine zsg ?_
 refine zrd 1 1 [(11, vb true)] ?_
 refine zs ?_
 refine zTn ?_
 refine zs ?_
 refine WP.block ?_
 refine zsg ?_
 refine zrd 2 2 [(5, vi 0), (12, vi 0)] ?_
 refine zsg ?_
 refine zr 2 2 [(15, vi 0), (14, vp b 0)] ?_
 refine zo (oca (size_w b 0 cs ls true hD _ (hc.mono' (sub_hp (St.hp_le H0)))) ?_)
 rintro _ w1 ⟨rfl, Hc⟩
 have H1 := St.call0' H0 Hc
 refine zn ?_
 have hs : sizeP true ls 0 = (0, 13) := by simp [sizeP, asksP]
 rw [hs]
 refine zrd 5 8 [(7, vi 13), (6, vi 0), (18, vi 13), (17, vi 0), (13, .tuple #[vi 0, vi 13])] ?_
 refine zs ?_
 refine zsg ?_
 refine zrd 2 2 [(20, vb true), (19, vi 13)] ?_
 refine zT ?_
 refine zsg ?_
 refine zrd 3 3 [(3, vi 13), (2, vn), (21, vi 13)] ?_
 refine WP.ret ?_
 exact then_r (inb_r (then_r (then_r (inb_r (then_r (post_r (.tuple #[vn, vi 13]) rfl (by kernel_rfl) ⟨rfl, sl H1 []⟩))))))
theorem files_w (b : Nat) (cs : List Value) (ls : List Nat) (hD : DK cs ls false) (w0 : World) (hc : CellsAt (hp no w0) ⟨b, 0, none⟩ cs) :
    Ret Try.prog 7 #[vp b 0] w0 (fun v w' => ∃ q : Value, v = .tuple #[q, vi 0] ∧ St no w0 w' [Own fI64 3 q (ints ls)]) := by
 have h8 : ls.length = 8 := by obtain ⟨_, _, _, _, h, _⟩ := hD; exact h
 refine ret_of_wpS Try.func7 rfl 28 rfl [(0, vp b 0)] (by kernel_rfl) (fun G => ?_)
 have H0 := St.start w0
 refine zsg ?_
 refine zrd 2 2 [(3, vi 0), (2, vn)] ?_
 refine zs ?_
 refine zsg ?_
 refine zrd 2 2 [(9, vb false), (8, vp b 0)] ?_
 refine zFn ?_
 refine zsg ?_
 refine zrd 1 1 [(4, vn)] ?_
 refine zs ?_
 refine zsg ?_
 refine zrd 1 1 [(10, vi 0)] ?_
 refine WP.blockJ (fun a w => ∃ s : Value, Y 28 [(4, s)] [] no w0 [Own fI64 3 s (ints ls)] True a w) ?_ ?_
 ·refine WP.loop (fun n a w => ∃ (x : Nat) (s : Value), Y 28 [(0, vp b 0), (4, s), (10, vi x)] [] no w0 [Own fI64 3 s (ints (ls.take x))] (x ≤ 8 ∧ n = 9 - x) a w) 9 ⟨0, vn, yy (St.nil H0 fI64 3) [0] ⟨by omega, rfl⟩⟩ ?_
  rintro n a w1 ⟨x, s, G1, rfl, H1, hx, rfl⟩
  refine zsg ?_
  obtain ⟨c, e⟩ : ∃ c, c = decide ((x : Int) < 8) := ⟨_, rfl⟩
  have hcx : c = decide (x < 8) := by
   subst e
   have : ((x : Int) < 8) ↔ x < 8 := by omega
   simp only [this]
  refine zed 1 1 [(11, vb c)] ?_
  refine zs ?_
  clear e
  cases c
  ·have hx8 : x = 8 := by
    have := of_decide_eq_false hcx.symm
    omega
   subst hx8
   rw [← h8, List.take_length] at H1
   refine zF ?_
   refine WP.exit ?_
   exact then_e (then_e (inb_e (then_n ⟨s, yy H1 [0] trivial⟩)))
  have hx8 : x < 8 := of_decide_eq_true hcx.symm
  refine zTn ?_
  refine zs ?_
  refine WP.block ?_
  refine zsg ?_
  refine zrd 2 2 [(5, vi x), (12, vi x)] ?_
  refine zsg ?_
  refine zr 2 2 [(15, vi x), (14, vp b 0)] ?_
  refine zo (oca (size_w b x cs ls false hD _ (hc.mono' (sub_hp (St.hp_le H1)))) ?_)
  rintro _ w2 ⟨rfl, Hc⟩
  have H2 := St.call0' H1 Hc
  clear H1 Hc
  refine zn ?_
  rw [sizeP_on ls x hx8]
  have hm : ∃ m : Nat, m = ls.getD x 0 := ⟨_, rfl⟩
  obtain ⟨m, hm⟩ := hm
  rw [← hm]
  refine zrd 5 8 [(7, vi 0), (6, vi m), (18, vi 0), (17, vi m), (13, .tuple #[vi m, vi 0])] ?_
  refine zs ?_
  refine zsg ?_
  refine zrd 2 2 [(20, vb false), (19, vi 0)] ?_
  refine zFn ?_
  refine zg ?_
  refine zr 2 2 [(23, vi m), (22, s)] ?_
  refine zo (Op1.lit (F := fI64) (E := 3) H2 (by kernel_rfl) [(m : Int)] (fun w => by kernel_rfl) (by simp [maxLen]) (fun s2 w3 H3 => ?_))
  refine zn ?_
  have hlx : (ints (ls.take x)).length = x := by simp [ints, h8]; omega
  refine zo (Op1.append (F := fI64) H3 1 rfl (by kernel_rfl) 24 (.tmp 22) (.tmp 24) 8 rfl (by kernel_rfl) (by kernel_rfl) s2 [(m : Int)] (St.rd H3 0 rfl) (hp_no_le _) (by kernel_rfl) (by rw [hlx]; simp [maxLen]; omega) (fun s3 w4 H4 => ?_))
  refine zn ?_
  refine zr 1 5 [(4, s3)] ?_
  refine zd ?_
  refine inb_n (then_n ?_)
  refine zg ?_
  obtain ⟨y, e⟩ : ∃ y, y = wr .i64 ((x : Int) + 1) := ⟨_, rfl⟩
  refine ze 2 2 [(10, vi y), (26, vi y)] ?_
  rw [wr_nat x (by omega)] at e
  subst e
  refine zd ?_
  have hl : ints (ls.take x) ++ [(m : Int)] = ints (ls.take (x + 1)) := by
   unfold ints
   rw [List.take_add_one, List.map_append, hm, List.getD_eq_getElem?_getD, List.getElem?_eq_getElem (by omega)]
   rfl
  rw [hl] at H4
  exact then_n ⟨9 - (x + 1), by omega, x + 1, s3, yy H4 [0] ⟨by omega, rfl⟩⟩
 rintro a w1 ⟨s, G1, rfl, H1, -⟩
 refine then_n ?_
 refine zsg ?_
 refine zrd 3 3 [(3, vi 0), (2, s), (27, s)] ?_
 refine WP.ret ?_
 exact post_r (.tuple #[s, vi 0]) rfl (by kernel_rfl) ⟨s, rfl, sl H1 [0]⟩
end Go.Proofs
