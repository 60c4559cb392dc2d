/- The walks of a disk's functions that are asked for a length, or for its power. -/
import Derived.Test.YtcbjobfklcefpaaGwz
import Derived.Test.YtcbjobfklcefpaaProg
import Derived.Test.YtcbjobfklcefpaaT
set_option linter.unusedVariables false
set_option linter.unusedSimpArgs false
set_option maxRecDepth 100000
set_option maxHeartbeats 0
namespace Go.Proofs
open Gw Go.RowKit
attribute [local irreducible] Gw.WP Gw.WPI Gw.WPL Gw.WA Gw.WQ Gw.PX Gw.PY Gw.WI Gw.PZ Gw.Op1 Gw.Ret Go.Exit.then Go.Exit.inBlock Go.wpOpIn Gw.Rnd Gw.Aft Gw.Begun
/-- a file of a disk: how long it is now -/
def dFl : Deep Nat where
  sz := 3
  rel := fun _ n c => ∃ (s0 s1 s2 : Value) (m0 m1 : Nat), c = [s0, s1, s2] ∧ IsSl s0 m0 ∧ IsSl s1 m1 ∧ IsSl s2 n
  len := fun h x c r => by obtain ⟨s0, s1, s2, m0, m1, rfl, _⟩ := r; rfl
  one := fun h x c r => by obtain ⟨s0, s1, s2, m0, m1, rfl, f0, f1, f2⟩ := r; exact oc1 f0.one (oc1 f1.one (oc1 f2.one oc0))
  mono := fun h h' x c hs r => r
  pos := by decide
  ag := true
  one' := by simp
/-- what a disk's cells say -/
def DK (cs : List Value) (ls : List Nat) (off : Bool) : Prop := ∃ (es : List (Cells dFl.sz)) (uo ub : Int), cs = es.flatMap (fD dFl).enc ++ [vb off, vi uo, vi ub] ∧ ls.length = 8 ∧ F2 (dFl.rel (fun _ => none)) ls es
theorem DK.drop {es : List (Cells dFl.sz)} {t : List Value} (h : es.length = 8) : (es.flatMap (fD dFl).enc ++ t).drop 24 = t := by
  have e : (es.flatMap (fD dFl).enc).length = 24 := by rw [len_flat, h]; rfl
  rw [← e, List.drop_left]
theorem DK.off {cs : List Value} {ls : List Nat} {o : Bool} (h : DK cs ls o) {H : Hp} {ad : Addr} (hc : CellsAt H ad cs) : CellsAt H ((ad.add 24).add 0) [vb o] := by
  obtain ⟨es, uo, ub, rfl, h8, hf⟩ := h
  have he : es.length = 8 := hf.1.trans h8
  exact CellsAt.elem fBool hc 24 [o] [vi uo, vi ub] (DK.drop he) 0 o rfl
theorem DK.now {cs : List Value} {ls : List Nat} {o : Bool} (h : DK cs ls o) {H : Hp} {ad : Addr} (hc : CellsAt H ad cs) (i n : Nat) (hn : ls[i]? = some n) :
    ∃ (s0 s1 s2 : Value), IsSl s2 n ∧ CellsAt H ((ad.add 0).add (i * 3)) [s0, s1, s2] := by
  obtain ⟨es, uo, ub, rfl, h8, hf⟩ := h
  obtain ⟨c, hr, h1, h2, hc'⟩ := hf.get hn
  have hx := CellsAt.elem (fD dFl) hc 0 es [vb o, vi uo, vi ub] rfl i ⟨c, h1, h2⟩ hc'
  obtain ⟨s0, s1, s2, m0, m1, rfl, f0, f1, f2⟩ := hr
  exact ⟨s0, s1, s2, f2, hx⟩
def asksP (o : Bool) (f : Int) : Int := if o then 13 else if f < 0 ∨ f ≥ 8 then 3 else 0
theorem asks_w (b : Nat) (f : Int) (cs : List Value) (ls : List Nat) (o : Bool) (hD : DK cs ls o) (w0 : World) (hc : CellsAt (hp no w0) ⟨b, 0, none⟩ cs) :
    Ret Try.prog 20 #[vp b 0, vi f] w0 (fun v w' => v = vi (asksP o f) ∧ St no w0 w' []) := by
 refine ret_of_wpS Try.func20 rfl 17 rfl [(0, vp b 0), (1, vi f)] (by kernel_rfl) (fun G => ?_)
 have H0 := St.start w0
 have hO := hD.off hc
 refine zsg ?_
 refine zrd 1 1 [(4, vi 0)] ?_
 refine zs ?_
 refine WP.block ?_
 refine zsg ?_
 refine zr 3 3 [(8, vp b 24), (7, vp b 0), (6, vp b 0)] ?_
 refine zv (vb o) (lld 0 hO (St.hp_le H0)) ?_
 refine zrd 1 5 [(5, vb o)] ?_
 cases o
 rotate_left
 ·refine zT ?_
  refine zsg ?_
  refine zrd 1 1 [(4, vi 13)] ?_
  refine WP.ret ?_
  exact inb_r (then_r (post_r (vi 13) rfl (by kernel_rfl) ⟨rfl, sl H0 []⟩))
 refine zF ?_
 refine zsg ?_
 obtain ⟨c, e⟩ : ∃ c, c = decide (f < 0) := ⟨_, rfl⟩
 refine ze 3 3 [(13, vb c), (12, vb c), (11, vi f)] ?_
 have hc1 : asksP false f = if c then 3 else if f ≥ 8 then 3 else 0 := by
  subst e
  unfold asksP
  by_cases h1 : f < 0 <;> by_cases h2 : f ≥ 8 <;> simp [h1, h2]
 clear e
 rw [hc1]
 cases c
 rotate_left
 ·refine zrd 4 7 [(10, vb true), (16, vb true), (15, Z), (14, Z)] ?_
  refine zT ?_
  refine zsg ?_
  refine zrd 1 1 [(4, vi 3)] ?_
  refine WP.ret ?_
  exact inb_r (then_r (post_r (vi 3) rfl (by kernel_rfl) ⟨rfl, sl H0 []⟩))
 obtain ⟨c, e⟩ : ∃ c, c = decide (f ≥ 8) := ⟨_, rfl⟩
 have hc2 : (if f ≥ 8 then (3 : Int) else 0) = if c then 3 else 0 := by subst e; by_cases h : f ≥ 8 <;> simp [h]
 simp only [Bool.false_eq_true, if_false]
 rw [hc2]
 refine zed 4 7 [(10, vb c), (16, vb c), (15, vb c), (14, vi f)] ?_
 cases c
 rotate_left
 ·refine zT ?_
  refine zsg ?_
  refine zrd 1 1 [(4, vi 3)] ?_
  refine WP.ret ?_
  exact inb_r (then_r (post_r (vi 3) rfl (by kernel_rfl) ⟨rfl, sl H0 []⟩))
 refine zF ?_
 refine WP.skip ?_
 refine inb_n (then_n ?_)
 refine zsg ?_
 refine zrd 1 1 [(4, vi 0)] ?_
 refine WP.ret ?_
 exact post_r (vi 0) rfl (by kernel_rfl) ⟨rfl, sl H0 []⟩
/-- a file's length, and the error -/
def sizeP (o : Bool) (ls : List Nat) (f : Int) : Int × Int := if asksP o f = 0 then (((ls.getD f.toNat 0 : Nat) : Int), 0) else (0, asksP o f)
theorem asksP_0 {o : Bool} {f : Int} (h : asksP o f = 0) : 0 ≤ f ∧ f < 8 := by
 unfold asksP at h
 by_cases h0 : f < 0 ∨ f ≥ 8
 · cases o <;> simp [h0] at h
 · omega
theorem size_w (b : Nat) (f : Int) (cs : List Value) (ls : List Nat) (o : Bool) (hD : DK cs ls o) (w0 : World) (hc : CellsAt (hp no w0) ⟨b, 0, none⟩ cs) :
    Ret Try.prog 14 #[vp b 0, vi f] w0 (fun v w' => v = .tuple #[vi (sizeP o ls f).1, vi (sizeP o ls f).2] ∧ St no w0 w' []) := by
 refine ret_of_wpS Try.func14 rfl 21 rfl [(0, vp b 0), (1, vi f)] (by kernel_rfl) (fun G => ?_)
 have H0 := St.start w0
 refine zsg ?_
 refine zrd 2 2 [(5, vi 0), (4, vi 0)] ?_
 refine zs ?_
 refine zsg ?_
 refine zr 2 2 [(8, vi f), (7, vp b 0)] ?_
 refine zo (oca (asks_w b f cs ls o hD _ (hc.mono' (sub_hp (St.hp_le H0)))) ?_)
 rintro _ w1 ⟨rfl, Hc⟩
 have H1 := St.call0' H0 Hc
 clear Hc
 refine zn ?_
 obtain ⟨x, hx⟩ : ∃ x, x = asksP o f := ⟨_, rfl⟩
 rw [← hx]
 refine zrd 1 4 [(6, vi x)] ?_
 refine zsg ?_
 obtain ⟨c, e⟩ : ∃ c, c = (x != 0) := ⟨_, rfl⟩
 refine zed 2 2 [(11, vb c), (10, vi x)] ?_
 unfold sizeP
 rw [← hx]
 cases c
 rotate_left
 ·have hx0 : x ≠ 0 := by simpa using e.symm
  rw [if_neg hx0]
  refine zT ?_
  refine zsg ?_
  refine zrd 3 3 [(5, vi x), (4, vi 0), (12, vi x)] ?_
  refine WP.ret ?_
  exact then_r (post_r (.tuple #[vi 0, vi x]) rfl (by kernel_rfl) ⟨rfl, sl H1 []⟩)
 have hx0 : x = 0 := by simpa using e.symm
 rw [if_pos hx0]
 refine zFn ?_
 have hf := asksP_0 (hx.symm.trans hx0)
 have hlen : ls.length = 8 := by obtain ⟨_, _, _, _, h, _⟩ := hD; exact h
 have hn : ls[f.toNat]? = some (ls.getD f.toNat 0) := by
  rw [List.getD_eq_getElem?_getD, List.getElem?_eq_getElem (by omega)]; rfl
 obtain ⟨s0, s1, s2, hs, hcc⟩ := hD.now hc _ _ hn
 refine zsg ?_
 refine zr 4 4 [(16, vp b 0), (15, vp b 0), (14, vi f), (13, vp b 0)] ?_
 refine zv (va (((⟨b, 0, none⟩ : Addr).add 0).add (f.toNat * 3))) (lla ((⟨b, 0, none⟩ : Addr).add 0) 8 43 3 .i64 f hf) ?_
 refine zr 1 6 [(18, va ((((⟨b, 0, none⟩ : Addr).add 0).add (f.toNat * 3)).add 2))] ?_
 refine zv s2 (lld 2 hcc (St.hp_le H1)) ?_
 refine zv (vi ((ls.getD f.toNat 0 : Nat) : Int)) (lln hs 5 1 1) ?_
 refine zrd 2 10 [(5, vi 0), (4, vi ((ls.getD f.toNat 0 : Nat) : Int))] ?_
 refine WP.ret ?_
 exact post_r (.tuple #[vi ((ls.getD f.toNat 0 : Nat) : Int), vi 0]) rfl (by kernel_rfl) ⟨rfl, sl H1 []⟩
/-- the power goes -/
theorem off_w (b : Nat) (cs : Array Value) (ls : List Nat) (o : Bool) (hD : DK cs.toList ls o) (w0 : World) (hm : (Box b cs 46).holds w0) :
    Ret Try.prog 10 #[vp b 0, vi 0] w0 (fun v w' => ∃ cs' : Array Value, DK cs'.toList ls true ∧ St (Box b cs 46).fp w0 w' [Box b cs' 46]) := by
 refine ret_of_wpS Try.func10 rfl 20 rfl [(0, vp b 0), (1, vi 0)] (by kernel_rfl) (fun G => ?_)
 have H0 : St (Box b cs 46).fp w0 w0 [Box b cs 46] := St.start1 hm
 obtain ⟨es, uo, ub, hcs, h8, hf⟩ := hD
 have he : es.length = 8 := hf.1.trans h8
 have hle : (es.flatMap (fD dFl).enc).length = 24 := by rw [len_flat, he]; rfl
 refine zsg ?_
 refine zr 5 5 [(8, vp b 25), (7, vp b 0), (6, vi 0), (5, vi 0), (4, vp b 0)] ?_
 refine zo (Op1.storeBoxI fI64 H0 0 rfl (by kernel_rfl) 3 (.tmp 8) (.tmp 6) 25 [uo] (es.flatMap (fD dFl).enc ++ [vb o]) [vi ub] 0 0 false rfl (by rw [hcs]; simp [fI64]) (by simp [hle]) (by kernel_rfl) (by kernel_rfl) (by kernel_rfl) (by simp) [0] rfl (es.flatMap (fD dFl).enc ++ [vb o, vi 0, vi ub]).toArray (by simp [fI64]) (fun w1 H1 => ?_))
 refine z0 ?_
 refine zdn ?_
 refine zg ?_
 have hO := CellsAt.elem fBool (St.boxAt H1 0 rfl) 24 [o] [vi 0, vi ub] (DK.drop he) 0 o rfl
 refine zr 4 4 [(12, vp b 24), (11, vp b 0), (10, vp b 0), (9, vp b 0)] ?_
 refine zv (vb o) (lld 0 hO (le_self _)) ?_
 refine zr 1 6 [(14, vb o)] ?_
 have key : ∀ (w2 : World), St (Box b cs 46).fp w0 w2 [Box b (es.flatMap (fD dFl).enc ++ [vb true, vi 0, vi ub]).toArray 46] → ∃ cs' : Array Value, DK cs'.toList ls true ∧ St (Box b cs 46).fp w0 w2 [Box b cs' 46] := fun w2 H2 => ⟨_, ⟨es, 0, ub, rfl, h8, hf⟩, H2⟩
 cases o
 ·refine zr 5 11 [(19, vp b 24), (18, vp b 0), (17, vb true), (16, vb true), (15, vi 0)] ?_
  refine zo (Op1.storeBoxI fBool H1 0 rfl (by kernel_rfl) 4 (.tmp 19) (.tmp 17) 24 [false] (es.flatMap (fD dFl).enc) [vi 0, vi ub] 0 true false rfl (by simp [fBool]) hle (by kernel_rfl) (by kernel_rfl) (by kernel_rfl) (by simp) [true] rfl (es.flatMap (fD dFl).enc ++ [vb true, vi 0, vi ub]).toArray (by simp [fBool]) (fun w2 H2 => ?_))
  refine z0 ?_
  refine zd ?_
  exact post_n (.tuple #[]) rfl (by kernel_rfl) (key _ H2)
 refine zr 5 11 [(19, vp b 24), (18, vp b 0), (17, vb true), (16, Z), (15, Z)] ?_
 refine zo (Op1.storeBoxI fBool H1 0 rfl (by kernel_rfl) 4 (.tmp 19) (.tmp 17) 24 [true] (es.flatMap (fD dFl).enc) [vi 0, vi ub] 0 true false rfl (by simp [fBool]) hle (by kernel_rfl) (by kernel_rfl) (by kernel_rfl) (by simp) [true] rfl (es.flatMap (fD dFl).enc ++ [vb true, vi 0, vi ub]).toArray (by simp [fBool]) (fun w2 H2 => ?_))
 refine z0 ?_
 refine zd ?_
 exact post_n (.tuple #[]) rfl (by kernel_rfl) (key _ H2)
end Go.Proofs
