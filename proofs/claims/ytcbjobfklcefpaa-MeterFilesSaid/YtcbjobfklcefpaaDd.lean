/- A new disk. -/
import Derived.Test.YtcbjobfklcefpaaDc
import Derived.Test.YtcbjobfklcefpaaV18
import Derived.Test.YtcbjobfklcefpaaV19
import Derived.Test.YtcbjobfklcefpaaV13
set_option linter.unusedVariables false
set_option linter.unusedSimpArgs false
set_option maxRecDepth 100000
set_option maxHeartbeats 0
namespace Go.Proofs
open Gw Go.RowKit
attribute [local irreducible] Gw.WP Gw.WPI Gw.WPL Gw.WA Gw.WQ Gw.PX Gw.PY Gw.WI Gw.PZ Gw.Op1 Gw.Ret Go.Exit.then Go.Exit.inBlock Go.wpOpIn Gw.Rnd Gw.Aft Gw.Begun

theorem sl_nil : IsSl vn 0 := ⟨none, 0, rfl, Nat.le_refl _, by simp [maxLen], fun _ => rfl, by simp⟩
theorem zero_fl : dFl.rel (fun _ => none) 0 [vn, vn, vn] := ⟨vn, vn, vn, 0, 0, rfl, sl_nil, sl_nil, sl_nil⟩
/-- how long the files are, when so many are laid -/
def laidTo (l : List (List Int)) (x : Nat) : List Nat := (l.take x).map List.length ++ List.replicate (8 - x) 0
theorem laidTo_set (l : List (List Int)) (x : Nat) (h8 : l.length = 8) (hx : x < 8) : (laidTo l x).set x (l[x]).length = laidTo l (x + 1) := by
 unfold laidTo
 have h1 : ((l.take x).map List.length).length = x := by simp [h8]; omega
 rw [List.set_append, if_neg (by omega), h1, Nat.sub_self]
 have e : 8 - x = (8 - (x + 1)) + 1 := by omega
 rw [e, List.replicate_succ, List.set_cons_zero, List.take_add_one, List.map_append, List.append_assoc]
 rw [List.getElem?_eq_getElem (by omega)]
 rfl
theorem new_w (s : Value) (l : List (List Int)) (w0 : World) (hs : RdD dS5 (hp no w0) s l) (h8 : l.length = 8) (hm : ∀ x ∈ l, x.length ≤ 131072) :
    Ret Try.prog 12 #[s] w0 (fun v w' => ∃ (b : Nat) (cs : Array Value), v = .tuple #[vp b 0, vi 0] ∧ DK cs.toList (l.map List.length) false ∧ St no w0 w' [Box b cs 46]) := by
 refine ret_of_wpS Try.func12 rfl 40 rfl [(0, s)] (by kernel_rfl) (fun G => ?_)
 have H0 := St.start w0
 refine zsg ?_
 refine zrd 2 2 [(3, vi 0), (2, .pointer none)] ?_
 refine zs ?_
 refine zsg ?_
 refine zr 1 1 [(7, s)] ?_
 refine zv (vi ((l.length : Nat) : Int)) (lln (RdD.sl hs) 25 1 24) ?_
 rw [h8]
 refine zr 3 5 [(11, s), (10, vb true), (9, vb true)] ?_
 refine zv (vi ((8 : Nat) : Int)) (h8 ▸ lln (RdD.sl hs) 25 1 24) ?_
 refine zr 4 10 [(16, s), (15, vb false), (14, vb false), (13, vb false)] ?_
 refine zo (oca (contains_w s l _ (hs.mono (sub_hp (St.hp_le H0))) h8 hm) ?_)
 rintro _ w1 ⟨rfl, Hc⟩
 have H1 := St.call0' H0 Hc
 clear H0 Hc
 refine zn ?_
 refine zrd 1 12 [(18, vb false)] ?_
 refine zFn ?_
 refine zsg ?_
 refine zr 1 1 [(19, .agg #[vn, vn, vn, vn, vn, vn, vn, vn, vn, vn, vn, vn, vn, vn, vn, vn, vn, vn, vn, vn, vn, vn, vn, vn, vb false, vi 0, vi 0])] ?_
 refine zo (obx H1 #[vn, vn, vn, vn, vn, vn, vn, vn, vn, vn, vn, vn, vn, vn, vn, vn, vn, vn, vn, vn, vn, vn, vn, vn, vb false, vi 0, vi 0] 46 (fun b w2 H2 => ?_))
 clear H1
 refine zn ?_
 refine zrd 1 3 [(4, vp b 0)] ?_
 refine zs ?_
 refine zsg ?_
 refine zr 1 1 [(21, s)] ?_
 refine zv (vi ((8 : Nat) : Int)) (h8 ▸ lln (RdD.sl hs) 25 1 24) ?_
 refine zrd 1 3 [(23, vi 0)] ?_
 refine WP.blockJ (fun a w => ∃ cs : Array Value, Y 40 [(4, vp b 0)] [] no w0 [Box b cs 46] (DK cs.toList (l.map List.length) false) a w) ?_ ?_
 ·refine WP.loop (fun n a w => ∃ (x : Nat) (es : List (Cells dFl.sz)), Y 40 [(4, vp b 0), (21, s), (22, vi ((8 : Nat) : Int)), (23, vi x)] [] no w0 [Box b (es.flatMap (fD dFl).enc ++ [vb false, vi 0, vi 0]).toArray 46] ((x ≤ 8 ∧ n = 9 - x) ∧ F2 (dFl.rel (fun _ => none)) (laidTo l x) es) a w) 9
   ⟨0, List.replicate 8 (dFl.ce zero_fl), yy H2 [0] ⟨⟨by omega, rfl⟩, ?_⟩⟩ ?_
  ·show F2 _ (List.replicate 8 0) (List.replicate 8 (dFl.ce zero_fl))
   exact F2.cons zero_fl (F2.cons zero_fl (F2.cons zero_fl (F2.cons zero_fl (F2.cons zero_fl (F2.cons zero_fl (F2.cons zero_fl (F2.cons zero_fl (F2.nil _))))))))
  rintro n a w1 ⟨x, es, G1, rfl, H1, ⟨hx, rfl⟩, hf⟩
  refine zsg ?_
  obtain ⟨c, e⟩ : ∃ c, c = decide ((x : Int) < ((8 : Nat) : Int)) := ⟨_, rfl⟩
  have hcx : c = decide (x < 8) := by
   subst e
   have : ((x : Int) < ((8 : Nat) : Int)) ↔ x < 8 := by omega
   simp only [this]
  refine zed 1 1 [(24, vb c)] ?_
  refine zs ?_
  clear e
  have hel : es.length = 8 := by rw [hf.1]; simp [laidTo, h8]; omega
  cases c
  ·refine zF ?_
   refine WP.exit ?_
   have hx8 : x = 8 := by
    have := of_decide_eq_false hcx.symm
    omega
   subst hx8
   refine then_e (then_e (inb_e (then_n ⟨_, yy H1 [0] ⟨es, 0, 0, rfl, by simp [h8], ?_⟩⟩)))
   have : laidTo l 8 = l.map List.length := by simp [laidTo, ← h8]
   rw [← this]; exact hf
  have hx8 : x < 8 := of_decide_eq_true hcx.symm
  refine zTn ?_
  refine zs ?_
  refine WP.block ?_
  refine zsg ?_
  have hlx : l[x]? = some l[x] := List.getElem?_eq_getElem (by omega)
  obtain ⟨c, hr, hc⟩ := RdD.at_ hs _ _ hlx
  obtain ⟨s1, rfl, hs1⟩ := hr
  refine zr 1 1 [(25, vi x)] ?_
  refine zv (va (slAt s 1 x)) (lli (RdD.sl hs) 25 1 24 .i64 x (by omega)) ?_
  refine zv s1 (lld 0 hc (St.hp_le H1)) ?_
  refine zrd 2 5 [(6, s1), (5, vi x)] ?_
  refine WP.drawI (by kernel_rfl) (by kernel_rfl) (fun _ => True) [] (fun _ => True) (fun a w => ∃ (es' : List (Cells dFl.sz)), Y 40 [(4, vp b 0), (21, s), (22, vi ((8 : Nat) : Int)), (23, vi x)] [] no w0 [Box b (es'.flatMap (fD dFl).enc ++ [vb false, vi 0, vi 0]).toArray 46] (F2 (dFl.rel (fun _ => none)) (laidTo l (x + 1)) es') a w) 11 #[F, F, F, F, F, F, F, F, F, F, F] rfl (by kernel_rfl) ?_ ?_
  ·have H3 := St.drew H1
   refine WI.runS [0, 1, 2, 4, 7, 8] 5 _ #[T, T, T, F, T, F, F, T, T, F, F] [(36, vp b 0), (35, vp b 0), (32, s1), (30, s1), (29, vi x), (28, vp b 0)] rfl (fun K => by kernel_rfl) ?_
   have hcl : g_slices_Clone_byte_byte 0 l[x] = some l[x] := by
    have := hm l[x] (List.getElem_mem _)
    unfold g_slices_Clone_byte_byte
    rw [gd, if_pos (by simp; omega)]
   refine WI.one 3 (by kernel_rfl) (nod trivial trivial) rfl (oca (g_slices_Clone_byte_byte_w 0 s1 l[x] l[x] hcl _ (Rd.arg0 hs1 H3)) ?_)
   rintro q1 w4 ⟨_, rfl, Hc⟩
   have H4 := St.call0 H3 Hc
   clear H3 Hc
   refine WI.nS 31 #[T, T, T, T, T, F, F, T, T, F, F] (by kernel_rfl) rfl ?_
   refine WI.one 5 (by kernel_rfl) (nod trivial trivial) rfl (oca (g_slices_Clone_byte_byte_w 0 s1 l[x] l[x] hcl _ (Rd.arg0 hs1 H4)) ?_)
   rintro q2 w5 ⟨_, rfl, Hc⟩
   have H5 := St.call0 H4 Hc
   clear H4 Hc
   refine WI.nS 33 #[T, T, T, T, T, T, F, T, T, F, F] (by kernel_rfl) rfl ?_
   have hq2 := Own.isSl (St.get H5 0 rfl)
   have hq1 := Own.isSl (St.get H5 1 rfl)
   have H6 : St no w0 w5 [Box b (es.flatMap (fD dFl).enc ++ [vb false, vi 0, vi 0]).toArray 46] := sl H5 [2]
   have hd : dFl.rel (fun _ => none) (l[x]).length [q1, vn, q2] := ⟨q1, vn, q2, _, _, rfl, hq1, sl_nil, hq2⟩
   have hfx := F2.set (c := dFl.ce hd) hf x hd
   rw [laidTo_set l x h8 hx8] at hfx
   clear H5
   obtain ⟨a1, c1, rfl, -⟩ := hq1
   obtain ⟨a2, c2, rfl, -⟩ := hq2
   refine WI.runS [6] 2 _ #[T, T, T, T, T, T, T, T, T, F, F] [(34, .agg #[.slice a1 (l[x]).length c1, vn, .slice a2 (l[x]).length c2])] rfl (fun K => by kernel_rfl) ?_
   refine WI.takeS 9 (va (((⟨b, 0, none⟩ : Addr).add 0).add (x * 3))) 37 rfl rfl (by kernel_rfl) (by kernel_rfl) (fun w H => lla ((⟨b, 0, none⟩ : Addr).add 0) 8 43 3 .i64 x (by omega)) (li' := #[T, T, T, T, T, T, T, T, T, T, F]) (by kernel_rfl) ?_
   refine WI.one 10 (by kernel_rfl) (nod trivial trivial) rfl (Op1.storeBoxI (fD dFl) H6 0 rfl (by kernel_rfl) 43 (.tmp 37) (.tmp 34) 0 es [] [vb false, vi 0, vi 0] x (dFl.ce hd) true rfl (by simp) rfl (by kernel_rfl) (by kernel_rfl) (by kernel_rfl) (by omega) (es.set x (dFl.ce hd)) rfl ((es.set x (dFl.ce hd)).flatMap (fD dFl).enc ++ [vb false, vi 0, vi 0]).toArray (by simp) (fun w7 H7 => ?_))
   refine WI.nS0 #[T, T, T, T, T, T, T, T, T, T, T] (by kernel_rfl) rfl ?_
   refine WI.done (by kernel_rfl) (nod trivial trivial) ?_
   exact ⟨_, yy H7 [0] hfx⟩
  rintro a w8 ⟨es', G2, rfl, H8, hf8⟩
  refine inb_n (then_n ?_)
  refine zg ?_
  obtain ⟨y, e⟩ : ∃ y, y = wr .i64 ((x : Int) + 1) := ⟨_, rfl⟩
  refine ze 2 2 [(23, vi y), (38, vi y)] ?_
  rw [wr_nat x (by omega)] at e
  subst e
  refine zd ?_
  exact then_n ⟨9 - (x + 1), by omega, x + 1, es', yy H8 [0] ⟨⟨by omega, rfl⟩, hf8⟩⟩
 rintro a w1 ⟨cs, G1, rfl, H1, hD⟩
 refine then_n ?_
 refine zsg ?_
 refine zrd 3 3 [(3, vi 0), (2, vp b 0), (39, vp b 0)] ?_
 refine WP.ret ?_
 exact post_r (.tuple #[vp b 0, vi 0]) rfl (by kernel_rfl) ⟨b, cs, rfl, hD, sl H1 [0]⟩
theorem disk_w (s : Value) (l : List (List Int)) (w0 : World) (hs : RdD dS5 (hp no w0) s l) (h8 : l.length = 8) (hm : ∀ x ∈ l, x.length ≤ 131072) :
    Ret Try.prog 6 #[s] w0 (fun v w' => ∃ (b : Nat) (cs : Array Value), v = vp b 0 ∧ DK cs.toList (l.map List.length) false ∧ St no w0 w' [Box b cs 46]) := by
 refine ret_of_wpS Try.func6 rfl 14 rfl [(0, s)] (by kernel_rfl) (fun G => ?_)
 have H0 := St.start w0
 refine zsg ?_
 refine zrd 1 1 [(2, .pointer none)] ?_
 refine zsg ?_
 refine zr 1 1 [(6, s)] ?_
 refine zo (oca (new_w s l _ (hs.mono (sub_hp (St.hp_le H0))) h8 hm) ?_)
 rintro _ w1 ⟨b, cs, rfl, hD, Hc⟩
 have H1 := St.call0 H0 Hc
 refine zn ?_
 refine zrd 5 7 [(4, vi 0), (3, vp b 0), (9, vi 0), (8, vp b 0), (5, .tuple #[vp b 0, vi 0])] ?_
 refine zs ?_
 refine zsg ?_
 refine zr 1 1 [(10, vi 0)] ?_
 refine zo (oca (g_tarnlaw10_num_w 0 0 0 rfl _) ?_)
 rintro _ w2 ⟨rfl, Hc2⟩
 have H2 := St.call0' H1 Hc2
 refine zn ?_
 refine zrd 1 3 [(12, vb false)] ?_
 refine zFn ?_
 refine zsg ?_
 refine zrd 2 2 [(2, vp b 0), (13, vp b 0)] ?_
 refine WP.ret ?_
 exact post_r (vp b 0) rfl (by kernel_rfl) ⟨b, cs, rfl, hD, sl H2 [0]⟩
end Go.Proofs
