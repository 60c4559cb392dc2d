import Derived.Test.YtcbjobfklcefpaaGreatGwz
import Derived.Test.YtcbjobfklcefpaaGreatProg
import Derived.Test.YtcbjobfklcefpaaGreatT
import Derived.Test.YtcbjobfklcefpaaGreatY1
set_option linter.unusedVariables false
set_option linter.unusedSimpArgs false
set_option maxRecDepth 100000
set_option maxHeartbeats 4000000
namespace Go.Proofs
open Gw Go.RowKit
attribute [local irreducible] Gw.WP Gw.WPI Gw.WPL Gw.WA Gw.WQ Gw.PX Gw.PY Gw.WI Gw.PZ Gw.Op1 Gw.Ret Go.Exit.then Go.Exit.inBlock Go.wpOpIn Gw.Rnd Gw.Aft Gw.Begun
/- tarn/chain.spent -/
def g_chain_spent_l1 (l2 : List TTx) (fuel : Nat) (K13 : Int → Int → Int → Int → Option (TU256 × Bool)) : Nat → Int → Int → Int → Int → Int → Option (TU256 × Bool)
  | 0, _, _, _, _, _ => none
  | n + 1, x14, x15, x16, x17, x18 => lt (decide (x18 < (((List.length l2 : Nat) : Int)))) fun c22 => br c22 (gd ((0 : Int) ≤ x18 ∧ x18 < ((List.length l2 : Nat) : Int)) <| bd (l2[Int.toNat x18]?) fun x24 => bd (g_tx_Cost fuel x24) fun t38 => jn (fun (c48 : Bool) => br c48 (some (TU256.mk 0 0 0 0, false)) (bd (g_u256_Add fuel (TU256.mk x14 x15 x16 x17) t38.1) fun t85 => lt (t85.2 != 0) fun c91 => br c91 (some (TU256.mk 0 0 0 0, false)) (lt (wr .i64 (x18 + 1)) fun x92 => g_chain_spent_l1 l2 fuel K13 n t85.1.e0 t85.1.e1 t85.1.e2 t85.1.e3 x92))) fun K50 => lt (t38.2 != 0) fun c51 => br c51 (K50 true) (lt (decide (x18 > 0)) fun c52 => br c52 (gd ((0 : Int) ≤ 0 ∧ 0 < ((List.length l2 : Nat) : Int)) <| bd (l2[Int.toNat 0]?) fun x56 => lt (x24.From != x56.From) fun c64 => br c64 (K50 true) (lt (wr .i64 (x18 - 1)) fun x65 => gd ((0 : Int) ≤ x65 ∧ x65 < ((List.length l2 : Nat) : Int)) <| bd (l2[Int.toNat x65]?) fun x67 => lt (wr .i64 (x67.Nonce + 1)) fun x75 => lt (x24.Nonce != x75) fun c76 => K50 c76)) (K50 false))) (K13 x14 x15 x16 x17)
def g_chain_spent (fuel : Nat) (l2 : List TTx) : Option (TU256 × Bool) :=
  lt (decide ((((List.length l2 : Nat) : Int)) > 6)) fun c7 => br c7 (some (TU256.mk 0 0 0 0, false)) (jn (fun (x8 : Int) (x9 : Int) (x10 : Int) (x11 : Int) => some (TU256.mk x8 x9 x10 x11, true)) fun K13 => g_chain_spent_l1 l2 fuel K13 fuel 0 0 0 0 0)
theorem g_chain_spent_w (fuel : Nat) (s1 : Value) (l2 : List TTx) (r : TU256 × Bool) (h : g_chain_spent fuel l2 = some r) (w0 : World) (hs1 : RdD dTTx (hp no w0) s1 l2) :
 Ret Tryz.prog 72 #[s1] w0 (fun v w' => v = .tuple #[TU256.val r.1, vb r.2] ∧ St no w0 w' []) := by
 unfold g_chain_spent at h
 refine ret_of_wpS Tryz.func72 rfl 63 rfl [(0,s1)] (by kernel_rfl) (fun G=>?_)
 have H0:=St.start w0
 refine zsg ?_
 refine zo (oal H0 #[vu 0,vu 0,vu 0,vu 0] 24 (fun b3 w5 H6=>?_))
 refine zn ?_
 refine zrd 1 2 [(3,vb false)] ?_
 refine zs ?_
 refine zsg ?_
 refine zr 1 1 [(8,s1)] ?_
 refine zv (vi (((List.length l2 : Nat) : Int))) (lln (RdD.sl hs1) 44 21 200) ?_
 obtain ⟨c7,e,h⟩:=ls h
 refine zed 1 3 [(10,vb c7)] ?_
 cases c7
 rotate_left
 ·replace h:=bt h
  refine zT ?_
  refine zsg ?_
  refine zv (.agg #[vu 0,vu 0,vu 0,vu 0]) (llb H6 0 0) ?_
  refine zo (osb H6 0 0 (.agg #[vu 0,vu 0,vu 0,vu 0]) #[vu 0,vu 0,vu 0,vu 0] true (flat_one1 fTU256 (TU256.mk 0 0 0 0)) (fun w101 H102=>?_))
  clear H6
  refine z0 ?_
  refine zrd 1 3 [(3,vb false)] ?_
  refine WP.ret ?_
  obtain rfl:=oi h
  exact then_r (post_r (.tuple #[.agg #[vu 0,vu 0,vu 0,vu 0],vb false]) rfl (results_cell_tmp rfl (by kernel_rfl) (by kernel_rfl) (run_loadAt (ad:=(⟨b3,0,none⟩ : Addr)) (off:=0) (St.boxAt H102 0 rfl) (le_self _) (by kernel_rfl))) ⟨rfl,sl H102 []⟩)
 replace h:=bf h
 refine zFn ?_
 refine zs ?_
 refine zsg ?_
 refine zr 1 1 [(12,s1)] ?_
 refine zv (vi (((List.length l2 : Nat) : Int))) (lln (RdD.sl hs1) 44 21 200) ?_
 refine zrd 1 3 [(14,vi 0)] ?_
 obtain ⟨K13,hK13,h⟩:=js h
 refine WP.blockJ (fun a w=>∃ (x8 : Int) (x9 : Int) (x10 : Int) (x11 : Int),Y 63 [(2,vp b3 0)] [] no w0 [Box b3 #[vu x8,vu x9,vu x10,vu x11] 24] (K13 x8 x9 x10 x11 = some r) a w) ?_ ?_
 ·refine WP.loop (fun n a w=>∃ (x14 : Int) (x15 : Int) (x16 : Int) (x17 : Int) (x18 : Int),Y 63 [(0,s1),(2,vp b3 0),(12,s1),(13,vi (((List.length l2 : Nat) : Int))),(14,vi x18)] [] no w0 [Box b3 #[vu x14,vu x15,vu x16,vu x17] 24] (g_chain_spent_l1 l2 fuel K13 n x14 x15 x16 x17 x18 = some r) a w) fuel ⟨0,0,0,0,0,yy H6 [0] h⟩ ?_
  intro n a w hq
  refine Exists.elim hq fun x14 hq=>Exists.elim hq fun x15 hq=>Exists.elim hq fun x16 hq=>Exists.elim hq fun x17 hq=>Exists.elim hq fun x18 hq=>Exists.elim hq fun G19 hq=>?_
  obtain ⟨rfl,H,h⟩:=hq
  obtain _ | n:=n
  ·rw [g_chain_spent_l1] at h; cases h
  rw [g_chain_spent_l1] at h
  obtain ⟨w20,rfl⟩ : ∃ x,x = w:=⟨_,rfl⟩
  have H21:=H; clear H
  refine zsg ?_
  obtain ⟨c22,e,h⟩:=ls h
  refine zed 1 1 [(15,vb c22)] ?_
  refine zs ?_
  cases c22
  ·replace h:=bf h
   refine zF ?_
   refine WP.exit ?_
   exact then_e (then_e (inb_e (then_n ⟨x14,x15,x16,x17,yy H21 [0] h⟩)))
  replace h:=bt h
  refine zTn ?_
  refine zs ?_
  refine WP.block ?_
  refine zsg ?_
  obtain ⟨hg23,h⟩:=gs h
  refine zr 1 1 [(16,vi x18)] ?_
  refine zv (va (slAt s1 21 (Int.toNat x18))) (lli (RdD.sl hs1) 44 21 200 .i64 x18 hg23) ?_
  obtain ⟨x24,hx24,h⟩:=bs h
  obtain ⟨c29,hr30,hc31⟩:=RdD.at_ hs1 _ _ hx24
  obtain ⟨s25,s27,rfl,hs26,hs28⟩:=hr30
  refine zv ((gTx x24 s25 s27)) (lld 0 hc31 (St.hp_le H21)) ?_
  refine zo (oal H21 #[vi 0,vi 0,vu 0,vu 0,vu 0,vu 0,vu 0,vu 0,vu 0,vu 0,vu 0,vu 0,vu 0,vu 0,vu 0,vu 0,vu 0,vu 0,vi 0,vn,vn] 44 (fun b32 w34 H35=>?_))
  clear H21
  refine zn ?_
  refine zr 1 5 [(4,vi x18)] ?_
  refine zo (osb H35 0 0 ((gTx x24 s25 s27)) #[vi x24.From,vi x24.Nonce,vu x24.Tip.e0,vu x24.Tip.e1,vu x24.Tip.e2,vu x24.Tip.e3,vu x24.Cap.e0,vu x24.Cap.e1,vu x24.Cap.e2,vu x24.Cap.e3,vu x24.BlobCap.e0,vu x24.BlobCap.e1,vu x24.BlobCap.e2,vu x24.BlobCap.e3,vu x24.Value_.e0,vu x24.Value_.e1,vu x24.Value_.e2,vu x24.Value_.e3,vi x24.Gas,s25,s27] true (oc1 rfl (oc1 rfl (oc1 rfl (oc1 rfl (oc1 rfl (oc1 rfl (oc1 rfl (oc1 rfl (oc1 rfl (oc1 rfl (oc1 rfl (oc1 rfl (oc1 rfl (oc1 rfl (oc1 rfl (oc1 rfl (oc1 rfl (oc1 rfl (oc1 rfl (oc1 (IsSl.one (Rd.sl hs26)) (oc1 (IsSl.one (Rd.sl hs28)) oc0))))))))))))))))))))) (fun w36 H37=>?_))
  clear H35
  refine z0 ?_
  refine zdn ?_
  refine zsg ?_
  refine zv ((gTx x24 s25 s27)) (llb H37 0 0) ?_
  obtain ⟨t38,ht38,h⟩:=bs h
  refine zo (oca (g_tx_Cost_w fuel s25 s27 x24 t38 ht38 _ (Rd.arg0 hs26 H37) (Rd.arg0 hs28 H37)) ?_)
  rintro _ w39 ⟨rfl,Hc40⟩
  have H41:=St.call0' H37 Hc40
  clear H37 Hc40
  refine zn ?_
  refine zr 3 5 [(23,vi t38.2),(22,TU256.val t38.1),(19,.tuple #[TU256.val t38.1,vi t38.2])] ?_
  refine zo (oal H41 #[vu 0,vu 0,vu 0,vu 0] 24 (fun b42 w44 H45=>?_))
  clear H41
  refine zn ?_
  refine zo (osb H45 0 0 (TU256.val t38.1) (TU256.cs t38.1).toArray true (flat_one1 fTU256 t38.1) (fun w46 H47=>?_))
  clear H45
  refine z0 ?_
  refine zrd 1 8 [(7,vi t38.2)] ?_
  refine zs ?_
  refine zs ?_
  obtain ⟨K50,hK50,h⟩:=js h
  refine WP.onlyN (fun a w=>∃ (c48 : Bool),Y 63 [(0,s1),(2,vp b3 0),(6,vp b42 0),(12,s1),(13,vi (((List.length l2 : Nat) : Int))),(14,vi x18),(50,vb c48)] [] no w0 [Box b42 (TU256.cs t38.1).toArray 24,Box b32 #[vi x24.From,vi x24.Nonce,vu x24.Tip.e0,vu x24.Tip.e1,vu x24.Tip.e2,vu x24.Tip.e3,vu x24.Cap.e0,vu x24.Cap.e1,vu x24.Cap.e2,vu x24.Cap.e3,vu x24.BlobCap.e0,vu x24.BlobCap.e1,vu x24.BlobCap.e2,vu x24.BlobCap.e3,vu x24.Value_.e0,vu x24.Value_.e1,vu x24.Value_.e2,vu x24.Value_.e3,vi x24.Gas,s25,s27] 44,Box b3 #[vu x14,vu x15,vu x16,vu x17] 24] (K50 c48 = some r) a w) ?_ ?_
  ·refine WP.quiet (by kernel_rfl) (by kernel_rfl) (by kernel_rfl) (fun w=>St no w0 w [Box b42 (TU256.cs t38.1).toArray 24,Box b32 #[vi x24.From,vi x24.Nonce,vu x24.Tip.e0,vu x24.Tip.e1,vu x24.Tip.e2,vu x24.Tip.e3,vu x24.Cap.e0,vu x24.Cap.e1,vu x24.Cap.e2,vu x24.Cap.e3,vu x24.BlobCap.e0,vu x24.BlobCap.e1,vu x24.BlobCap.e2,vu x24.BlobCap.e3,vu x24.Value_.e0,vu x24.Value_.e1,vu x24.Value_.e2,vu x24.Value_.e3,vi x24.Gas,s25,s27] 44,Box b3 #[vu x14,vu x15,vu x16,vu x17] 24]) (St.drew H47) ?_
   obtain ⟨c51,e,h⟩:=ls h
   refine qe 3 3 [(26,vb c51),(25,vb c51),(24,vi t38.2)] ?_
   cases c51
   rotate_left
   ·replace h:=bt h
    refine qr 24 27 [(50,vb true),(49,Z),(48,Z),(47,Z),(46,Z),(45,Z),(44,Z),(43,Z),(42,Z),(41,Z),(40,Z),(39,Z),(38,Z),(37,Z),(36,Z),(35,Z),(34,Z),(33,Z),(32,Z),(31,Z),(30,Z),(29,Z),(28,Z),(27,Z)] ?_
    refine qd fun w81 H82=>?_
    exact ⟨true,yy H82 [0,1,2] h⟩
   replace h:=bf h
   obtain ⟨c52,e,h⟩:=ls h
   refine qe 3 6 [(29,vb c52),(28,vb c52),(27,vi x18)] ?_
   cases c52
   ·replace h:=bf h
    refine qr 21 27 [(50,vb false),(49,vb false),(48,Z),(47,Z),(46,Z),(45,Z),(44,Z),(43,Z),(42,Z),(41,Z),(40,Z),(39,Z),(38,Z),(37,Z),(36,Z),(35,Z),(34,Z),(33,Z),(32,Z),(31,Z),(30,Z)] ?_
    refine qd fun w53 H54=>?_
    exact ⟨false,yy H54 [0,1,2] h⟩
   replace h:=bt h
   refine qr 1 7 [(30,vp b32 0)] ?_
   refine qv (vi x24.From) (fun w H=>llb H 1 0) ?_
   obtain ⟨hg55,h⟩:=gs h
   refine qr 1 9 [(32,s1)] ?_
   refine qv (va (slAt s1 21 (Int.toNat 0))) (fun w H=>lli (RdD.sl hs1) 44 21 200 .i64 0 hg55) ?_
   obtain ⟨x56,hx56,h⟩:=bs h
   obtain ⟨c61,hr62,hc63⟩:=RdD.at_ hs1 _ _ hx56
   obtain ⟨s57,s59,rfl,hs58,hs60⟩:=hr62
   refine qr 1 11 [(34,va (slAt s1 21 (Int.toNat 0)))] ?_
   refine qv (vi x56.From) (fun w H=>lld 0 hc63 (St.hp_le H)) ?_
   obtain ⟨c64,e,h⟩:=ls h
   refine qe 2 14 [(37,vb c64),(36,vb c64)] ?_
   cases c64
   rotate_left
   ·replace h:=bt h
    refine qr 13 27 [(50,vb true),(49,vb true),(48,vb true),(47,Z),(46,Z),(45,Z),(44,Z),(43,Z),(42,Z),(41,Z),(40,Z),(39,Z),(38,Z)] ?_
    refine qd fun w79 H80=>?_
    exact ⟨true,yy H80 [0,1,2] h⟩
   replace h:=bf h
   refine qr 1 15 [(38,vp b32 1)] ?_
   refine qv (vi x24.Nonce) (fun w H=>llb H 1 1) ?_
   obtain ⟨x65,e,h⟩:=ls h
   obtain ⟨hg66,h⟩:=gs h
   refine qe 3 19 [(42,vi x65),(41,vi x18),(40,s1)] ?_
   refine qv (va (slAt s1 21 (Int.toNat x65))) (fun w H=>lli (RdD.sl hs1) 44 21 200 .i64 x65 hg66) ?_
   obtain ⟨x67,hx67,h⟩:=bs h
   obtain ⟨c72,hr73,hc74⟩:=RdD.at_ hs1 _ _ hx67
   obtain ⟨s68,s70,rfl,hs69,hs71⟩:=hr73
   refine qr 1 21 [(44,va ((slAt s1 21 (Int.toNat x65)).add 1))] ?_
   refine qv (vi x67.Nonce) (fun w H=>lld 1 hc74 (St.hp_le H)) ?_
   obtain ⟨x75,hx75,h⟩:=ls h
   obtain ⟨c76,hc76,h⟩:=ls h
   refine qr 5 27 [(50,vb c76),(49,vb c76),(48,vb c76),(47,vb c76),(46,vi x75)] ?_ rfl (fun K=>by subst hc76 hx75; kernel_rfl)
   refine qd fun w77 H78=>?_
   exact ⟨c76,yy H78 [0,1,2] h⟩
  rintro a w83 ⟨c48,G49,rfl,H84,h⟩
  subst hK50
  refine then_n ?_
  cases c48
  rotate_left
  ·replace h:=bt h
   refine zT ?_
   refine zsg ?_
   refine zr 1 1 [(51,.agg #[vu 0,vu 0,vu 0,vu 0])] ?_
   refine zo (osb H84 2 0 (.agg #[vu 0,vu 0,vu 0,vu 0]) #[vu 0,vu 0,vu 0,vu 0] true (flat_one1 fTU256 (TU256.mk 0 0 0 0)) (fun w95 H96=>?_))
   clear H84
   refine z0 ?_
   refine zrd 1 3 [(3,vb false)] ?_
   refine WP.ret ?_
   obtain rfl:=oi h
   exact then_r (inb_r (then_r (then_r (inb_r (then_r (then_r (post_r (.tuple #[.agg #[vu 0,vu 0,vu 0,vu 0],vb false]) rfl (results_cell_tmp rfl (by kernel_rfl) (by kernel_rfl) (run_loadAt (ad:=(⟨b3,0,none⟩ : Addr)) (off:=0) (St.boxAt H96 0 rfl) (le_self _) (by kernel_rfl))) ⟨rfl,sl H96 []⟩)))))))
  replace h:=bf h
  refine zFn ?_
  refine zsg ?_
  refine zv (.agg #[vu x14,vu x15,vu x16,vu x17]) (llb H84 2 0) ?_
  refine zv (TU256.val t38.1) (llb H84 0 0) ?_
  obtain ⟨t85,ht85,h⟩:=bs h
  refine zo (oca (g_u256_Add_w fuel (TU256.mk x14 x15 x16 x17) t38.1 t85 ht85 _) ?_)
  rintro _ w86 ⟨rfl,Hc87⟩
  have H88:=St.call0' H84 Hc87
  clear H84 Hc87
  refine zn ?_
  refine zr 3 6 [(57,vi t85.2),(56,TU256.val t85.1),(52,.tuple #[TU256.val t85.1,vi t85.2])] ?_
  refine zo (osb H88 2 0 (TU256.val t85.1) (TU256.cs t85.1).toArray true (flat_one1 fTU256 t85.1) (fun w89 H90=>?_))
  clear H88
  refine z0 ?_
  refine zrd 1 8 [(7,vi t85.2)] ?_
  refine zsg ?_
  obtain ⟨c91,e,h⟩:=ls h
  refine zed 2 2 [(59,vb c91),(58,vi t85.2)] ?_
  cases c91
  ·replace h:=bf h
   refine zF ?_
   refine WP.skip ?_
   refine inb_n (then_n ?_)
   refine zg ?_
   obtain ⟨x92,e,h⟩:=ls h
   refine ze 2 2 [(14,vi x92),(61,vi x92)] ?_
   refine zd ?_
   exact then_n ⟨n,lS n,t85.1.e0,t85.1.e1,t85.1.e2,t85.1.e3,x92,yy H90 [0] h⟩
  replace h:=bt h
  refine zT ?_
  refine zsg ?_
  refine zr 1 1 [(60,.agg #[vu 0,vu 0,vu 0,vu 0])] ?_
  refine zo (osb H90 0 0 (.agg #[vu 0,vu 0,vu 0,vu 0]) #[vu 0,vu 0,vu 0,vu 0] true (flat_one1 fTU256 (TU256.mk 0 0 0 0)) (fun w93 H94=>?_))
  clear H90
  refine z0 ?_
  refine zrd 1 3 [(3,vb false)] ?_
  refine WP.ret ?_
  obtain rfl:=oi h
  exact inb_r (then_r (then_r (inb_r (then_r (then_r (post_r (.tuple #[.agg #[vu 0,vu 0,vu 0,vu 0],vb false]) rfl (results_cell_tmp rfl (by kernel_rfl) (by kernel_rfl) (run_loadAt (ad:=(⟨b3,0,none⟩ : Addr)) (off:=0) (St.boxAt H94 0 rfl) (le_self _) (by kernel_rfl))) ⟨rfl,sl H94 []⟩))))))
 rintro a w97 ⟨x8,x9,x10,x11,G12,rfl,H98,h⟩
 subst hK13
 refine then_n ?_
 refine zsg ?_
 refine zv (.agg #[vu x8,vu x9,vu x10,vu x11]) (llb H98 0 0) ?_
 refine zo (osb H98 0 0 (.agg #[vu x8,vu x9,vu x10,vu x11]) #[vu x8,vu x9,vu x10,vu x11] true (flat_one1 fTU256 (TU256.mk x8 x9 x10 x11)) (fun w99 H100=>?_))
 clear H98
 refine z0 ?_
 refine zrd 1 3 [(3,vb true)] ?_
 refine WP.ret ?_
 obtain rfl:=oi h
 exact post_r (.tuple #[.agg #[vu x8,vu x9,vu x10,vu x11],vb true]) rfl (results_cell_tmp rfl (by kernel_rfl) (by kernel_rfl) (run_loadAt (ad:=(⟨b3,0,none⟩ : Addr)) (off:=0) (St.boxAt H100 0 rfl) (le_self _) (by kernel_rfl))) ⟨rfl,sl H100 []⟩
/- tarn/chain.Spent -/
def g_chain_Spent (fuel : Nat) (l2 : List TTx) : Option (TU256 × Int) :=
  bd (g_chain_spent fuel l2) fun t7 => lt (!t7.2) fun c17 => br c17 (some (TU256.mk 0 0 0 0, 1)) (some (t7.1, 0))
theorem g_chain_Spent_w (fuel : Nat) (s1 : Value) (l2 : List TTx) (r : TU256 × Int) (h : g_chain_Spent fuel l2 = some r) (w0 : World) (hs1 : RdD dTTx (hp no w0) s1 l2) :
 Ret Tryz.prog 49 #[s1] w0 (fun v w' => v = .tuple #[TU256.val r.1, vi r.2] ∧ St no w0 w' []) := by
 unfold g_chain_Spent at h
 refine ret_of_wpS Tryz.func49 rfl 15 rfl [(0,s1)] (by kernel_rfl) (fun G=>?_)
 have H0:=St.start w0
 refine zsg ?_
 refine zo (oal H0 #[vu 0,vu 0,vu 0,vu 0] 24 (fun b3 w5 H6=>?_))
 refine zn ?_
 refine zrd 1 2 [(3,vi 0)] ?_
 refine zsg ?_
 obtain ⟨t7,ht7,h⟩:=bs h
 refine zr 1 1 [(7,s1)] ?_
 refine zo (oca (g_chain_spent_w fuel s1 l2 t7 ht7 _ (RdD.mono (sub_hp (St.hp_le H6)) hs1)) ?_)
 rintro _ w8 ⟨rfl,Hc9⟩
 have H10:=St.call0' H6 Hc9
 clear H6 Hc9
 refine zn ?_
 refine zr 3 5 [(10,vb t7.2),(9,TU256.val t7.1),(6,.tuple #[TU256.val t7.1,vb t7.2])] ?_
 refine zo (oal H10 #[vu 0,vu 0,vu 0,vu 0] 24 (fun b11 w13 H14=>?_))
 clear H10
 refine zn ?_
 refine zo (osb H14 0 0 (TU256.val t7.1) (TU256.cs t7.1).toArray true (flat_one1 fTU256 t7.1) (fun w15 H16=>?_))
 clear H14
 refine z0 ?_
 refine zrd 1 8 [(5,vb t7.2)] ?_
 refine zs ?_
 refine zsg ?_
 obtain ⟨c17,e,h⟩:=ls h
 refine zed 2 2 [(12,vb c17),(11,vb t7.2)] ?_
 cases c17
 ·replace h:=bf h
  refine zFn ?_
  refine zsg ?_
  refine zv (TU256.val t7.1) (llb H16 0 0) ?_
  refine zo (osb H16 1 0 (TU256.val t7.1) (TU256.cs t7.1).toArray true (flat_one1 fTU256 t7.1) (fun w18 H19=>?_))
  clear H16
  refine z0 ?_
  refine zrd 1 3 [(3,vi 0)] ?_
  refine WP.ret ?_
  obtain rfl:=oi h
  exact post_r (.tuple #[TU256.val t7.1,vi 0]) rfl (results_cell_tmp rfl (by kernel_rfl) (by kernel_rfl) (run_loadAt (ad:=(⟨b3,0,none⟩ : Addr)) (off:=0) (St.boxAt H19 0 rfl) (le_self _) (by kernel_rfl))) ⟨rfl,sl H19 []⟩
 replace h:=bt h
 refine zT ?_
 refine zsg ?_
 refine zr 1 1 [(13,.agg #[vu 0,vu 0,vu 0,vu 0])] ?_
 refine zo (osb H16 1 0 (.agg #[vu 0,vu 0,vu 0,vu 0]) #[vu 0,vu 0,vu 0,vu 0] true (flat_one1 fTU256 (TU256.mk 0 0 0 0)) (fun w20 H21=>?_))
 clear H16
 refine z0 ?_
 refine zrd 1 3 [(3,vi 1)] ?_
 refine WP.ret ?_
 obtain rfl:=oi h
 exact then_r (post_r (.tuple #[.agg #[vu 0,vu 0,vu 0,vu 0],vi 1]) rfl (results_cell_tmp rfl (by kernel_rfl) (by kernel_rfl) (run_loadAt (ad:=(⟨b3,0,none⟩ : Addr)) (off:=0) (St.boxAt H21 0 rfl) (le_self _) (by kernel_rfl))) ⟨rfl,sl H21 []⟩)
/- tarn/pool.IDs -/
def g_pool_IDs_l1 (l2 : List TTx) (fuel : Nat) (K7 : (List Int) → Option (List Int)) : Nat → (List Int) → Int → Option (List Int)
  | 0, _, _ => none
  | n + 1, l9, x11 => lt (decide (x11 < (((List.length l2 : Nat) : Int)))) fun c16 => br c16 (gd ((0 : Int) ≤ x11 ∧ x11 < ((List.length l2 : Nat) : Int)) <| bd (l2[Int.toNat x11]?) fun x18 => bd (g_tx_ID fuel x18) fun t32 => gd ((List.length l9 + List.length (([t32.1] : List Int))) * 8 ≤ 140737488355328) <| lt (l9 ++ (([t32.1] : List Int))) fun l42 => lt (wr .i64 (x11 + 1)) fun x47 => g_pool_IDs_l1 l2 fuel K7 n l42 x47) (K7 l9)
def g_pool_IDs (fuel : Nat) (l2 : List TTx) : Option (List Int) :=
  jn (fun (l4 : List Int) => some l4) fun K7 => g_pool_IDs_l1 l2 fuel K7 fuel ([]) 0
theorem g_pool_IDs_w (fuel : Nat) (s1 : Value) (l2 : List TTx) (r : List Int) (h : g_pool_IDs fuel l2 = some r) (w0 : World) (hs1 : RdD dTTx (hp no w0) s1 l2) :
 Ret Tryz.prog 51 #[s1] w0 (fun v w' => ∃ (q0 : Value), v = q0 ∧ St no w0 w' [Own fU64 22 q0 r]) := by
 unfold g_pool_IDs at h
 refine ret_of_wpS Tryz.func51 rfl 25 rfl [(0,s1)] (by kernel_rfl) (fun G=>?_)
 have H0:=St.start w0
 refine zsg ?_
 refine zrd 1 1 [(2,vn)] ?_
 refine zsg ?_
 refine zrd 1 1 [(3,vn)] ?_
 refine zs ?_
 refine zsg ?_
 refine zr 1 1 [(8,s1)] ?_
 refine zv (vi (((List.length l2 : Nat) : Int))) (lln (RdD.sl hs1) 44 21 200) ?_
 refine zrd 1 3 [(10,vi 0)] ?_
 obtain ⟨K7,hK7,h⟩:=js h
 refine WP.blockJ (fun a w=>∃ (l4 : List Int) (s5 : Value),Y 25 [(3,s5)] [] no w0 [Own fU64 22 s5 l4] (K7 l4 = some r) a w) ?_ ?_
 ·refine WP.loop (fun n a w=>∃ (l9 : List Int) (x11 : Int) (s10 : Value),Y 25 [(3,s10),(8,s1),(9,vi (((List.length l2 : Nat) : Int))),(10,vi x11)] [] no w0 [Own fU64 22 s10 l9] (g_pool_IDs_l1 l2 fuel K7 n l9 x11 = some r) a w) fuel ⟨([]),0,vn,yy (St.nil H0 fU64 22) [0] h⟩ ?_
  rintro n a w13 ⟨l9,x11,s10,G12,rfl,H14,h⟩
  obtain _ | n:=n
  ·rw [g_pool_IDs_l1] at h; cases h
  rw [g_pool_IDs_l1] at h
  refine zsg ?_
  obtain ⟨c16,e,h⟩:=ls h
  refine zed 1 1 [(11,vb c16)] ?_
  refine zs ?_
  cases c16
  ·replace h:=bf h
   refine zF ?_
   refine WP.exit ?_
   exact then_e (then_e (inb_e (then_n ⟨l9,s10,yy H14 [0] h⟩)))
  replace h:=bt h
  refine zTn ?_
  refine zs ?_
  refine WP.block ?_
  refine zsg ?_
  obtain ⟨hg17,h⟩:=gs h
  refine zv (va (slAt s1 21 (Int.toNat x11))) (lli (RdD.sl hs1) 44 21 200 .i64 x11 hg17) ?_
  obtain ⟨x18,hx18,h⟩:=bs h
  obtain ⟨c23,hr24,hc25⟩:=RdD.at_ hs1 _ _ hx18
  obtain ⟨s19,s21,rfl,hs20,hs22⟩:=hr24
  refine zv ((gTx x18 s19 s21)) (lld 0 hc25 (St.hp_le H14)) ?_
  refine zo (oal H14 #[vi 0,vi 0,vu 0,vu 0,vu 0,vu 0,vu 0,vu 0,vu 0,vu 0,vu 0,vu 0,vu 0,vu 0,vu 0,vu 0,vu 0,vu 0,vi 0,vn,vn] 44 (fun b26 w28 H29=>?_))
  clear H14
  refine zn ?_
  refine zo (osb H29 0 0 ((gTx x18 s19 s21)) #[vi x18.From,vi x18.Nonce,vu x18.Tip.e0,vu x18.Tip.e1,vu x18.Tip.e2,vu x18.Tip.e3,vu x18.Cap.e0,vu x18.Cap.e1,vu x18.Cap.e2,vu x18.Cap.e3,vu x18.BlobCap.e0,vu x18.BlobCap.e1,vu x18.BlobCap.e2,vu x18.BlobCap.e3,vu x18.Value_.e0,vu x18.Value_.e1,vu x18.Value_.e2,vu x18.Value_.e3,vi x18.Gas,s19,s21] true (oc1 rfl (oc1 rfl (oc1 rfl (oc1 rfl (oc1 rfl (oc1 rfl (oc1 rfl (oc1 rfl (oc1 rfl (oc1 rfl (oc1 rfl (oc1 rfl (oc1 rfl (oc1 rfl (oc1 rfl (oc1 rfl (oc1 rfl (oc1 rfl (oc1 rfl (oc1 (IsSl.one (Rd.sl hs20)) (oc1 (IsSl.one (Rd.sl hs22)) oc0))))))))))))))))))))) (fun w30 H31=>?_))
  clear H29
  refine z0 ?_
  refine zdn ?_
  refine zsg ?_
  refine zv ((gTx x18 s19 s21)) (llb H31 0 0) ?_
  obtain ⟨t32,ht32,h⟩:=bs h
  refine zo (oca (g_tx_ID_w fuel s19 s21 x18 t32 ht32 _ (Rd.arg0 hs20 H31) (Rd.arg0 hs22 H31)) ?_)
  rintro _ w33 ⟨rfl,Hc34⟩
  have H35:=St.call0' H31 Hc34
  clear H31 Hc34
  refine zn ?_
  refine zrd 5 7 [(7,vi t32.2),(6,vu t32.1),(18,vi t32.2),(17,vu t32.1),(14,.tuple #[vu t32.1,vi t32.2])] ?_
  refine zg ?_
  refine zr 2 2 [(20,vu t32.1),(19,s10)] ?_
  refine WPI.op rfl (Op1.lit (F:=fU64) (E:=22) H35 (by kernel_rfl) ([t32.1] : List Int) (fun w=>by kernel_rfl) (by simp [maxLen]) (fun s37 w39 H40=>?_))
  clear H35
  obtain ⟨hg41,h⟩:=gs h
  obtain ⟨l42,hl42,h⟩:=ls h
  refine zn ?_
  refine WPI.op rfl (Op1.append (F:=fU64) H40 2 rfl (by kernel_rfl) 41 (.tmp 19) (.tmp 21) 8 rfl (by kernel_rfl) (by kernel_rfl) s37 (([t32.1] : List Int)) (St.rd H40 0 rfl) (hp_no_le _) (by kernel_rfl) (app_len hg41 (by decide)) (fun s43 w45 H46=>?_))
  rw [← hl42] at H46
  clear H40
  refine zn ?_
  refine zr 1 5 [(3,s43)] ?_
  refine zd ?_
  refine inb_n (then_n ?_)
  refine zg ?_
  obtain ⟨x47,e,h⟩:=ls h
  refine ze 2 2 [(10,vi x47),(23,vi x47)] ?_
  refine zd ?_
  exact then_n ⟨n,lS n,l42,x47,s43,yy H46 [0] h⟩
 rintro a w48 ⟨l4,s5,G6,rfl,H49,h⟩
 subst hK7
 refine then_n ?_
 refine zsg ?_
 refine zrd 2 2 [(2,s5),(24,s5)] ?_
 refine WP.ret ?_
 obtain rfl:=oi h
 exact post_r (s5) rfl (by kernel_rfl) ⟨s5,rfl,sl H49 [0]⟩
/- math/bits.Len -/
def g_math_bits_Len (fuel : Nat) (p1 : Int) : Option Int :=
  bd (g_math_bits_Len64 fuel p1) fun t2 => some t2
theorem g_math_bits_Len_w (fuel : Nat) (p1 : Int) (r : Int) (h : g_math_bits_Len fuel p1 = some r) (w0 : World) :
 Ret Tryz.prog 75 #[vu p1] w0 (fun v w' => v = vi r ∧ St no w0 w' []) := by
 unfold g_math_bits_Len at h
 refine ret_of_wpS Tryz.func75 rfl 8 rfl [(0,vu p1)] (by kernel_rfl) (fun G=>?_)
 have H0:=St.start w0
 refine zsg ?_
 refine zrd 1 1 [(2,vi 0)] ?_
 refine zs ?_
 refine zFn ?_
 refine zsg ?_
 obtain ⟨t2,ht2,h⟩:=bs h
 refine zr 1 1 [(6,vu p1)] ?_
 refine zo (oca (g_math_bits_Len64_w fuel p1 t2 ht2 _) ?_)
 rintro _ w3 ⟨rfl,Hc4⟩
 have H5:=St.call0' H0 Hc4
 clear Hc4
 refine zn ?_
 refine zrd 1 3 [(2,vi t2)] ?_
 refine WP.ret ?_
 obtain rfl:=oi h
 exact post_r (vi t2) rfl (by kernel_rfl) ⟨rfl,sl H5 []⟩
/- cmp.isNaN[uint64] -/
def g_cmp_isNaN_uint64 (fuel : Nat) (p1 : Int) : Option Bool :=
  lt (p1 != p1) fun c2 => some c2
theorem g_cmp_isNaN_uint64_w (fuel : Nat) (p1 : Int) (r : Bool) (h : g_cmp_isNaN_uint64 fuel p1 = some r) (w0 : World) :
 Ret Tryz.prog 117 #[vu p1] w0 (fun v w' => v = vb r ∧ St no w0 w' []) := by
 unfold g_cmp_isNaN_uint64 at h
 refine ret_of_wpS Tryz.func117 rfl 6 rfl [(0,vu p1)] (by kernel_rfl) (fun G=>?_)
 have H0:=St.start w0
 refine zsg ?_
 refine zrd 1 1 [(2,vb false)] ?_
 refine zsg ?_
 obtain ⟨c2,e,h⟩:=ls h
 refine zed 4 4 [(2,vb c2),(5,vb c2),(4,vu p1),(3,vu p1)] ?_
 refine WP.ret ?_
 obtain rfl:=oi h
 exact post_r (vb c2) rfl (by kernel_rfl) ⟨rfl,sl H0 []⟩
/- cmp.Less[uint64] -/
def g_Less (fuel : Nat) (p1 : Int) (p2 : Int) : Option Bool :=
  jn (fun (c3 : Bool) => some c3) fun K5 => bd (g_cmp_isNaN_uint64 fuel p1) fun t6 => br t6 (bd (g_cmp_isNaN_uint64 fuel p2) fun t11 => lt (!t11) fun c15 => br c15 (K5 true) (lt (decide (p1 < p2)) fun c16 => K5 c16)) (lt (decide (p1 < p2)) fun c10 => K5 c10)
theorem g_Less_w (fuel : Nat) (p1 : Int) (p2 : Int) (r : Bool) (h : g_Less fuel p1 p2 = some r) (w0 : World) :
 Ret Tryz.prog 96 #[vu p1, vu p2] w0 (fun v w' => v = vb r ∧ St no w0 w' []) := by
 unfold g_Less at h
 refine ret_of_wpS Tryz.func96 rfl 17 rfl [(0,vu p1),(1,vu p2)] (by kernel_rfl) (fun G=>?_)
 have H0:=St.start w0
 refine zsg ?_
 refine zrd 1 1 [(4,vb false)] ?_
 refine zs ?_
 obtain ⟨K5,hK5,h⟩:=js h
 refine WP.onlyN (fun a w=>∃ (c3 : Bool),Y 17 [(4,vb c3)] [] no w0 [] (K5 c3 = some r) a w) ?_ ?_
 ·refine zg ?_
  obtain ⟨t6,ht6,h⟩:=bs h
  refine zr 1 1 [(5,vu p1)] ?_
  refine zo (oca (g_cmp_isNaN_uint64_w fuel p1 t6 ht6 _) ?_)
  rintro _ w7 ⟨rfl,Hc8⟩
  have H9:=St.call0' H0 Hc8
  clear Hc8
  refine zn ?_
  refine zr 1 3 [(7,vb t6)] ?_
  cases t6
  ·replace h:=bf h
   obtain ⟨c10,e,h⟩:=ls h
   refine ze 10 13 [(4,vb c10),(16,vb c10),(15,vb c10),(14,vu p2),(13,vu p1),(12,vb false),(11,vb false),(10,Z),(9,Z),(8,Z)] ?_
   refine zd ?_
   exact ⟨c10,yy H9 [] h⟩
  replace h:=bt h
  obtain ⟨t11,ht11,h⟩:=bs h
  refine zr 1 4 [(8,vu p2)] ?_
  refine zo (oca (g_cmp_isNaN_uint64_w fuel p2 t11 ht11 _) ?_)
  rintro _ w12 ⟨rfl,Hc13⟩
  have H14:=St.call0' H9 Hc13
  clear H9 Hc13
  obtain ⟨c15,e,h⟩:=ls h
  refine zn ?_
  refine ze 3 8 [(12,vb c15),(11,vb c15),(10,vb c15)] ?_
  cases c15
  rotate_left
  ·replace h:=bt h
   refine zr 5 13 [(4,vb true),(16,vb true),(15,Z),(14,Z),(13,Z)] ?_
   refine zd ?_
   exact ⟨true,yy H14 [] h⟩
  replace h:=bf h
  obtain ⟨c16,e,h⟩:=ls h
  refine ze 5 13 [(4,vb c16),(16,vb c16),(15,vb c16),(14,vu p2),(13,vu p1)] ?_
  refine zd ?_
  exact ⟨c16,yy H14 [] h⟩
 rintro a w17 ⟨c3,G4,rfl,H18,h⟩
 subst hK5
 refine then_n ?_
 refine WP.ret ?_
 obtain rfl:=oi h
 exact post_r (vb c3) rfl (by kernel_rfl) ⟨rfl,sl H18 []⟩
/- slices.order2Ordered[uint64] -/
def g_sOrd (fuel : Nat) (l2 : List Int) (p3 : Int) (p4 : Int) (p5 : Int) : Option (Int × Int × Int) :=
  gd ((0 : Int) ≤ p4 ∧ p4 < ((List.length l2 : Nat) : Int)) <| bd (l2[Int.toNat p4]?) fun x8 => gd ((0 : Int) ≤ p3 ∧ p3 < ((List.length l2 : Nat) : Int)) <| bd (l2[Int.toNat p3]?) fun x10 => bd (g_Less fuel x8 x10) fun t11 => br t11 (lt (wr .i64 (p5 + 1)) fun x14 => some (x14, p4, p3)) (some (p5, p3, p4))
theorem g_sOrd_w (fuel : Nat) (s1 : Value) (l2 : List Int) (p3 : Int) (p4 : Int) (b6 : Nat) (p5 : Int) (r : Int × Int × Int) (h : g_sOrd fuel l2 p3 p4 p5 = some r) (w0 : World) (hs1 : Rd fU64 (hp ((Box b6 #[vi p5] 3).fp) w0) s1 l2) (hm : (Box b6 #[vi p5] 3).holds w0) :
 Ret Tryz.prog 125 #[s1, vi p3, vi p4, vp b6 0] w0 (fun v w' => v = .tuple #[vi r.2.1, vi r.2.2] ∧ St (Box b6 #[vi p5] 3).fp w0 w' [Box b6 #[vi r.1] 3]) := by
 unfold g_sOrd at h
 refine ret_of_wpS Tryz.func125 rfl 28 rfl [(0,s1),(1,vi p3),(2,vi p4),(3,vp b6 0)] (by kernel_rfl) (fun G=>?_)
 have H0:=St.start1 hm
 refine zsg ?_
 refine zrd 2 2 [(9,vi 0),(8,vi 0)] ?_
 refine zs ?_
 refine zs ?_
 refine WP.quiet (by kernel_rfl) (by kernel_rfl) (by kernel_rfl) (fun w=>St (Box b6 #[vi p5] 3).fp w0 w [Box b6 #[vi p5] 3]) (St.drew H0) ?_
 obtain ⟨hg7,h⟩:=gs h
 refine qr 2 2 [(11,vi p4),(10,s1)] ?_
 refine qv (va (slAt s1 1 (Int.toNat p4))) (fun w H=>lli (Rd.sl hs1) 22 1 8 .i64 p4 hg7) ?_
 obtain ⟨x8,hx8,h⟩:=bs h
 refine qv (vu x8) (fun w H=>lle fU64 hs1 (St.hp_le H) hx8 0) ?_
 obtain ⟨hg9,h⟩:=gs h
 refine qr 2 6 [(15,vi p3),(14,s1)] ?_
 refine qv (va (slAt s1 1 (Int.toNat p3))) (fun w H=>lli (Rd.sl hs1) 22 1 8 .i64 p3 hg9) ?_
 obtain ⟨x10,hx10,h⟩:=bs h
 refine qv (vu x10) (fun w H=>lle fU64 hs1 (St.hp_le H) hx10 0) ?_
 obtain ⟨t11,ht11,h⟩:=bs h
 refine qc (vb t11) (fun w H=>Ret.mono (g_Less_w fuel x8 x10 t11 ht11 _) fun u w1 hu=>⟨hu.1,St.call0' H hu.2⟩) ?_
 refine qd fun w12 H13=>?_
 refine then_n ?_
 cases t11
 ·replace h:=bf h
  refine zFn ?_
  refine zsg ?_
  refine zrd 4 4 [(9,vi p4),(8,vi p3),(27,vi p4),(26,vi p3)] ?_
  refine WP.ret ?_
  obtain rfl:=oi h
  exact post_r (.tuple #[vi p3,vi p4]) rfl (by kernel_rfl) ⟨rfl,sl H13 [0]⟩
 replace h:=bt h
 refine zT ?_
 refine zsg ?_
 refine zr 2 2 [(20,vp b6 0),(19,vp b6 0)] ?_
 refine zv (vi p5) (llb H13 0 0) ?_
 obtain ⟨x14,e,h⟩:=ls h
 refine ze 2 5 [(23,vp b6 0),(22,vi x14)] ?_
 refine zo (osb H13 0 0 (vi x14) #[vi x14] false (flat_one1 fI64 x14) (fun w15 H16=>?_))
 clear H13
 refine z0 ?_
 refine zdn ?_
 refine zsg ?_
 refine zrd 4 4 [(9,vi p3),(8,vi p4),(25,vi p3),(24,vi p4)] ?_
 refine WP.ret ?_
 obtain rfl:=oi h
 exact then_r (post_r (.tuple #[vi p4,vi p3]) rfl (by kernel_rfl) ⟨rfl,sl H16 [0]⟩)
/- slices.medianOrdered[uint64] -/
def g_sMed (fuel : Nat) (l2 : List Int) (p3 : Int) (p4 : Int) (p5 : Int) (p6 : Int) : Option (Int × Int) :=
  bd (g_sOrd fuel l2 p3 p4 p6) fun t8 => bd (g_sOrd fuel l2 t8.2.2 p5 t8.1) fun t13 => bd (g_sOrd fuel l2 t8.2.1 t13.2.1 t13.1) fun t18 => some (t18.1, t18.2.2)
theorem g_sMed_w (fuel : Nat) (s1 : Value) (l2 : List Int) (p3 : Int) (p4 : Int) (p5 : Int) (b7 : Nat) (p6 : Int) (r : Int × Int) (h : g_sMed fuel l2 p3 p4 p5 p6 = some r) (w0 : World) (hs1 : Rd fU64 (hp ((Box b7 #[vi p6] 3).fp) w0) s1 l2) (hm : (Box b7 #[vi p6] 3).holds w0) :
 Ret Tryz.prog 116 #[s1, vi p3, vi p4, vi p5, vp b7 0] w0 (fun v w' => v = vi r.2 ∧ St (Box b7 #[vi p6] 3).fp w0 w' [Box b7 #[vi r.1] 3]) := by
 unfold g_sMed at h
 refine ret_of_wpS Tryz.func116 rfl 36 rfl [(0,s1),(1,vi p3),(2,vi p4),(3,vi p5),(4,vp b7 0)] (by kernel_rfl) (fun G=>?_)
 have H0:=St.start1 hm
 refine zsg ?_
 refine zrd 1 1 [(10,vi 0)] ?_
 refine zsg ?_
 obtain ⟨t8,ht8,h⟩:=bs h
 refine zr 4 4 [(15,vp b7 0),(14,vi p4),(13,vi p3),(12,s1)] ?_
 refine zo (oca (g_sOrd_w fuel s1 l2 p3 p4 b7 p6 t8 ht8 _ (Rd.arg hs1 H0 (St.own H0 _ (List.mem_of_getElem? (i:=0) rfl))) (St.get H0 0 rfl)) ?_)
 rintro _ w10 ⟨rfl,Hc11⟩
 have H12:=St.call1 H0 0 rfl Hc11
 clear Hc11
 refine zn ?_
 refine zrd 5 10 [(2,vi t8.2.2),(1,vi t8.2.1),(18,vi t8.2.2),(17,vi t8.2.1),(11,.tuple #[vi t8.2.1,vi t8.2.2])] ?_
 refine zsg ?_
 obtain ⟨t13,ht13,h⟩:=bs h
 refine zr 4 4 [(23,vp b7 0),(22,vi p5),(21,vi t8.2.2),(20,s1)] ?_
 refine zo (oca (g_sOrd_w fuel s1 l2 t8.2.2 p5 b7 t8.1 t13 ht13 _ (Rd.arg hs1 H12 (St.own H12 _ (List.mem_of_getElem? (i:=0) rfl))) (St.get H12 0 rfl)) ?_)
 rintro _ w15 ⟨rfl,Hc16⟩
 have H17:=St.call1 H12 0 rfl Hc16
 clear H12 Hc16
 refine zn ?_
 refine zrd 5 10 [(3,vi t13.2.2),(2,vi t13.2.1),(26,vi t13.2.2),(25,vi t13.2.1),(19,.tuple #[vi t13.2.1,vi t13.2.2])] ?_
 refine zsg ?_
 obtain ⟨t18,ht18,h⟩:=bs h
 refine zr 4 4 [(31,vp b7 0),(30,vi t13.2.1),(29,vi t8.2.1),(28,s1)] ?_
 refine zo (oca (g_sOrd_w fuel s1 l2 t8.2.1 t13.2.1 b7 t13.1 t18 ht18 _ (Rd.arg hs1 H17 (St.own H17 _ (List.mem_of_getElem? (i:=0) rfl))) (St.get H17 0 rfl)) ?_)
 rintro _ w20 ⟨rfl,Hc21⟩
 have H22:=St.call1 H17 0 rfl Hc21
 clear H17 Hc21
 refine zn ?_
 refine zrd 5 10 [(2,vi t18.2.2),(1,vi t18.2.1),(34,vi t18.2.2),(33,vi t18.2.1),(27,.tuple #[vi t18.2.1,vi t18.2.2])] ?_
 refine zsg ?_
 refine zrd 2 2 [(10,vi t18.2.2),(35,vi t18.2.2)] ?_
 refine WP.ret ?_
 obtain rfl:=oi h
 exact post_r (vi t18.2.2) rfl (by kernel_rfl) ⟨rfl,sl H22 [0]⟩
/- slices.medianAdjacentOrdered[uint64] -/
def g_sMad (fuel : Nat) (l2 : List Int) (p3 : Int) (p4 : Int) : Option (Int × Int) :=
  lt (wr .i64 (p3 - 1)) fun x6 => lt (wr .i64 (p3 + 1)) fun x7 => bd (g_sMed fuel l2 x6 p3 x7 p4) fun t8 => some (t8.1, t8.2)
theorem g_sMad_w (fuel : Nat) (s1 : Value) (l2 : List Int) (p3 : Int) (b5 : Nat) (p4 : Int) (r : Int × Int) (h : g_sMad fuel l2 p3 p4 = some r) (w0 : World) (hs1 : Rd fU64 (hp ((Box b5 #[vi p4] 3).fp) w0) s1 l2) (hm : (Box b5 #[vi p4] 3).holds w0) :
 Ret Tryz.prog 115 #[s1, vi p3, vp b5 0] w0 (fun v w' => v = vi r.2 ∧ St (Box b5 #[vi p4] 3).fp w0 w' [Box b5 #[vi r.1] 3]) := by
 unfold g_sMad at h
 refine ret_of_wpS Tryz.func115 rfl 15 rfl [(0,s1),(1,vi p3),(2,vp b5 0)] (by kernel_rfl) (fun G=>?_)
 have H0:=St.start1 hm
 refine zsg ?_
 refine zrd 1 1 [(6,vi 0)] ?_
 refine zsg ?_
 obtain ⟨x6,hx6,h⟩:=ls h
 obtain ⟨x7,hx7,h⟩:=ls h
 obtain ⟨t8,ht8,h⟩:=bs h
 refine zr 7 7 [(13,vp b5 0),(12,vi x7),(11,vi p3),(10,vi p3),(9,vi x6),(8,vi p3),(7,s1)] ?_ rfl (fun K=>by subst hx7 hx6; kernel_rfl)
 refine zo (oca (g_sMed_w fuel s1 l2 x6 p3 x7 b5 p4 t8 ht8 _ (Rd.arg hs1 H0 (St.own H0 _ (List.mem_of_getElem? (i:=0) rfl))) (St.get H0 0 rfl)) ?_)
 rintro _ w10 ⟨rfl,Hc11⟩
 have H12:=St.call1 H0 0 rfl Hc11
 clear Hc11
 refine zn ?_
 refine zrd 1 9 [(6,vi t8.2)] ?_
 refine WP.ret ?_
 obtain rfl:=oi h
 exact post_r (vi t8.2) rfl (by kernel_rfl) ⟨rfl,sl H12 [0]⟩
/- slices.choosePivotOrdered[uint64] -/
def g_sCho (fuel : Nat) (l2 : List Int) (p3 : Int) (p4 : Int) : Option (Int × Int) :=
  lt (wr .i64 (p4 - p3)) fun x5 => lt (wr .i64 (Int.tdiv x5 4)) fun x10 => lt (wr .i64 (x10 * 1)) fun x11 => lt (wr .i64 (p3 + x11)) fun x12 => lt (wr .i64 (Int.tdiv x5 4)) fun x13 => lt (wr .i64 (x13 * 2)) fun x14 => lt (wr .i64 (p3 + x14)) fun x15 => lt (wr .i64 (Int.tdiv x5 4)) fun x16 => lt (wr .i64 (x16 * 3)) fun x17 => lt (wr .i64 (p3 + x17)) fun x18 => jn (fun (x19 : Int) (x20 : Int) => lt (x19 == 0) fun c55 => br c55 (some (x20, 1)) (lt (x19 == 12) fun c56 => br c56 (some (x20, 2)) (some (x20, 0)))) fun K22 => lt (decide (x5 ≥ 8)) fun c23 => br c23 (jn (fun (x24 : Int) (x25 : Int) (x26 : Int) (x27 : Int) => bd (g_sMed fuel l2 x25 x26 x27 x24) fun t48 => K22 t48.1 t48.2) fun K29 => lt (decide (x5 ≥ 50)) fun c30 => br c30 (bd (g_sMad fuel l2 x12 0) fun t31 => bd (g_sMad fuel l2 x15 t31.1) fun t36 => bd (g_sMad fuel l2 x18 t36.1) fun t41 => K29 t41.1 t31.2 t36.2 t41.2) (K29 0 x12 x15 x18)) (K22 0 x15)
theorem g_sCho_w (fuel : Nat) (s1 : Value) (l2 : List Int) (p3 : Int) (p4 : Int) (r : Int × Int) (h : g_sCho fuel l2 p3 p4 = some r) (w0 : World) (hs1 : Rd fU64 (hp no w0) s1 l2) :
 Ret Tryz.prog 93 #[s1, vi p3, vi p4] w0 (fun v w' => v = .tuple #[vi r.1, vi r.2] ∧ St no w0 w' []) := by
 unfold g_sCho at h
 refine ret_of_wpS Tryz.func93 rfl 57 rfl [(0,s1),(1,vi p3),(2,vi p4)] (by kernel_rfl) (fun G=>?_)
 have H0:=St.start w0
 refine zsg ?_
 refine zrd 2 2 [(7,vi 0),(6,vi 0)] ?_
 refine zsg ?_
 obtain ⟨x5,e,h⟩:=ls h
 refine zed 4 4 [(8,vi x5),(15,vi x5),(14,vi p3),(13,vi p4)] ?_
 refine zsg ?_
 refine zo (oal H0 #[vi 0] 3 (fun b6 w8 H9=>?_))
 refine zn ?_
 refine zdn ?_
 refine zsg ?_
 obtain ⟨x10,hx10,h⟩:=ls h
 obtain ⟨x11,hx11,h⟩:=ls h
 obtain ⟨x12,hx12,h⟩:=ls h
 refine zr 6 6 [(10,vi x12),(20,vi x12),(19,vi x11),(18,vi x10),(17,vi x5),(16,vi p3)] ?_ rfl (fun K=>by subst hx12 hx11 hx10; kernel_rfl)
 refine zdn ?_
 refine zsg ?_
 obtain ⟨x13,hx13,h⟩:=ls h
 obtain ⟨x14,hx14,h⟩:=ls h
 obtain ⟨x15,hx15,h⟩:=ls h
 refine zr 6 6 [(11,vi x15),(25,vi x15),(24,vi x14),(23,vi x13),(22,vi x5),(21,vi p3)] ?_ rfl (fun K=>by subst hx15 hx14 hx13; kernel_rfl)
 refine zdn ?_
 refine zsg ?_
 obtain ⟨x16,hx16,h⟩:=ls h
 obtain ⟨x17,hx17,h⟩:=ls h
 obtain ⟨x18,hx18,h⟩:=ls h
 refine zr 6 6 [(12,vi x18),(30,vi x18),(29,vi x17),(28,vi x16),(27,vi x5),(26,vi p3)] ?_ rfl (fun K=>by subst hx18 hx17 hx16; kernel_rfl)
 refine zdn ?_
 obtain ⟨K22,hK22,h⟩:=js h
 refine WP.seqJ (fun a w=>∃ (x19 : Int) (x20 : Int),Y 57 [(9,vp b6 0),(11,vi x20)] [] no w0 [Box b6 #[vi x19] 3] (K22 x19 x20 = some r) a w) ?_ ?_
 ·refine zsg ?_
  obtain ⟨c23,e,h⟩:=ls h
  refine zed 2 2 [(32,vb c23),(31,vi x5)] ?_
  cases c23
  ·replace h:=bf h
   refine zF ?_
   refine WP.skip ?_
   exact then_n ⟨0,x15,yy H9 [0] h⟩
  replace h:=bt h
  refine zT ?_
  obtain ⟨K29,hK29,h⟩:=js h
  refine WP.seqJ (fun a w=>∃ (x24 : Int) (x25 : Int) (x26 : Int) (x27 : Int),Y 57 [(0,s1),(9,vp b6 0),(10,vi x25),(11,vi x26),(12,vi x27)] [] no w0 [Box b6 #[vi x24] 3] (K29 x24 x25 x26 x27 = some r) a w) ?_ ?_
  ·refine zsg ?_
   obtain ⟨c30,e,h⟩:=ls h
   refine zed 2 2 [(34,vb c30),(33,vi x5)] ?_
   cases c30
   ·replace h:=bf h
    refine zF ?_
    refine WP.skip ?_
    exact then_n ⟨0,x12,x15,x18,yy H9 [0] h⟩
   replace h:=bt h
   refine zT ?_
   refine zsg ?_
   obtain ⟨t31,ht31,h⟩:=bs h
   refine zr 2 2 [(36,vi x12),(35,s1)] ?_
   refine zo (oca (g_sMad_w fuel s1 l2 x12 b6 0 t31 ht31 _ (Rd.arg hs1 H9 (St.own H9 _ (List.mem_of_getElem? (i:=0) rfl))) (St.get H9 0 rfl)) ?_)
   rintro _ w33 ⟨rfl,Hc34⟩
   have H35:=St.call1 H9 0 rfl Hc34
   clear H9 Hc34
   refine zn ?_
   refine zrd 1 4 [(10,vi t31.2)] ?_
   refine zsg ?_
   obtain ⟨t36,ht36,h⟩:=bs h
   refine zr 2 2 [(39,vi x15),(38,s1)] ?_
   refine zo (oca (g_sMad_w fuel s1 l2 x15 b6 t31.1 t36 ht36 _ (Rd.arg hs1 H35 (St.own H35 _ (List.mem_of_getElem? (i:=0) rfl))) (St.get H35 0 rfl)) ?_)
   rintro _ w38 ⟨rfl,Hc39⟩
   have H40:=St.call1 H35 0 rfl Hc39
   clear H35 Hc39
   refine zn ?_
   refine zrd 1 4 [(11,vi t36.2)] ?_
   refine zg ?_
   obtain ⟨t41,ht41,h⟩:=bs h
   refine zr 2 2 [(42,vi x18),(41,s1)] ?_
   refine zo (oca (g_sMad_w fuel s1 l2 x18 b6 t36.1 t41 ht41 _ (Rd.arg hs1 H40 (St.own H40 _ (List.mem_of_getElem? (i:=0) rfl))) (St.get H40 0 rfl)) ?_)
   rintro _ w43 ⟨rfl,Hc44⟩
   have H45:=St.call1 H40 0 rfl Hc44
   clear H40 Hc44
   refine zn ?_
   refine zr 1 4 [(12,vi t41.2)] ?_
   refine zd ?_
   exact then_n ⟨t41.1,t31.2,t36.2,t41.2,yy H45 [0] h⟩
  rintro a w46 ⟨x24,x25,x26,x27,G28,rfl,H47,h⟩
  subst hK29
  refine zg ?_
  obtain ⟨t48,ht48,h⟩:=bs h
  refine zr 4 4 [(47,vi x27),(46,vi x26),(45,vi x25),(44,s1)] ?_
  refine zo (oca (g_sMed_w fuel s1 l2 x25 x26 x27 b6 x24 t48 ht48 _ (Rd.arg hs1 H47 (St.own H47 _ (List.mem_of_getElem? (i:=0) rfl))) (St.get H47 0 rfl)) ?_)
  rintro _ w50 ⟨rfl,Hc51⟩
  have H52:=St.call1 H47 0 rfl Hc51
  clear H47 Hc51
  refine zn ?_
  refine zr 1 6 [(11,vi t48.2)] ?_
  refine zd ?_
  exact then_n ⟨t48.1,t48.2,yy H52 [0] h⟩
 rintro a w53 ⟨x19,x20,G21,rfl,H54,h⟩
 subst hK22
 refine zsg ?_
 refine zv (vi x19) (llb H54 0 0) ?_
 refine zdn ?_
 refine WP.block ?_
 refine zsg ?_
 obtain ⟨c55,e,h⟩:=ls h
 refine zed 2 2 [(51,vb c55),(52,vb c55)] ?_
 cases c55
 rotate_left
 ·replace h:=bt h
  refine zT ?_
  refine zsg ?_
  refine zrd 3 3 [(7,vi 1),(6,vi x20),(53,vi x20)] ?_
  refine WP.ret ?_
  obtain rfl:=oi h
  exact inb_r (post_r (.tuple #[vi x20,vi 1]) rfl (by kernel_rfl) ⟨rfl,sl H54 []⟩)
 replace h:=bf h
 refine zF ?_
 refine zsg ?_
 obtain ⟨c56,e,h⟩:=ls h
 refine zed 2 2 [(54,vb c56),(55,vb c56)] ?_
 cases c56
 ·replace h:=bf h
  refine zF ?_
  refine zsg ?_
  refine zrd 3 3 [(7,vi 0),(6,vi x20),(50,vi x20)] ?_
  refine WP.ret ?_
  obtain rfl:=oi h
  exact inb_r (post_r (.tuple #[vi x20,vi 0]) rfl (by kernel_rfl) ⟨rfl,sl H54 []⟩)
 replace h:=bt h
 refine zT ?_
 refine zsg ?_
 refine zrd 3 3 [(7,vi 2),(6,vi x20),(56,vi x20)] ?_
 refine WP.ret ?_
 obtain rfl:=oi h
 exact inb_r (post_r (.tuple #[vi x20,vi 2]) rfl (by kernel_rfl) ⟨rfl,sl H54 []⟩)
/- slices.reverseRangeOrdered[uint64] -/
def g_sRev_l1 (K10 : (List Int) → Option (List Int)) (fuel : Nat) : Nat → (List Int) → Int → Int → Option (List Int)
  | 0, _, _, _ => none
  | n + 1, l11, x12, x13 => lt (decide (x12 < x13)) fun c18 => br c18 (jn (fun (l19 : List Int) => lt (wr .i64 (x12 + 1)) fun x38 => lt (wr .i64 (x13 - 1)) fun x39 => g_sRev_l1 K10 fuel n l19 x38 x39) fun K21 => gd ((0 : Int) ≤ x13 ∧ x13 < ((List.length l11 : Nat) : Int)) <| bd (l11[Int.toNat x13]?) fun x24 => gd ((0 : Int) ≤ x12 ∧ x12 < ((List.length l11 : Nat) : Int)) <| bd (l11[Int.toNat x12]?) fun x26 => gd ((0 : Int) ≤ x12 ∧ x12 < ((List.length l11 : Nat) : Int)) <| lt (List.set l11 (Int.toNat x12) x24) fun l28 => gd ((0 : Int) ≤ x13 ∧ x13 < ((List.length l11 : Nat) : Int)) <| lt (List.set l28 (Int.toNat x13) x26) fun l32 => K21 l32) (K10 l11)
def g_sRev (fuel : Nat) (l2 : List Int) (p4 : Int) (p5 : Int) : Option (List Int) :=
  lt (wr .i64 (p5 - 1)) fun x7 => jn (fun (l8 : List Int) => some l8) fun K10 => g_sRev_l1 K10 fuel fuel l2 p4 x7
theorem g_sRev_w (fuel : Nat) (s1 : Value) (l2 : List Int) (p4 : Int) (p5 : Int) (r : List Int) (h : g_sRev fuel l2 p4 p5 = some r) (w0 : World) (hm : (Own fU64 22 s1 l2).holds w0) :
 Ret Tryz.prog 94 #[s1, vi p4, vi p5] w0 (fun v w' => v = .tuple #[] ∧ St (Own fU64 22 s1 l2).fp w0 w' [Own fU64 22 s1 r]) := by
 unfold g_sRev at h
 refine ret_of_wpS Tryz.func94 rfl 32 rfl [(0,s1),(1,vi p4),(2,vi p5)] (by kernel_rfl) (fun G=>?_)
 have H0:=St.start1 hm
 refine zsg ?_
 refine zrd 2 2 [(6,vi p4),(8,vi p4)] ?_
 refine zsg ?_
 obtain ⟨x7,e,h⟩:=ls h
 refine zed 3 3 [(7,vi x7),(10,vi x7),(9,vi p5)] ?_
 obtain ⟨K10,hK10,h⟩:=js h
 refine WP.blockJ (fun a w=>∃ (l8 : List Int),Y 32 [] [] (Own fU64 22 s1 l2).fp w0 [Own fU64 22 s1 l8] (K10 l8 = some r) a w) ?_ ?_
 ·refine WP.loop (fun n a w=>∃ (l11 : List Int) (x12 : Int) (x13 : Int),Y 32 [(0,s1),(6,vi x12),(7,vi x13)] [] (Own fU64 22 s1 l2).fp w0 [Own fU64 22 s1 l11] (g_sRev_l1 K10 fuel n l11 x12 x13 = some r) a w) fuel ⟨l2,p4,x7,yy H0 [0] h⟩ ?_
  rintro n a w15 ⟨l11,x12,x13,G14,rfl,H16,h⟩
  obtain _ | n:=n
  ·rw [g_sRev_l1] at h; cases h
  rw [g_sRev_l1] at h
  have sf17:=Own.isSl (St.get H16 0 rfl)
  refine zs ?_
  refine zsg ?_
  obtain ⟨c18,e,h⟩:=ls h
  refine zed 3 3 [(13,vb c18),(12,vi x13),(11,vi x12)] ?_
  cases c18
  ·replace h:=bf h
   refine zF ?_
   refine WP.exit ?_
   exact then_e (then_e (inb_e (then_n ⟨l11,yy H16 [0] h⟩)))
  replace h:=bt h
  refine zTn ?_
  refine WP.block ?_
  refine zs ?_
  obtain ⟨K21,hK21,h⟩:=js h
  refine WP.drawI (by kernel_rfl) (by kernel_rfl) (fun w=>St (Own fU64 22 s1 l2).fp w0 w []) [13,15] (fun w=>St (Own fU64 22 s1 l2).fp w0 w [Own fU64 22 s1 l11]) (fun a w=>∃ (l19 : List Int),Y 32 [(0,s1),(6,vi x12),(7,vi x13)] [] (Own fU64 22 s1 l2).fp w0 [Own fU64 22 s1 l19] (K21 l19 = some r) a w) 16 #[F,F,F,F,F,F,F,F,F,F,F,F,F,F,F,F] (by kernel_rfl) (by kernel_rfl) ?_ ?_
  ·have H22:=St.drew H16
   obtain ⟨hg23,h⟩:=gs h
   refine WI.runS [0,1,2,3,4,5] 10 _ #[T,T,T,T,T,T,F,F,F,F,F,F,F,F,F,F] [(19,vi x13),(18,s1),(17,vi x13),(16,s1),(15,vi x12),(14,s1)] rfl (fun K=>by kernel_rfl) ?_
   refine WI.takeS 6 (va (slAt s1 1 (Int.toNat x13))) 20 rfl rfl (by kernel_rfl) (by kernel_rfl) (fun w H=>ev_index sf17 41 (.tmp 18) (.tmp 19) 22 1 8 .i64 x13 rfl (by kernel_rfl) (by kernel_rfl) (by kernel_rfl) hg23) (li':=#[T,T,T,T,T,T,T,F,F,F,F,F,F,F,F,F]) (by kernel_rfl) ?_
   obtain ⟨x24,hx24,h⟩:=bs h
   refine WI.takeT 7 (vu x24) 21 rfl rfl (by kernel_rfl) (by kernel_rfl) (by kernel_rfl) (fun w H=>ev_loadEl (F:=fU64) (St.rd H 0 rfl) (hp_no_le _) hx24 22 (.tmp 20) 0 (vu x24) rfl (by kernel_rfl) (by kernel_rfl)) (li':=#[T,T,T,T,T,T,T,T,F,F,F,F,F,F,F,F]) (by kernel_rfl) ?_
   obtain ⟨hg25,h⟩:=gs h
   refine WI.runS [8,9] 6 _ #[T,T,T,T,T,T,T,T,T,T,F,F,F,F,F,F] [(23,vi x12),(22,s1)] rfl (fun K=>by kernel_rfl) ?_
   refine WI.takeS 10 (va (slAt s1 1 (Int.toNat x12))) 24 rfl rfl (by kernel_rfl) (by kernel_rfl) (fun w H=>ev_index sf17 41 (.tmp 22) (.tmp 23) 22 1 8 .i64 x12 rfl (by kernel_rfl) (by kernel_rfl) (by kernel_rfl) hg25) (li':=#[T,T,T,T,T,T,T,T,T,T,T,F,F,F,F,F]) (by kernel_rfl) ?_
   obtain ⟨x26,hx26,h⟩:=bs h
   refine WI.takeT 11 (vu x26) 25 rfl rfl (by kernel_rfl) (by kernel_rfl) (by kernel_rfl) (fun w H=>ev_loadEl (F:=fU64) (St.rd H 0 rfl) (hp_no_le _) hx26 22 (.tmp 24) 0 (vu x26) rfl (by kernel_rfl) (by kernel_rfl)) (li':=#[T,T,T,T,T,T,T,T,T,T,T,T,F,F,F,F]) (by kernel_rfl) ?_
   obtain ⟨hg27,h⟩:=gs h
   refine WI.takeS 12 (va (slAt s1 1 (Int.toNat x12))) 26 rfl rfl (by kernel_rfl) (by kernel_rfl) (fun w H=>ev_index sf17 41 (.tmp 14) (.tmp 15) 22 1 8 .i64 x12 rfl (by kernel_rfl) (by kernel_rfl) (by kernel_rfl) hg27) (li':=#[T,T,T,T,T,T,T,T,T,T,T,T,T,F,F,F]) (by kernel_rfl) ?_
   obtain ⟨l28,hl28,h⟩:=ls h
   refine WI.one 13 (by kernel_rfl) (nod (sl H22 []) (sl H22 [0])) rfl (Op1.storeOwn H22 0 rfl (by kernel_rfl) 22 (.tmp 26) (.tmp 21) (Int.toNat x12) x24 false rfl (by kernel_rfl) (by kernel_rfl) (by kernel_rfl) (idx_lt hg27) (fun w29 H30=>?_))
   rw [← hl28] at H30
   clear H22
   refine WI.nS0 #[T,T,T,T,T,T,T,T,T,T,T,T,T,T,F,F] (by kernel_rfl) rfl ?_
   obtain ⟨hg31,h⟩:=gs h
   refine WI.takeS 14 (va (slAt s1 1 (Int.toNat x13))) 27 rfl rfl (by kernel_rfl) (by kernel_rfl) (fun w H=>ev_index sf17 41 (.tmp 16) (.tmp 17) 22 1 8 .i64 x13 rfl (by kernel_rfl) (by kernel_rfl) (by kernel_rfl) hg31) (li':=#[T,T,T,T,T,T,T,T,T,T,T,T,T,T,T,F]) (by kernel_rfl) ?_
   obtain ⟨l32,hl32,h⟩:=ls h
   refine WI.one 15 (by kernel_rfl) (nod0 (sl H30 []) 13 (by decide) (by kernel_rfl)) rfl (Op1.storeOwn H30 0 rfl (by kernel_rfl) 22 (.tmp 27) (.tmp 25) (Int.toNat x13) x26 false rfl (by kernel_rfl) (by kernel_rfl) (by kernel_rfl) (by simp only [hl28,List.length_set]; exact idx_lt hg31) (fun w33 H34=>?_))
   rw [← hl32] at H34
   clear H30
   refine WI.nS0 #[T,T,T,T,T,T,T,T,T,T,T,T,T,T,T,T] (by kernel_rfl) rfl ?_
   refine WI.done (by kernel_rfl) (nod0 (sl H34 []) 13 (by decide) (by kernel_rfl)) ?_
   exact ⟨l32,yy H34 [0] h⟩
  rintro a w35 ⟨l19,G20,rfl,H36,h⟩
  subst hK21
  refine then_n ?_
  refine zsg ?_
  obtain ⟨x38,e,h⟩:=ls h
  refine zed 3 3 [(6,vi x38),(29,vi x38),(28,vi x12)] ?_
  refine zg ?_
  obtain ⟨x39,e,h⟩:=ls h
  refine ze 3 3 [(7,vi x39),(31,vi x39),(30,vi x13)] ?_
  refine zd ?_
  exact inb_n (then_n ⟨n,lS n,l19,x38,x39,yy H36 [0] h⟩)
 rintro a w40 ⟨l8,G9,rfl,H41,h⟩
 subst hK10
 obtain rfl:=oi h
 exact post_n (.tuple #[]) rfl (by kernel_rfl) ⟨rfl,sl H41 [0]⟩
/- slices.partialInsertionSortOrdered[uint64] -/
def g_sPis_l2 (K29 : Int → Option ((List Int) × Bool)) (p5 : Int) (l11 : List Int) (fuel : Nat) : Nat → Int → Option ((List Int) × Bool)
  | 0, _ => none
  | n + 1, x30 => jn (fun (c35 : Bool) => br c35 (lt (wr .i64 (x30 + 1)) fun x53 => g_sPis_l2 K29 p5 l11 fuel n x53) (K29 x30)) fun K37 => lt (decide (x30 < p5)) fun c38 => br c38 (gd ((0 : Int) ≤ x30 ∧ x30 < ((List.length l11 : Nat) : Int)) <| bd (l11[Int.toNat x30]?) fun x42 => lt (wr .i64 (x30 - 1)) fun x43 => gd ((0 : Int) ≤ x43 ∧ x43 < ((List.length l11 : Nat) : Int)) <| bd (l11[Int.toNat x43]?) fun x45 => bd (g_Less fuel x42 x45) fun t46 => lt (!t46) fun c47 => K37 c47) (K37 false)
def g_sPis_l3 (fuel : Nat) (K89 : (List Int) → Option ((List Int) × Bool)) : Nat → (List Int) → Int → Option ((List Int) × Bool)
  | 0, _, _ => none
  | n + 1, l90, x91 => lt (decide (x91 ≥ 1)) fun c96 => br c96 (gd ((0 : Int) ≤ x91 ∧ x91 < ((List.length l90 : Nat) : Int)) <| bd (l90[Int.toNat x91]?) fun x98 => lt (wr .i64 (x91 - 1)) fun x99 => gd ((0 : Int) ≤ x99 ∧ x99 < ((List.length l90 : Nat) : Int)) <| bd (l90[Int.toNat x99]?) fun x101 => bd (g_Less fuel x98 x101) fun t102 => lt (!t102) fun c103 => br c103 (K89 l90) (jn (fun (l106 : List Int) => lt (wr .i64 (x91 - 1)) fun x127 => g_sPis_l3 fuel K89 n l106 x127) fun K108 => lt (wr .i64 (x91 - 1)) fun x110 => lt (wr .i64 (x91 - 1)) fun x111 => gd ((0 : Int) ≤ x111 ∧ x111 < ((List.length l90 : Nat) : Int)) <| bd (l90[Int.toNat x111]?) fun x113 => gd ((0 : Int) ≤ x91 ∧ x91 < ((List.length l90 : Nat) : Int)) <| bd (l90[Int.toNat x91]?) fun x115 => gd ((0 : Int) ≤ x91 ∧ x91 < ((List.length l90 : Nat) : Int)) <| lt (List.set l90 (Int.toNat x91) x113) fun l117 => gd ((0 : Int) ≤ x110 ∧ x110 < ((List.length l90 : Nat) : Int)) <| lt (List.set l117 (Int.toNat x110) x115) fun l121 => K108 l121)) (K89 l90)
def g_sPis_l4 (p5 : Int) (fuel : Nat) (K139 : (List Int) → Option ((List Int) × Bool)) : Nat → (List Int) → Int → Option ((List Int) × Bool)
  | 0, _, _ => none
  | n + 1, l140, x141 => lt (decide (x141 < p5)) fun c146 => br c146 (gd ((0 : Int) ≤ x141 ∧ x141 < ((List.length l140 : Nat) : Int)) <| bd (l140[Int.toNat x141]?) fun x148 => lt (wr .i64 (x141 - 1)) fun x149 => gd ((0 : Int) ≤ x149 ∧ x149 < ((List.length l140 : Nat) : Int)) <| bd (l140[Int.toNat x149]?) fun x151 => bd (g_Less fuel x148 x151) fun t152 => lt (!t152) fun c153 => br c153 (K139 l140) (jn (fun (l156 : List Int) => lt (wr .i64 (x141 + 1)) fun x177 => g_sPis_l4 p5 fuel K139 n l156 x177) fun K158 => lt (wr .i64 (x141 - 1)) fun x160 => lt (wr .i64 (x141 - 1)) fun x161 => gd ((0 : Int) ≤ x161 ∧ x161 < ((List.length l140 : Nat) : Int)) <| bd (l140[Int.toNat x161]?) fun x163 => gd ((0 : Int) ≤ x141 ∧ x141 < ((List.length l140 : Nat) : Int)) <| bd (l140[Int.toNat x141]?) fun x165 => gd ((0 : Int) ≤ x141 ∧ x141 < ((List.length l140 : Nat) : Int)) <| lt (List.set l140 (Int.toNat x141) x163) fun l167 => gd ((0 : Int) ≤ x160 ∧ x160 < ((List.length l140 : Nat) : Int)) <| lt (List.set l167 (Int.toNat x160) x165) fun l171 => K158 l171)) (K139 l140)
def g_sPis_l1 (p5 : Int) (p4 : Int) (fuel : Nat) (K10 : (List Int) → Option ((List Int) × Bool)) : Nat → (List Int) → Int → Int → Option ((List Int) × Bool)
  | 0, _, _, _ => none
  | n + 1, l11, x12, x13 => lt (decide (x13 < 5)) fun c18 => br c18 (jn (fun (l19 : List Int) (x20 : Int) => lt (wr .i64 (x13 + 1)) fun x187 => g_sPis_l1 p5 p4 fuel K10 n l19 x20 x187) fun K22 => jn (fun (l23 : List Int) (x24 : Int) => K22 l23 x24) fun K26 => jn (fun (x27 : Int) => lt (x27 == p5) fun c57 => br c57 (some (l11, true)) (lt (wr .i64 (p5 - p4)) fun x58 => lt (decide (x58 < 50)) fun c59 => br c59 (some (l11, false)) (jn (fun (l60 : List Int) => jn (fun (l81 : List Int) => lt (wr .i64 (p5 - x27)) fun x134 => lt (decide (x134 ≥ 2)) fun c135 => br c135 (lt (wr .i64 (x27 + 1)) fun x136 => jn (fun (l137 : List Int) => K26 l137 x27) fun K139 => g_sPis_l4 p5 fuel K139 fuel l81 x136) (K26 l81 x27)) fun K83 => lt (wr .i64 (x27 - p4)) fun x84 => lt (decide (x84 ≥ 2)) fun c85 => br c85 (lt (wr .i64 (x27 - 1)) fun x86 => jn (fun (l87 : List Int) => K83 l87) fun K89 => g_sPis_l3 fuel K89 fuel l60 x86) (K83 l60)) fun K62 => lt (wr .i64 (x27 - 1)) fun x64 => lt (wr .i64 (x27 - 1)) fun x65 => gd ((0 : Int) ≤ x65 ∧ x65 < ((List.length l11 : Nat) : Int)) <| bd (l11[Int.toNat x65]?) fun x67 => gd ((0 : Int) ≤ x27 ∧ x27 < ((List.length l11 : Nat) : Int)) <| bd (l11[Int.toNat x27]?) fun x69 => gd ((0 : Int) ≤ x27 ∧ x27 < ((List.length l11 : Nat) : Int)) <| lt (List.set l11 (Int.toNat x27) x67) fun l71 => gd ((0 : Int) ≤ x64 ∧ x64 < ((List.length l11 : Nat) : Int)) <| lt (List.set l71 (Int.toNat x64) x69) fun l75 => K62 l75))) fun K29 => g_sPis_l2 K29 p5 l11 fuel fuel x12) (K10 l11)
def g_sPis (fuel : Nat) (l2 : List Int) (p4 : Int) (p5 : Int) : Option ((List Int) × Bool) :=
  lt (wr .i64 (p4 + 1)) fun x7 => jn (fun (l8 : List Int) => some (l8, false)) fun K10 => g_sPis_l1 p5 p4 fuel K10 fuel l2 x7 0
theorem g_sPis_w (fuel : Nat) (s1 : Value) (l2 : List Int) (p4 : Int) (p5 : Int) (r : (List Int) × Bool) (h : g_sPis fuel l2 p4 p5 = some r) (w0 : World) (hm : (Own fU64 22 s1 l2).holds w0) :
 Ret Tryz.prog 95 #[s1, vi p4, vi p5] w0 (fun v w' => v = vb r.2 ∧ St (Own fU64 22 s1 l2).fp w0 w' [Own fU64 22 s1 r.1]) := by
 unfold g_sPis at h
 refine ret_of_wpS Tryz.func95 rfl 133 rfl [(0,s1),(1,vi p4),(2,vi p5)] (by kernel_rfl) (fun G=>?_)
 have H0:=St.start1 hm
 refine zsg ?_
 refine zrd 1 1 [(6,vb false)] ?_
 refine zsg ?_
 obtain ⟨x7,e,h⟩:=ls h
 refine zed 3 3 [(7,vi x7),(12,vi x7),(11,vi p4)] ?_
 refine zs ?_
 refine zsg ?_
 refine zrd 1 1 [(8,vi 0)] ?_
 obtain ⟨K10,hK10,h⟩:=js h
 refine WP.blockJ (fun a w=>∃ (l8 : List Int),Y 133 [] [] (Own fU64 22 s1 l2).fp w0 [Own fU64 22 s1 l8] (K10 l8 = some r) a w) ?_ ?_
 ·refine WP.loop (fun n a w=>∃ (l11 : List Int) (x12 : Int) (x13 : Int),Y 133 [(0,s1),(1,vi p4),(2,vi p5),(7,vi x12),(8,vi x13)] [] (Own fU64 22 s1 l2).fp w0 [Own fU64 22 s1 l11] (g_sPis_l1 p5 p4 fuel K10 n l11 x12 x13 = some r) a w) fuel ⟨l2,x7,0,yy H0 [0] h⟩ ?_
  rintro n a w15 ⟨l11,x12,x13,G14,rfl,H16,h⟩
  obtain _ | n:=n
  ·rw [g_sPis_l1] at h; cases h
  rw [g_sPis_l1] at h
  refine zs ?_
  refine zsg ?_
  obtain ⟨c18,e,h⟩:=ls h
  refine zed 2 2 [(14,vb c18),(13,vi x13)] ?_
  cases c18
  ·replace h:=bf h
   refine zF ?_
   refine WP.exit ?_
   exact then_e (then_e (inb_e (then_n ⟨l11,yy H16 [0] h⟩)))
  replace h:=bt h
  refine zTn ?_
  obtain ⟨K22,hK22,h⟩:=js h
  refine WP.seqJ (fun a w=>∃ (l19 : List Int) (x20 : Int),Y 133 [(0,s1),(1,vi p4),(2,vi p5),(7,vi x20),(8,vi x13)] [] (Own fU64 22 s1 l2).fp w0 [Own fU64 22 s1 l19] (K22 l19 x20 = some r) a w) ?_ ?_
  ·obtain ⟨K26,hK26,h⟩:=js h
   refine WP.blockJ (fun a w=>∃ (l23 : List Int) (x24 : Int),Y 133 [(0,s1),(1,vi p4),(2,vi p5),(7,vi x24),(8,vi x13)] [] (Own fU64 22 s1 l2).fp w0 [Own fU64 22 s1 l23] (K26 l23 x24 = some r) a w) ?_ ?_
   ·refine zs ?_
    obtain ⟨K29,hK29,h⟩:=js h
    refine WP.blockJ (fun a w=>∃ (x27 : Int),Y 133 [(0,s1),(1,vi p4),(2,vi p5),(7,vi x27),(8,vi x13)] [] (Own fU64 22 s1 l2).fp w0 [Own fU64 22 s1 l11] (K29 x27 = some r) a w) ?_ ?_
    ·refine WP.loop (fun n a w=>∃ (x30 : Int),Y 133 [(0,s1),(1,vi p4),(2,vi p5),(7,vi x30),(8,vi x13)] [] (Own fU64 22 s1 l2).fp w0 [Own fU64 22 s1 l11] (g_sPis_l2 K29 p5 l11 fuel n x30 = some r) a w) fuel ⟨x12,yy H16 [0] h⟩ ?_
     rintro n a w32 ⟨x30,G31,rfl,H33,h⟩
     obtain _ | n:=n
     ·rw [g_sPis_l2] at h; cases h
     rw [g_sPis_l2] at h
     have sf34:=Own.isSl (St.get H33 0 rfl)
     refine zs ?_
     refine zs ?_
     obtain ⟨K37,hK37,h⟩:=js h
     refine WP.onlyN (fun a w=>∃ (c35 : Bool),Y 133 [(0,s1),(1,vi p4),(2,vi p5),(7,vi x30),(8,vi x13),(32,vb c35)] [] (Own fU64 22 s1 l2).fp w0 [Own fU64 22 s1 l11] (K37 c35 = some r) a w) ?_ ?_
     ·refine WP.quiet (by kernel_rfl) (by kernel_rfl) (by kernel_rfl) (fun w=>St (Own fU64 22 s1 l2).fp w0 w [Own fU64 22 s1 l11]) (St.drew H33) ?_
      obtain ⟨c38,e,h⟩:=ls h
      refine qe 4 4 [(20,vb c38),(19,vb c38),(18,vi p5),(17,vi x30)] ?_
      cases c38
      ·replace h:=bf h
       refine qr 12 16 [(32,vb false),(31,Z),(30,Z),(29,Z),(28,Z),(27,Z),(26,Z),(25,Z),(24,Z),(23,Z),(22,Z),(21,Z)] ?_
       refine qd fun w39 H40=>?_
       exact ⟨false,yy H40 [0] h⟩
      replace h:=bt h
      obtain ⟨hg41,h⟩:=gs h
      refine qr 2 6 [(22,vi x30),(21,s1)] ?_
      refine qv (va (slAt s1 1 (Int.toNat x30))) (fun w H=>lli sf34 22 1 8 .i64 x30 hg41) ?_
      obtain ⟨x42,hx42,h⟩:=bs h
      refine qv (vu x42) (fun w H=>lle fU64 (St.rd H 0 rfl) (hp_no_le _) hx42 0) ?_
      obtain ⟨x43,e,h⟩:=ls h
      obtain ⟨hg44,h⟩:=gs h
      refine qe 3 11 [(27,vi x43),(26,vi x30),(25,s1)] ?_
      refine qv (va (slAt s1 1 (Int.toNat x43))) (fun w H=>lli sf34 22 1 8 .i64 x43 hg44) ?_
      obtain ⟨x45,hx45,h⟩:=bs h
      refine qv (vu x45) (fun w H=>lle fU64 (St.rd H 0 rfl) (hp_no_le _) hx45 0) ?_
      obtain ⟨t46,ht46,h⟩:=bs h
      refine qc (vb t46) (fun w H=>Ret.mono (g_Less_w fuel x42 x45 t46 ht46 _) fun u w1 hu=>⟨hu.1,St.call0' H hu.2⟩) ?_
      obtain ⟨c47,e,h⟩:=ls h
      refine qe 2 16 [(32,vb c47),(31,vb c47)] ?_
      refine qd fun w48 H49=>?_
      exact ⟨c47,yy H49 [0] h⟩
     rintro a w50 ⟨c35,G36,rfl,H51,h⟩
     subst hK37
     refine then_n ?_
     cases c35
     ·replace h:=bf h
      refine zF ?_
      refine WP.exit ?_
      exact then_e (then_e (inb_e (then_n ⟨x30,yy H51 [0] h⟩)))
     replace h:=bt h
     refine zTn ?_
     refine WP.block ?_
     refine zg ?_
     obtain ⟨x53,e,h⟩:=ls h
     refine ze 3 3 [(7,vi x53),(34,vi x53),(33,vi x30)] ?_
     refine zd ?_
     exact inb_n (then_n ⟨n,lS n,x53,yy H51 [0] h⟩)
    rintro a w54 ⟨x27,G28,rfl,H55,h⟩
    subst hK29
    have sf56:=Own.isSl (St.get H55 0 rfl)
    refine then_n ?_
    refine zs ?_
    refine zsg ?_
    obtain ⟨c57,e,h⟩:=ls h
    refine zed 3 3 [(37,vb c57),(36,vi p5),(35,vi x27)] ?_
    cases c57
    rotate_left
    ·replace h:=bt h
     refine zT ?_
     refine zsg ?_
     refine zrd 1 1 [(6,vb true)] ?_
     refine WP.ret ?_
     obtain rfl:=oi h
     exact then_r (inb_r (then_r (then_r (then_r (inb_r (then_r (then_r (post_r (vb true) rfl (by kernel_rfl) ⟨rfl,sl H55 [0]⟩))))))))
    replace h:=bf h
    refine zFn ?_
    refine zs ?_
    refine zsg ?_
    obtain ⟨x58,hx58,h⟩:=ls h
    obtain ⟨c59,hc59,h⟩:=ls h
    refine zr 4 4 [(41,vb c59),(40,vi x58),(39,vi p4),(38,vi p5)] ?_ rfl (fun K=>by subst hc59 hx58; kernel_rfl)
    refine zdn ?_
    cases c59
    rotate_left
    ·replace h:=bt h
     refine zT ?_
     refine zsg ?_
     refine zrd 1 1 [(6,vb false)] ?_
     refine WP.ret ?_
     obtain rfl:=oi h
     exact then_r (inb_r (then_r (then_r (then_r (inb_r (then_r (then_r (post_r (vb false) rfl (by kernel_rfl) ⟨rfl,sl H55 [0]⟩))))))))
    replace h:=bf h
    refine zFn ?_
    refine zs ?_
    obtain ⟨K62,hK62,h⟩:=js h
    refine WP.drawI (by kernel_rfl) (by kernel_rfl) (fun w=>St (Own fU64 22 s1 l2).fp w0 w []) [15,17] (fun w=>St (Own fU64 22 s1 l2).fp w0 w [Own fU64 22 s1 l11]) (fun a w=>∃ (l60 : List Int),Y 133 [(0,s1),(1,vi p4),(2,vi p5),(7,vi x27),(8,vi x13)] [] (Own fU64 22 s1 l2).fp w0 [Own fU64 22 s1 l60] (K62 l60 = some r) a w) 18 #[F,F,F,F,F,F,F,F,F,F,F,F,F,F,F,F,F,F] (by kernel_rfl) (by kernel_rfl) ?_ ?_
    ·have H63:=St.drew H55
     obtain ⟨x64,hx64,h⟩:=ls h
     obtain ⟨x65,hx65,h⟩:=ls h
     obtain ⟨hg66,h⟩:=gs h
     refine WI.runS [0,1,2,3,4,5,6,7] 10 _ #[T,T,T,T,T,T,T,T,F,F,F,F,F,F,F,F,F,F] [(49,vi x65),(48,vi x27),(47,s1),(46,vi x64),(45,vi x27),(44,s1),(43,vi x27),(42,s1)] rfl (fun K=>by subst hx65 hx64; kernel_rfl) ?_
     refine WI.takeS 8 (va (slAt s1 1 (Int.toNat x65))) 50 rfl rfl (by kernel_rfl) (by kernel_rfl) (fun w H=>ev_index sf56 41 (.tmp 47) (.tmp 49) 22 1 8 .i64 x65 rfl (by kernel_rfl) (by kernel_rfl) (by kernel_rfl) hg66) (li':=#[T,T,T,T,T,T,T,T,T,F,F,F,F,F,F,F,F,F]) (by kernel_rfl) ?_
     obtain ⟨x67,hx67,h⟩:=bs h
     refine WI.takeT 9 (vu x67) 51 rfl rfl (by kernel_rfl) (by kernel_rfl) (by kernel_rfl) (fun w H=>ev_loadEl (F:=fU64) (St.rd H 0 rfl) (hp_no_le _) hx67 22 (.tmp 50) 0 (vu x67) rfl (by kernel_rfl) (by kernel_rfl)) (li':=#[T,T,T,T,T,T,T,T,T,T,F,F,F,F,F,F,F,F]) (by kernel_rfl) ?_
     obtain ⟨hg68,h⟩:=gs h
     refine WI.runS [10,11] 6 _ #[T,T,T,T,T,T,T,T,T,T,T,T,F,F,F,F,F,F] [(53,vi x27),(52,s1)] rfl (fun K=>by kernel_rfl) ?_
     refine WI.takeS 12 (va (slAt s1 1 (Int.toNat x27))) 54 rfl rfl (by kernel_rfl) (by kernel_rfl) (fun w H=>ev_index sf56 41 (.tmp 52) (.tmp 53) 22 1 8 .i64 x27 rfl (by kernel_rfl) (by kernel_rfl) (by kernel_rfl) hg68) (li':=#[T,T,T,T,T,T,T,T,T,T,T,T,T,F,F,F,F,F]) (by kernel_rfl) ?_
     obtain ⟨x69,hx69,h⟩:=bs h
     refine WI.takeT 13 (vu x69) 55 rfl rfl (by kernel_rfl) (by kernel_rfl) (by kernel_rfl) (fun w H=>ev_loadEl (F:=fU64) (St.rd H 0 rfl) (hp_no_le _) hx69 22 (.tmp 54) 0 (vu x69) rfl (by kernel_rfl) (by kernel_rfl)) (li':=#[T,T,T,T,T,T,T,T,T,T,T,T,T,T,F,F,F,F]) (by kernel_rfl) ?_
     obtain ⟨hg70,h⟩:=gs h
     refine WI.takeS 14 (va (slAt s1 1 (Int.toNat x27))) 56 rfl rfl (by kernel_rfl) (by kernel_rfl) (fun w H=>ev_index sf56 41 (.tmp 42) (.tmp 43) 22 1 8 .i64 x27 rfl (by kernel_rfl) (by kernel_rfl) (by kernel_rfl) hg70) (li':=#[T,T,T,T,T,T,T,T,T,T,T,T,T,T,T,F,F,F]) (by kernel_rfl) ?_
     obtain ⟨l71,hl71,h⟩:=ls h
     refine WI.one 15 (by kernel_rfl) (nod (sl H63 []) (sl H63 [0])) rfl (Op1.storeOwn H63 0 rfl (by kernel_rfl) 22 (.tmp 56) (.tmp 51) (Int.toNat x27) x67 false rfl (by kernel_rfl) (by kernel_rfl) (by kernel_rfl) (idx_lt hg70) (fun w72 H73=>?_))
     rw [← hl71] at H73
     clear H63
     refine WI.nS0 #[T,T,T,T,T,T,T,T,T,T,T,T,T,T,T,T,F,F] (by kernel_rfl) rfl ?_
     obtain ⟨hg74,h⟩:=gs h
     refine WI.takeS 16 (va (slAt s1 1 (Int.toNat x64))) 57 rfl rfl (by kernel_rfl) (by kernel_rfl) (fun w H=>ev_index sf56 41 (.tmp 44) (.tmp 46) 22 1 8 .i64 x64 rfl (by kernel_rfl) (by kernel_rfl) (by kernel_rfl) hg74) (li':=#[T,T,T,T,T,T,T,T,T,T,T,T,T,T,T,T,T,F]) (by kernel_rfl) ?_
     obtain ⟨l75,hl75,h⟩:=ls h
     refine WI.one 17 (by kernel_rfl) (nod0 (sl H73 []) 15 (by decide) (by kernel_rfl)) rfl (Op1.storeOwn H73 0 rfl (by kernel_rfl) 22 (.tmp 57) (.tmp 55) (Int.toNat x64) x69 false rfl (by kernel_rfl) (by kernel_rfl) (by kernel_rfl) (by simp only [hl71,List.length_set]; exact idx_lt hg74) (fun w76 H77=>?_))
     rw [← hl75] at H77
     clear H73
     refine WI.nS0 #[T,T,T,T,T,T,T,T,T,T,T,T,T,T,T,T,T,T] (by kernel_rfl) rfl ?_
     refine WI.done (by kernel_rfl) (nod0 (sl H77 []) 15 (by decide) (by kernel_rfl)) ?_
     exact ⟨l75,yy H77 [0] h⟩
    rintro a w78 ⟨l60,G61,rfl,H79,h⟩
    subst hK62
    refine then_n ?_
    obtain ⟨K83,hK83,h⟩:=js h
    refine WP.seqJ (fun a w=>∃ (l81 : List Int),Y 133 [(0,s1),(1,vi p4),(2,vi p5),(7,vi x27),(8,vi x13)] [] (Own fU64 22 s1 l2).fp w0 [Own fU64 22 s1 l81] (K83 l81 = some r) a w) ?_ ?_
    ·refine zsg ?_
     obtain ⟨x84,hx84,h⟩:=ls h
     obtain ⟨c85,hc85,h⟩:=ls h
     refine zr 4 4 [(61,vb c85),(60,vi x84),(59,vi p4),(58,vi x27)] ?_ rfl (fun K=>by subst hc85 hx84; kernel_rfl)
     refine zdn ?_
     cases c85
     ·replace h:=bf h
      refine zF ?_
      refine WP.skip ?_
      exact then_n ⟨l60,yy H79 [0] h⟩
     replace h:=bt h
     refine zT ?_
     refine zsg ?_
     obtain ⟨x86,e,h⟩:=ls h
     refine zed 3 3 [(9,vi x86),(63,vi x86),(62,vi x27)] ?_
     obtain ⟨K89,hK89,h⟩:=js h
     refine WP.blockJ (fun a w=>∃ (l87 : List Int),Y 133 [(0,s1),(1,vi p4),(2,vi p5),(7,vi x27),(8,vi x13)] [] (Own fU64 22 s1 l2).fp w0 [Own fU64 22 s1 l87] (K89 l87 = some r) a w) ?_ ?_
     ·refine WP.loop (fun n a w=>∃ (l90 : List Int) (x91 : Int),Y 133 [(0,s1),(1,vi p4),(2,vi p5),(7,vi x27),(8,vi x13),(9,vi x91)] [] (Own fU64 22 s1 l2).fp w0 [Own fU64 22 s1 l90] (g_sPis_l3 fuel K89 n l90 x91 = some r) a w) fuel ⟨l60,x86,yy H79 [0] h⟩ ?_
      rintro n a w93 ⟨l90,x91,G92,rfl,H94,h⟩
      obtain _ | n:=n
      ·rw [g_sPis_l3] at h; cases h
      rw [g_sPis_l3] at h
      have sf95:=Own.isSl (St.get H94 0 rfl)
      refine zs ?_
      refine zsg ?_
      obtain ⟨c96,e,h⟩:=ls h
      refine zed 2 2 [(65,vb c96),(64,vi x91)] ?_
      cases c96
      ·replace h:=bf h
       refine zF ?_
       refine WP.exit ?_
       exact then_e (then_e (inb_e (then_n ⟨l90,yy H94 [0] h⟩)))
      replace h:=bt h
      refine zTn ?_
      refine zs ?_
      refine WP.block ?_
      refine zs ?_
      refine zs ?_
      refine WP.quiet (by kernel_rfl) (by kernel_rfl) (by kernel_rfl) (fun w=>St (Own fU64 22 s1 l2).fp w0 w [Own fU64 22 s1 l90]) (St.drew H94) ?_
      obtain ⟨hg97,h⟩:=gs h
      refine qr 2 2 [(69,vi x91),(68,s1)] ?_
      refine qv (va (slAt s1 1 (Int.toNat x91))) (fun w H=>lli sf95 22 1 8 .i64 x91 hg97) ?_
      obtain ⟨x98,hx98,h⟩:=bs h
      refine qv (vu x98) (fun w H=>lle fU64 (St.rd H 0 rfl) (hp_no_le _) hx98 0) ?_
      obtain ⟨x99,e,h⟩:=ls h
      obtain ⟨hg100,h⟩:=gs h
      refine qe 3 7 [(74,vi x99),(73,vi x91),(72,s1)] ?_
      refine qv (va (slAt s1 1 (Int.toNat x99))) (fun w H=>lli sf95 22 1 8 .i64 x99 hg100) ?_
      obtain ⟨x101,hx101,h⟩:=bs h
      refine qv (vu x101) (fun w H=>lle fU64 (St.rd H 0 rfl) (hp_no_le _) hx101 0) ?_
      obtain ⟨t102,ht102,h⟩:=bs h
      refine qc (vb t102) (fun w H=>Ret.mono (g_Less_w fuel x98 x101 t102 ht102 _) fun u w1 hu=>⟨hu.1,St.call0' H hu.2⟩) ?_
      obtain ⟨c103,e,h⟩:=ls h
      refine qe 1 11 [(78,vb c103)] ?_
      refine qd fun w104 H105=>?_
      refine then_n ?_
      cases c103
      rotate_left
      ·replace h:=bt h
       refine zT ?_
       refine WP.exit ?_
       exact then_e (inb_x (by decide) (then_e (then_e (inb_e (then_n ⟨l90,yy H105 [0] h⟩)))))
      replace h:=bf h
      refine zFn ?_
      obtain ⟨K108,hK108,h⟩:=js h
      refine WP.drawI (by kernel_rfl) (by kernel_rfl) (fun w=>St (Own fU64 22 s1 l2).fp w0 w []) [15,17] (fun w=>St (Own fU64 22 s1 l2).fp w0 w [Own fU64 22 s1 l90]) (fun a w=>∃ (l106 : List Int),Y 133 [(0,s1),(1,vi p4),(2,vi p5),(7,vi x27),(8,vi x13),(9,vi x91)] [] (Own fU64 22 s1 l2).fp w0 [Own fU64 22 s1 l106] (K108 l106 = some r) a w) 18 #[F,F,F,F,F,F,F,F,F,F,F,F,F,F,F,F,F,F] (by kernel_rfl) (by kernel_rfl) ?_ ?_
      ·have H109:=St.drew H105
       obtain ⟨x110,hx110,h⟩:=ls h
       obtain ⟨x111,hx111,h⟩:=ls h
       obtain ⟨hg112,h⟩:=gs h
       refine WI.runS [0,1,2,3,4,5,6,7] 10 _ #[T,T,T,T,T,T,T,T,F,F,F,F,F,F,F,F,F,F] [(86,vi x111),(85,vi x91),(84,s1),(83,vi x110),(82,vi x91),(81,s1),(80,vi x91),(79,s1)] rfl (fun K=>by subst hx111 hx110; kernel_rfl) ?_
       refine WI.takeS 8 (va (slAt s1 1 (Int.toNat x111))) 87 rfl rfl (by kernel_rfl) (by kernel_rfl) (fun w H=>ev_index sf95 41 (.tmp 84) (.tmp 86) 22 1 8 .i64 x111 rfl (by kernel_rfl) (by kernel_rfl) (by kernel_rfl) hg112) (li':=#[T,T,T,T,T,T,T,T,T,F,F,F,F,F,F,F,F,F]) (by kernel_rfl) ?_
       obtain ⟨x113,hx113,h⟩:=bs h
       refine WI.takeT 9 (vu x113) 88 rfl rfl (by kernel_rfl) (by kernel_rfl) (by kernel_rfl) (fun w H=>ev_loadEl (F:=fU64) (St.rd H 0 rfl) (hp_no_le _) hx113 22 (.tmp 87) 0 (vu x113) rfl (by kernel_rfl) (by kernel_rfl)) (li':=#[T,T,T,T,T,T,T,T,T,T,F,F,F,F,F,F,F,F]) (by kernel_rfl) ?_
       obtain ⟨hg114,h⟩:=gs h
       refine WI.runS [10,11] 6 _ #[T,T,T,T,T,T,T,T,T,T,T,T,F,F,F,F,F,F] [(90,vi x91),(89,s1)] rfl (fun K=>by kernel_rfl) ?_
       refine WI.takeS 12 (va (slAt s1 1 (Int.toNat x91))) 91 rfl rfl (by kernel_rfl) (by kernel_rfl) (fun w H=>ev_index sf95 41 (.tmp 89) (.tmp 90) 22 1 8 .i64 x91 rfl (by kernel_rfl) (by kernel_rfl) (by kernel_rfl) hg114) (li':=#[T,T,T,T,T,T,T,T,T,T,T,T,T,F,F,F,F,F]) (by kernel_rfl) ?_
       obtain ⟨x115,hx115,h⟩:=bs h
       refine WI.takeT 13 (vu x115) 92 rfl rfl (by kernel_rfl) (by kernel_rfl) (by kernel_rfl) (fun w H=>ev_loadEl (F:=fU64) (St.rd H 0 rfl) (hp_no_le _) hx115 22 (.tmp 91) 0 (vu x115) rfl (by kernel_rfl) (by kernel_rfl)) (li':=#[T,T,T,T,T,T,T,T,T,T,T,T,T,T,F,F,F,F]) (by kernel_rfl) ?_
       obtain ⟨hg116,h⟩:=gs h
       refine WI.takeS 14 (va (slAt s1 1 (Int.toNat x91))) 93 rfl rfl (by kernel_rfl) (by kernel_rfl) (fun w H=>ev_index sf95 41 (.tmp 79) (.tmp 80) 22 1 8 .i64 x91 rfl (by kernel_rfl) (by kernel_rfl) (by kernel_rfl) hg116) (li':=#[T,T,T,T,T,T,T,T,T,T,T,T,T,T,T,F,F,F]) (by kernel_rfl) ?_
       obtain ⟨l117,hl117,h⟩:=ls h
       refine WI.one 15 (by kernel_rfl) (nod (sl H109 []) (sl H109 [0])) rfl (Op1.storeOwn H109 0 rfl (by kernel_rfl) 22 (.tmp 93) (.tmp 88) (Int.toNat x91) x113 false rfl (by kernel_rfl) (by kernel_rfl) (by kernel_rfl) (idx_lt hg116) (fun w118 H119=>?_))
       rw [← hl117] at H119
       clear H109
       refine WI.nS0 #[T,T,T,T,T,T,T,T,T,T,T,T,T,T,T,T,F,F] (by kernel_rfl) rfl ?_
       obtain ⟨hg120,h⟩:=gs h
       refine WI.takeS 16 (va (slAt s1 1 (Int.toNat x110))) 94 rfl rfl (by kernel_rfl) (by kernel_rfl) (fun w H=>ev_index sf95 41 (.tmp 81) (.tmp 83) 22 1 8 .i64 x110 rfl (by kernel_rfl) (by kernel_rfl) (by kernel_rfl) hg120) (li':=#[T,T,T,T,T,T,T,T,T,T,T,T,T,T,T,T,T,F]) (by kernel_rfl) ?_
       obtain ⟨l121,hl121,h⟩:=ls h
       refine WI.one 17 (by kernel_rfl) (nod0 (sl H119 []) 15 (by decide) (by kernel_rfl)) rfl (Op1.storeOwn H119 0 rfl (by kernel_rfl) 22 (.tmp 94) (.tmp 92) (Int.toNat x110) x115 false rfl (by kernel_rfl) (by kernel_rfl) (by kernel_rfl) (by simp only [hl117,List.length_set]; exact idx_lt hg120) (fun w122 H123=>?_))
       rw [← hl121] at H123
       clear H119
       refine WI.nS0 #[T,T,T,T,T,T,T,T,T,T,T,T,T,T,T,T,T,T] (by kernel_rfl) rfl ?_
       refine WI.done (by kernel_rfl) (nod0 (sl H123 []) 15 (by decide) (by kernel_rfl)) ?_
       exact ⟨l121,yy H123 [0] h⟩
      rintro a w124 ⟨l106,G107,rfl,H125,h⟩
      subst hK108
      refine inb_n (then_n ?_)
      refine zg ?_
      obtain ⟨x127,e,h⟩:=ls h
      refine ze 3 3 [(9,vi x127),(67,vi x127),(66,vi x91)] ?_
      refine zd ?_
      exact then_n ⟨n,lS n,l106,x127,yy H125 [0] h⟩
     rintro a w128 ⟨l87,G88,rfl,H129,h⟩
     subst hK89
     exact then_n ⟨l87,yy H129 [0] h⟩
    rintro a w131 ⟨l81,G82,rfl,H132,h⟩
    subst hK83
    refine zsg ?_
    obtain ⟨x134,hx134,h⟩:=ls h
    obtain ⟨c135,hc135,h⟩:=ls h
    refine zr 4 4 [(98,vb c135),(97,vi x134),(96,vi x27),(95,vi p5)] ?_ rfl (fun K=>by subst hc135 hx134; kernel_rfl)
    refine zdn ?_
    cases c135
    ·replace h:=bf h
     refine zF ?_
     refine WP.skip ?_
     exact inb_n (then_n ⟨l81,x27,yy H132 [0] h⟩)
    replace h:=bt h
    refine zT ?_
    refine zsg ?_
    obtain ⟨x136,e,h⟩:=ls h
    refine zed 3 3 [(10,vi x136),(100,vi x136),(99,vi x27)] ?_
    obtain ⟨K139,hK139,h⟩:=js h
    refine WP.blockJ (fun a w=>∃ (l137 : List Int),Y 133 [(0,s1),(1,vi p4),(2,vi p5),(7,vi x27),(8,vi x13)] [] (Own fU64 22 s1 l2).fp w0 [Own fU64 22 s1 l137] (K139 l137 = some r) a w) ?_ ?_
    ·refine WP.loop (fun n a w=>∃ (l140 : List Int) (x141 : Int),Y 133 [(0,s1),(1,vi p4),(2,vi p5),(7,vi x27),(8,vi x13),(10,vi x141)] [] (Own fU64 22 s1 l2).fp w0 [Own fU64 22 s1 l140] (g_sPis_l4 p5 fuel K139 n l140 x141 = some r) a w) fuel ⟨l81,x136,yy H132 [0] h⟩ ?_
     rintro n a w143 ⟨l140,x141,G142,rfl,H144,h⟩
     obtain _ | n:=n
     ·rw [g_sPis_l4] at h; cases h
     rw [g_sPis_l4] at h
     have sf145:=Own.isSl (St.get H144 0 rfl)
     refine zs ?_
     refine zsg ?_
     obtain ⟨c146,e,h⟩:=ls h
     refine zed 3 3 [(103,vb c146),(102,vi p5),(101,vi x141)] ?_
     cases c146
     ·replace h:=bf h
      refine zF ?_
      refine WP.exit ?_
      exact then_e (then_e (inb_e (then_n ⟨l140,yy H144 [0] h⟩)))
     replace h:=bt h
     refine zTn ?_
     refine zs ?_
     refine WP.block ?_
     refine zs ?_
     refine zs ?_
     refine WP.quiet (by kernel_rfl) (by kernel_rfl) (by kernel_rfl) (fun w=>St (Own fU64 22 s1 l2).fp w0 w [Own fU64 22 s1 l140]) (St.drew H144) ?_
     obtain ⟨hg147,h⟩:=gs h
     refine qr 2 2 [(107,vi x141),(106,s1)] ?_
     refine qv (va (slAt s1 1 (Int.toNat x141))) (fun w H=>lli sf145 22 1 8 .i64 x141 hg147) ?_
     obtain ⟨x148,hx148,h⟩:=bs h
     refine qv (vu x148) (fun w H=>lle fU64 (St.rd H 0 rfl) (hp_no_le _) hx148 0) ?_
     obtain ⟨x149,e,h⟩:=ls h
     obtain ⟨hg150,h⟩:=gs h
     refine qe 3 7 [(112,vi x149),(111,vi x141),(110,s1)] ?_
     refine qv (va (slAt s1 1 (Int.toNat x149))) (fun w H=>lli sf145 22 1 8 .i64 x149 hg150) ?_
     obtain ⟨x151,hx151,h⟩:=bs h
     refine qv (vu x151) (fun w H=>lle fU64 (St.rd H 0 rfl) (hp_no_le _) hx151 0) ?_
     obtain ⟨t152,ht152,h⟩:=bs h
     refine qc (vb t152) (fun w H=>Ret.mono (g_Less_w fuel x148 x151 t152 ht152 _) fun u w1 hu=>⟨hu.1,St.call0' H hu.2⟩) ?_
     obtain ⟨c153,e,h⟩:=ls h
     refine qe 1 11 [(116,vb c153)] ?_
     refine qd fun w154 H155=>?_
     refine then_n ?_
     cases c153
     rotate_left
     ·replace h:=bt h
      refine zT ?_
      refine WP.exit ?_
      exact then_e (inb_x (by decide) (then_e (then_e (inb_e (then_n ⟨l140,yy H155 [0] h⟩)))))
     replace h:=bf h
     refine zFn ?_
     obtain ⟨K158,hK158,h⟩:=js h
     refine WP.drawI (by kernel_rfl) (by kernel_rfl) (fun w=>St (Own fU64 22 s1 l2).fp w0 w []) [15,17] (fun w=>St (Own fU64 22 s1 l2).fp w0 w [Own fU64 22 s1 l140]) (fun a w=>∃ (l156 : List Int),Y 133 [(0,s1),(1,vi p4),(2,vi p5),(7,vi x27),(8,vi x13),(10,vi x141)] [] (Own fU64 22 s1 l2).fp w0 [Own fU64 22 s1 l156] (K158 l156 = some r) a w) 18 #[F,F,F,F,F,F,F,F,F,F,F,F,F,F,F,F,F,F] (by kernel_rfl) (by kernel_rfl) ?_ ?_
     ·have H159:=St.drew H155
      obtain ⟨x160,hx160,h⟩:=ls h
      obtain ⟨x161,hx161,h⟩:=ls h
      obtain ⟨hg162,h⟩:=gs h
      refine WI.runS [0,1,2,3,4,5,6,7] 10 _ #[T,T,T,T,T,T,T,T,F,F,F,F,F,F,F,F,F,F] [(124,vi x161),(123,vi x141),(122,s1),(121,vi x160),(120,vi x141),(119,s1),(118,vi x141),(117,s1)] rfl (fun K=>by subst hx161 hx160; kernel_rfl) ?_
      refine WI.takeS 8 (va (slAt s1 1 (Int.toNat x161))) 125 rfl rfl (by kernel_rfl) (by kernel_rfl) (fun w H=>ev_index sf145 41 (.tmp 122) (.tmp 124) 22 1 8 .i64 x161 rfl (by kernel_rfl) (by kernel_rfl) (by kernel_rfl) hg162) (li':=#[T,T,T,T,T,T,T,T,T,F,F,F,F,F,F,F,F,F]) (by kernel_rfl) ?_
      obtain ⟨x163,hx163,h⟩:=bs h
      refine WI.takeT 9 (vu x163) 126 rfl rfl (by kernel_rfl) (by kernel_rfl) (by kernel_rfl) (fun w H=>ev_loadEl (F:=fU64) (St.rd H 0 rfl) (hp_no_le _) hx163 22 (.tmp 125) 0 (vu x163) rfl (by kernel_rfl) (by kernel_rfl)) (li':=#[T,T,T,T,T,T,T,T,T,T,F,F,F,F,F,F,F,F]) (by kernel_rfl) ?_
      obtain ⟨hg164,h⟩:=gs h
      refine WI.runS [10,11] 6 _ #[T,T,T,T,T,T,T,T,T,T,T,T,F,F,F,F,F,F] [(128,vi x141),(127,s1)] rfl (fun K=>by kernel_rfl) ?_
      refine WI.takeS 12 (va (slAt s1 1 (Int.toNat x141))) 129 rfl rfl (by kernel_rfl) (by kernel_rfl) (fun w H=>ev_index sf145 41 (.tmp 127) (.tmp 128) 22 1 8 .i64 x141 rfl (by kernel_rfl) (by kernel_rfl) (by kernel_rfl) hg164) (li':=#[T,T,T,T,T,T,T,T,T,T,T,T,T,F,F,F,F,F]) (by kernel_rfl) ?_
      obtain ⟨x165,hx165,h⟩:=bs h
      refine WI.takeT 13 (vu x165) 130 rfl rfl (by kernel_rfl) (by kernel_rfl) (by kernel_rfl) (fun w H=>ev_loadEl (F:=fU64) (St.rd H 0 rfl) (hp_no_le _) hx165 22 (.tmp 129) 0 (vu x165) rfl (by kernel_rfl) (by kernel_rfl)) (li':=#[T,T,T,T,T,T,T,T,T,T,T,T,T,T,F,F,F,F]) (by kernel_rfl) ?_
      obtain ⟨hg166,h⟩:=gs h
      refine WI.takeS 14 (va (slAt s1 1 (Int.toNat x141))) 131 rfl rfl (by kernel_rfl) (by kernel_rfl) (fun w H=>ev_index sf145 41 (.tmp 117) (.tmp 118) 22 1 8 .i64 x141 rfl (by kernel_rfl) (by kernel_rfl) (by kernel_rfl) hg166) (li':=#[T,T,T,T,T,T,T,T,T,T,T,T,T,T,T,F,F,F]) (by kernel_rfl) ?_
      obtain ⟨l167,hl167,h⟩:=ls h
      refine WI.one 15 (by kernel_rfl) (nod (sl H159 []) (sl H159 [0])) rfl (Op1.storeOwn H159 0 rfl (by kernel_rfl) 22 (.tmp 131) (.tmp 126) (Int.toNat x141) x163 false rfl (by kernel_rfl) (by kernel_rfl) (by kernel_rfl) (idx_lt hg166) (fun w168 H169=>?_))
      rw [← hl167] at H169
      clear H159
      refine WI.nS0 #[T,T,T,T,T,T,T,T,T,T,T,T,T,T,T,T,F,F] (by kernel_rfl) rfl ?_
      obtain ⟨hg170,h⟩:=gs h
      refine WI.takeS 16 (va (slAt s1 1 (Int.toNat x160))) 132 rfl rfl (by kernel_rfl) (by kernel_rfl) (fun w H=>ev_index sf145 41 (.tmp 119) (.tmp 121) 22 1 8 .i64 x160 rfl (by kernel_rfl) (by kernel_rfl) (by kernel_rfl) hg170) (li':=#[T,T,T,T,T,T,T,T,T,T,T,T,T,T,T,T,T,F]) (by kernel_rfl) ?_
      obtain ⟨l171,hl171,h⟩:=ls h
      refine WI.one 17 (by kernel_rfl) (nod0 (sl H169 []) 15 (by decide) (by kernel_rfl)) rfl (Op1.storeOwn H169 0 rfl (by kernel_rfl) 22 (.tmp 132) (.tmp 130) (Int.toNat x160) x165 false rfl (by kernel_rfl) (by kernel_rfl) (by kernel_rfl) (by simp only [hl167,List.length_set]; exact idx_lt hg170) (fun w172 H173=>?_))
      rw [← hl171] at H173
      clear H169
      refine WI.nS0 #[T,T,T,T,T,T,T,T,T,T,T,T,T,T,T,T,T,T] (by kernel_rfl) rfl ?_
      refine WI.done (by kernel_rfl) (nod0 (sl H173 []) 15 (by decide) (by kernel_rfl)) ?_
      exact ⟨l171,yy H173 [0] h⟩
     rintro a w174 ⟨l156,G157,rfl,H175,h⟩
     subst hK158
     refine inb_n (then_n ?_)
     refine zg ?_
     obtain ⟨x177,e,h⟩:=ls h
     refine ze 3 3 [(10,vi x177),(105,vi x177),(104,vi x141)] ?_
     refine zd ?_
     exact then_n ⟨n,lS n,l156,x177,yy H175 [0] h⟩
    rintro a w178 ⟨l137,G138,rfl,H179,h⟩
    subst hK139
    exact inb_n (then_n ⟨l137,x27,yy H179 [0] h⟩)
   rintro a w181 ⟨l23,x24,G25,rfl,H182,h⟩
   subst hK26
   exact then_n ⟨l23,x24,yy H182 [0] h⟩
  rintro a w184 ⟨l19,x20,G21,rfl,H185,h⟩
  subst hK22
  refine zg ?_
  obtain ⟨x187,e,h⟩:=ls h
  refine ze 3 3 [(8,vi x187),(16,vi x187),(15,vi x13)] ?_
  refine zd ?_
  exact then_n ⟨n,lS n,l19,x20,x187,yy H185 [0] h⟩
 rintro a w188 ⟨l8,G9,rfl,H189,h⟩
 subst hK10
 refine then_n ?_
 refine zsg ?_
 refine zrd 1 1 [(6,vb false)] ?_
 refine WP.ret ?_
 obtain rfl:=oi h
 exact post_r (vb false) rfl (by kernel_rfl) ⟨rfl,sl H189 [0]⟩
/- slices.partitionOrdered[uint64] -/
def g_sPrt_l1 (K31 : Int → Option ((List Int) × Int × Bool)) (x28 : Int) (l8 : List Int) (p4 : Int) (fuel : Nat) : Nat → Int → Option ((List Int) × Int × Bool)
  | 0, _ => none
  | n + 1, x32 => jn (fun (c37 : Bool) => br c37 (lt (wr .i64 (x32 + 1)) fun x53 => g_sPrt_l1 K31 x28 l8 p4 fuel n x53) (K31 x32)) fun K39 => lt (decide (x32 ≤ x28)) fun c40 => br c40 (gd ((0 : Int) ≤ x32 ∧ x32 < ((List.length l8 : Nat) : Int)) <| bd (l8[Int.toNat x32]?) fun x44 => gd ((0 : Int) ≤ p4 ∧ p4 < ((List.length l8 : Nat) : Int)) <| bd (l8[Int.toNat p4]?) fun x46 => bd (g_Less fuel x44 x46) fun t47 => K39 t47) (K39 false)
def g_sPrt_l2 (K59 : Int → Option ((List Int) × Int × Bool)) (x29 : Int) (l8 : List Int) (p4 : Int) (fuel : Nat) : Nat → Int → Option ((List Int) × Int × Bool)
  | 0, _ => none
  | n + 1, x60 => jn (fun (c65 : Bool) => br c65 (lt (wr .i64 (x60 - 1)) fun x82 => g_sPrt_l2 K59 x29 l8 p4 fuel n x82) (K59 x60)) fun K67 => lt (decide (x29 ≤ x60)) fun c68 => br c68 (gd ((0 : Int) ≤ x60 ∧ x60 < ((List.length l8 : Nat) : Int)) <| bd (l8[Int.toNat x60]?) fun x72 => gd ((0 : Int) ≤ p4 ∧ p4 < ((List.length l8 : Nat) : Int)) <| bd (l8[Int.toNat p4]?) fun x74 => bd (g_Less fuel x72 x74) fun t75 => lt (!t75) fun c76 => K67 c76) (K67 false)
def g_sPrt_l4 (K126 : Int → Option ((List Int) × Int × Bool)) (x114 : Int) (l112 : List Int) (p4 : Int) (fuel : Nat) : Nat → Int → Option ((List Int) × Int × Bool)
  | 0, _ => none
  | n + 1, x127 => jn (fun (c132 : Bool) => br c132 (lt (wr .i64 (x127 + 1)) fun x148 => g_sPrt_l4 K126 x114 l112 p4 fuel n x148) (K126 x127)) fun K134 => lt (decide (x127 ≤ x114)) fun c135 => br c135 (gd ((0 : Int) ≤ x127 ∧ x127 < ((List.length l112 : Nat) : Int)) <| bd (l112[Int.toNat x127]?) fun x139 => gd ((0 : Int) ≤ p4 ∧ p4 < ((List.length l112 : Nat) : Int)) <| bd (l112[Int.toNat p4]?) fun x141 => bd (g_Less fuel x139 x141) fun t142 => K134 t142) (K134 false)
def g_sPrt_l5 (K154 : Int → Option ((List Int) × Int × Bool)) (x124 : Int) (l112 : List Int) (p4 : Int) (fuel : Nat) : Nat → Int → Option ((List Int) × Int × Bool)
  | 0, _ => none
  | n + 1, x155 => jn (fun (c160 : Bool) => br c160 (lt (wr .i64 (x155 - 1)) fun x177 => g_sPrt_l5 K154 x124 l112 p4 fuel n x177) (K154 x155)) fun K162 => lt (decide (x124 ≤ x155)) fun c163 => br c163 (gd ((0 : Int) ≤ x155 ∧ x155 < ((List.length l112 : Nat) : Int)) <| bd (l112[Int.toNat x155]?) fun x167 => gd ((0 : Int) ≤ p4 ∧ p4 < ((List.length l112 : Nat) : Int)) <| bd (l112[Int.toNat p4]?) fun x169 => bd (g_Less fuel x167 x169) fun t170 => lt (!t170) fun c171 => K162 c171) (K162 false)
def g_sPrt_l3 (K111 : (List Int) → Int → Option ((List Int) × Int × Bool)) (p4 : Int) (fuel : Nat) : Nat → (List Int) → Int → Int → Option ((List Int) × Int × Bool)
  | 0, _, _, _ => none
  | n + 1, l112, x113, x114 => jn (fun (l119 : List Int) (x120 : Int) (x121 : Int) => g_sPrt_l3 K111 p4 fuel n l119 x120 x121) fun K123 => jn (fun (x124 : Int) => jn (fun (x152 : Int) => lt (decide (x124 > x152)) fun c181 => br c181 (K111 l112 x152) (jn (fun (l182 : List Int) => lt (wr .i64 (x124 + 1)) fun x201 => lt (wr .i64 (x152 - 1)) fun x202 => K123 l182 x201 x202) fun K184 => gd ((0 : Int) ≤ x152 ∧ x152 < ((List.length l112 : Nat) : Int)) <| bd (l112[Int.toNat x152]?) fun x187 => gd ((0 : Int) ≤ x124 ∧ x124 < ((List.length l112 : Nat) : Int)) <| bd (l112[Int.toNat x124]?) fun x189 => gd ((0 : Int) ≤ x124 ∧ x124 < ((List.length l112 : Nat) : Int)) <| lt (List.set l112 (Int.toNat x124) x187) fun l191 => gd ((0 : Int) ≤ x152 ∧ x152 < ((List.length l112 : Nat) : Int)) <| lt (List.set l191 (Int.toNat x152) x189) fun l195 => K184 l195)) fun K154 => g_sPrt_l5 K154 x124 l112 p4 fuel fuel x114) fun K126 => g_sPrt_l4 K126 x114 l112 p4 fuel fuel x113
def g_sPrt (fuel : Nat) (l2 : List Int) (p4 : Int) (p5 : Int) (p6 : Int) : Option ((List Int) × Int × Bool) :=
  jn (fun (l8 : List Int) => lt (wr .i64 (p4 + 1)) fun x27 => lt (wr .i64 (p5 - 1)) fun x28 => jn (fun (x29 : Int) => jn (fun (x57 : Int) => lt (decide (x29 > x57)) fun c86 => br c86 (jn (fun (l228 : List Int) => some (l228, x57, true)) fun K230 => gd ((0 : Int) ≤ p4 ∧ p4 < ((List.length l8 : Nat) : Int)) <| bd (l8[Int.toNat p4]?) fun x233 => gd ((0 : Int) ≤ x57 ∧ x57 < ((List.length l8 : Nat) : Int)) <| bd (l8[Int.toNat x57]?) fun x235 => gd ((0 : Int) ≤ x57 ∧ x57 < ((List.length l8 : Nat) : Int)) <| lt (List.set l8 (Int.toNat x57) x233) fun l237 => gd ((0 : Int) ≤ p4 ∧ p4 < ((List.length l8 : Nat) : Int)) <| lt (List.set l237 (Int.toNat p4) x235) fun l241 => K230 l241) (jn (fun (l87 : List Int) => lt (wr .i64 (x29 + 1)) fun x106 => lt (wr .i64 (x57 - 1)) fun x107 => jn (fun (l108 : List Int) (x109 : Int) => jn (fun (l209 : List Int) => some (l209, x109, false)) fun K211 => gd ((0 : Int) ≤ p4 ∧ p4 < ((List.length l108 : Nat) : Int)) <| bd (l108[Int.toNat p4]?) fun x214 => gd ((0 : Int) ≤ x109 ∧ x109 < ((List.length l108 : Nat) : Int)) <| bd (l108[Int.toNat x109]?) fun x216 => gd ((0 : Int) ≤ x109 ∧ x109 < ((List.length l108 : Nat) : Int)) <| lt (List.set l108 (Int.toNat x109) x214) fun l218 => gd ((0 : Int) ≤ p4 ∧ p4 < ((List.length l108 : Nat) : Int)) <| lt (List.set l218 (Int.toNat p4) x216) fun l222 => K211 l222) fun K111 => g_sPrt_l3 K111 p4 fuel fuel l87 x106 x107) fun K89 => gd ((0 : Int) ≤ x57 ∧ x57 < ((List.length l8 : Nat) : Int)) <| bd (l8[Int.toNat x57]?) fun x92 => gd ((0 : Int) ≤ x29 ∧ x29 < ((List.length l8 : Nat) : Int)) <| bd (l8[Int.toNat x29]?) fun x94 => gd ((0 : Int) ≤ x29 ∧ x29 < ((List.length l8 : Nat) : Int)) <| lt (List.set l8 (Int.toNat x29) x92) fun l96 => gd ((0 : Int) ≤ x57 ∧ x57 < ((List.length l8 : Nat) : Int)) <| lt (List.set l96 (Int.toNat x57) x94) fun l100 => K89 l100)) fun K59 => g_sPrt_l2 K59 x29 l8 p4 fuel fuel x28) fun K31 => g_sPrt_l1 K31 x28 l8 p4 fuel fuel x27) fun K10 => gd ((0 : Int) ≤ p6 ∧ p6 < ((List.length l2 : Nat) : Int)) <| bd (l2[Int.toNat p6]?) fun x13 => gd ((0 : Int) ≤ p4 ∧ p4 < ((List.length l2 : Nat) : Int)) <| bd (l2[Int.toNat p4]?) fun x15 => gd ((0 : Int) ≤ p4 ∧ p4 < ((List.length l2 : Nat) : Int)) <| lt (List.set l2 (Int.toNat p4) x13) fun l17 => gd ((0 : Int) ≤ p6 ∧ p6 < ((List.length l2 : Nat) : Int)) <| lt (List.set l17 (Int.toNat p6) x15) fun l21 => K10 l21
theorem g_sPrt_w (fuel : Nat) (s1 : Value) (l2 : List Int) (p4 : Int) (p5 : Int) (p6 : Int) (r : (List Int) × Int × Bool) (h : g_sPrt fuel l2 p4 p5 p6 = some r) (w0 : World) (hm : (Own fU64 22 s1 l2).holds w0) :
 Ret Tryz.prog 98 #[s1, vi p4, vi p5, vi p6] w0 (fun v w' => v = .tuple #[vi r.2.1, vb r.2.2] ∧ St (Own fU64 22 s1 l2).fp w0 w' [Own fU64 22 s1 r.1]) := by
 unfold g_sPrt at h
 refine ret_of_wpS Tryz.func98 rfl 168 rfl [(0,s1),(1,vi p4),(2,vi p5),(3,vi p6)] (by kernel_rfl) (fun G=>?_)
 have H0:=St.start1 hm
 have sf7:=Own.isSl (St.get H0 0 rfl)
 refine zsg ?_
 refine zrd 2 2 [(9,vb false),(8,vi 0)] ?_
 refine zs ?_
 obtain ⟨K10,hK10,h⟩:=js h
 refine WP.drawI (by kernel_rfl) (by kernel_rfl) (fun w=>St (Own fU64 22 s1 l2).fp w0 w []) [13,15] (fun w=>St (Own fU64 22 s1 l2).fp w0 w [Own fU64 22 s1 l2]) (fun a w=>∃ (l8 : List Int),Y 168 [(0,s1),(1,vi p4),(2,vi p5)] [] (Own fU64 22 s1 l2).fp w0 [Own fU64 22 s1 l8] (K10 l8 = some r) a w) 16 #[F,F,F,F,F,F,F,F,F,F,F,F,F,F,F,F] (by kernel_rfl) (by kernel_rfl) ?_ ?_
 ·have H11:=St.drew H0
  obtain ⟨hg12,h⟩:=gs h
  refine WI.runS [0,1,2,3,4,5] 10 _ #[T,T,T,T,T,T,F,F,F,F,F,F,F,F,F,F] [(17,vi p6),(16,s1),(15,vi p6),(14,s1),(13,vi p4),(12,s1)] rfl (fun K=>by kernel_rfl) ?_
  refine WI.takeS 6 (va (slAt s1 1 (Int.toNat p6))) 18 rfl rfl (by kernel_rfl) (by kernel_rfl) (fun w H=>ev_index sf7 41 (.tmp 16) (.tmp 17) 22 1 8 .i64 p6 rfl (by kernel_rfl) (by kernel_rfl) (by kernel_rfl) hg12) (li':=#[T,T,T,T,T,T,T,F,F,F,F,F,F,F,F,F]) (by kernel_rfl) ?_
  obtain ⟨x13,hx13,h⟩:=bs h
  refine WI.takeT 7 (vu x13) 19 rfl rfl (by kernel_rfl) (by kernel_rfl) (by kernel_rfl) (fun w H=>ev_loadEl (F:=fU64) (St.rd H 0 rfl) (hp_no_le _) hx13 22 (.tmp 18) 0 (vu x13) rfl (by kernel_rfl) (by kernel_rfl)) (li':=#[T,T,T,T,T,T,T,T,F,F,F,F,F,F,F,F]) (by kernel_rfl) ?_
  obtain ⟨hg14,h⟩:=gs h
  refine WI.runS [8,9] 6 _ #[T,T,T,T,T,T,T,T,T,T,F,F,F,F,F,F] [(21,vi p4),(20,s1)] rfl (fun K=>by kernel_rfl) ?_
  refine WI.takeS 10 (va (slAt s1 1 (Int.toNat p4))) 22 rfl rfl (by kernel_rfl) (by kernel_rfl) (fun w H=>ev_index sf7 41 (.tmp 20) (.tmp 21) 22 1 8 .i64 p4 rfl (by kernel_rfl) (by kernel_rfl) (by kernel_rfl) hg14) (li':=#[T,T,T,T,T,T,T,T,T,T,T,F,F,F,F,F]) (by kernel_rfl) ?_
  obtain ⟨x15,hx15,h⟩:=bs h
  refine WI.takeT 11 (vu x15) 23 rfl rfl (by kernel_rfl) (by kernel_rfl) (by kernel_rfl) (fun w H=>ev_loadEl (F:=fU64) (St.rd H 0 rfl) (hp_no_le _) hx15 22 (.tmp 22) 0 (vu x15) rfl (by kernel_rfl) (by kernel_rfl)) (li':=#[T,T,T,T,T,T,T,T,T,T,T,T,F,F,F,F]) (by kernel_rfl) ?_
  obtain ⟨hg16,h⟩:=gs h
  refine WI.takeS 12 (va (slAt s1 1 (Int.toNat p4))) 24 rfl rfl (by kernel_rfl) (by kernel_rfl) (fun w H=>ev_index sf7 41 (.tmp 12) (.tmp 13) 22 1 8 .i64 p4 rfl (by kernel_rfl) (by kernel_rfl) (by kernel_rfl) hg16) (li':=#[T,T,T,T,T,T,T,T,T,T,T,T,T,F,F,F]) (by kernel_rfl) ?_
  obtain ⟨l17,hl17,h⟩:=ls h
  refine WI.one 13 (by kernel_rfl) (nod (sl H11 []) (sl H11 [0])) rfl (Op1.storeOwn H11 0 rfl (by kernel_rfl) 22 (.tmp 24) (.tmp 19) (Int.toNat p4) x13 false rfl (by kernel_rfl) (by kernel_rfl) (by kernel_rfl) (idx_lt hg16) (fun w18 H19=>?_))
  rw [← hl17] at H19
  clear H11
  refine WI.nS0 #[T,T,T,T,T,T,T,T,T,T,T,T,T,T,F,F] (by kernel_rfl) rfl ?_
  obtain ⟨hg20,h⟩:=gs h
  refine WI.takeS 14 (va (slAt s1 1 (Int.toNat p6))) 25 rfl rfl (by kernel_rfl) (by kernel_rfl) (fun w H=>ev_index sf7 41 (.tmp 14) (.tmp 15) 22 1 8 .i64 p6 rfl (by kernel_rfl) (by kernel_rfl) (by kernel_rfl) hg20) (li':=#[T,T,T,T,T,T,T,T,T,T,T,T,T,T,T,F]) (by kernel_rfl) ?_
  obtain ⟨l21,hl21,h⟩:=ls h
  refine WI.one 15 (by kernel_rfl) (nod0 (sl H19 []) 13 (by decide) (by kernel_rfl)) rfl (Op1.storeOwn H19 0 rfl (by kernel_rfl) 22 (.tmp 25) (.tmp 23) (Int.toNat p6) x15 false rfl (by kernel_rfl) (by kernel_rfl) (by kernel_rfl) (by simp only [hl17,List.length_set]; exact idx_lt hg20) (fun w22 H23=>?_))
  rw [← hl21] at H23
  clear H19
  refine WI.nS0 #[T,T,T,T,T,T,T,T,T,T,T,T,T,T,T,T] (by kernel_rfl) rfl ?_
  refine WI.done (by kernel_rfl) (nod0 (sl H23 []) 13 (by decide) (by kernel_rfl)) ?_
  exact ⟨l21,yy H23 [0] h⟩
 rintro a w24 ⟨l8,G9,rfl,H25,h⟩
 subst hK10
 refine then_n ?_
 refine zsg ?_
 obtain ⟨x27,hx27,h⟩:=ls h
 obtain ⟨x28,hx28,h⟩:=ls h
 refine zr 6 6 [(11,vi x28),(10,vi x27),(29,vi x28),(28,vi p5),(27,vi x27),(26,vi p4)] ?_ rfl (fun K=>by subst hx28 hx27; kernel_rfl)
 refine zdn ?_
 refine zs ?_
 obtain ⟨K31,hK31,h⟩:=js h
 refine WP.blockJ (fun a w=>∃ (x29 : Int),Y 168 [(0,s1),(1,vi p4),(10,vi x29),(11,vi x28)] [] (Own fU64 22 s1 l2).fp w0 [Own fU64 22 s1 l8] (K31 x29 = some r) a w) ?_ ?_
 ·refine WP.loop (fun n a w=>∃ (x32 : Int),Y 168 [(0,s1),(1,vi p4),(10,vi x32),(11,vi x28)] [] (Own fU64 22 s1 l2).fp w0 [Own fU64 22 s1 l8] (g_sPrt_l1 K31 x28 l8 p4 fuel n x32 = some r) a w) fuel ⟨x27,yy H25 [0] h⟩ ?_
  rintro n a w34 ⟨x32,G33,rfl,H35,h⟩
  obtain _ | n:=n
  ·rw [g_sPrt_l1] at h; cases h
  rw [g_sPrt_l1] at h
  have sf36:=Own.isSl (St.get H35 0 rfl)
  refine zs ?_
  refine zs ?_
  obtain ⟨K39,hK39,h⟩:=js h
  refine WP.onlyN (fun a w=>∃ (c37 : Bool),Y 168 [(0,s1),(1,vi p4),(10,vi x32),(11,vi x28),(43,vb c37)] [] (Own fU64 22 s1 l2).fp w0 [Own fU64 22 s1 l8] (K39 c37 = some r) a w) ?_ ?_
  ·refine WP.quiet (by kernel_rfl) (by kernel_rfl) (by kernel_rfl) (fun w=>St (Own fU64 22 s1 l2).fp w0 w [Own fU64 22 s1 l8]) (St.drew H35) ?_
   obtain ⟨c40,e,h⟩:=ls h
   refine qe 4 4 [(33,vb c40),(32,vb c40),(31,vi x28),(30,vi x32)] ?_
   cases c40
   ·replace h:=bf h
    refine qr 10 14 [(43,vb false),(42,Z),(41,Z),(40,Z),(39,Z),(38,Z),(37,Z),(36,Z),(35,Z),(34,Z)] ?_
    refine qd fun w41 H42=>?_
    exact ⟨false,yy H42 [0] h⟩
   replace h:=bt h
   obtain ⟨hg43,h⟩:=gs h
   refine qr 2 6 [(35,vi x32),(34,s1)] ?_
   refine qv (va (slAt s1 1 (Int.toNat x32))) (fun w H=>lli sf36 22 1 8 .i64 x32 hg43) ?_
   obtain ⟨x44,hx44,h⟩:=bs h
   refine qv (vu x44) (fun w H=>lle fU64 (St.rd H 0 rfl) (hp_no_le _) hx44 0) ?_
   obtain ⟨hg45,h⟩:=gs h
   refine qr 2 10 [(39,vi p4),(38,s1)] ?_
   refine qv (va (slAt s1 1 (Int.toNat p4))) (fun w H=>lli sf36 22 1 8 .i64 p4 hg45) ?_
   obtain ⟨x46,hx46,h⟩:=bs h
   refine qv (vu x46) (fun w H=>lle fU64 (St.rd H 0 rfl) (hp_no_le _) hx46 0) ?_
   obtain ⟨t47,ht47,h⟩:=bs h
   refine qc (vb t47) (fun w H=>Ret.mono (g_Less_w fuel x44 x46 t47 ht47 _) fun u w1 hu=>⟨hu.1,St.call0' H hu.2⟩) ?_
   refine qr 1 14 [(43,vb t47)] ?_
   refine qd fun w48 H49=>?_
   exact ⟨t47,yy H49 [0] h⟩
  rintro a w50 ⟨c37,G38,rfl,H51,h⟩
  subst hK39
  refine then_n ?_
  cases c37
  ·replace h:=bf h
   refine zF ?_
   refine WP.exit ?_
   exact then_e (then_e (inb_e (then_n ⟨x32,yy H51 [0] h⟩)))
  replace h:=bt h
  refine zTn ?_
  refine WP.block ?_
  refine zg ?_
  obtain ⟨x53,e,h⟩:=ls h
  refine ze 3 3 [(10,vi x53),(45,vi x53),(44,vi x32)] ?_
  refine zd ?_
  exact inb_n (then_n ⟨n,lS n,x53,yy H51 [0] h⟩)
 rintro a w54 ⟨x29,G30,rfl,H55,h⟩
 subst hK31
 refine then_n ?_
 refine zs ?_
 obtain ⟨K59,hK59,h⟩:=js h
 refine WP.blockJ (fun a w=>∃ (x57 : Int),Y 168 [(0,s1),(1,vi p4),(10,vi x29),(11,vi x57)] [] (Own fU64 22 s1 l2).fp w0 [Own fU64 22 s1 l8] (K59 x57 = some r) a w) ?_ ?_
 ·refine WP.loop (fun n a w=>∃ (x60 : Int),Y 168 [(0,s1),(1,vi p4),(10,vi x29),(11,vi x60)] [] (Own fU64 22 s1 l2).fp w0 [Own fU64 22 s1 l8] (g_sPrt_l2 K59 x29 l8 p4 fuel n x60 = some r) a w) fuel ⟨x28,yy H55 [0] h⟩ ?_
  rintro n a w62 ⟨x60,G61,rfl,H63,h⟩
  obtain _ | n:=n
  ·rw [g_sPrt_l2] at h; cases h
  rw [g_sPrt_l2] at h
  have sf64:=Own.isSl (St.get H63 0 rfl)
  refine zs ?_
  refine zs ?_
  obtain ⟨K67,hK67,h⟩:=js h
  refine WP.onlyN (fun a w=>∃ (c65 : Bool),Y 168 [(0,s1),(1,vi p4),(10,vi x29),(11,vi x60),(60,vb c65)] [] (Own fU64 22 s1 l2).fp w0 [Own fU64 22 s1 l8] (K67 c65 = some r) a w) ?_ ?_
  ·refine WP.quiet (by kernel_rfl) (by kernel_rfl) (by kernel_rfl) (fun w=>St (Own fU64 22 s1 l2).fp w0 w [Own fU64 22 s1 l8]) (St.drew H63) ?_
   obtain ⟨c68,e,h⟩:=ls h
   refine qe 4 4 [(49,vb c68),(48,vb c68),(47,vi x60),(46,vi x29)] ?_
   cases c68
   ·replace h:=bf h
    refine qr 11 15 [(60,vb false),(59,Z),(58,Z),(57,Z),(56,Z),(55,Z),(54,Z),(53,Z),(52,Z),(51,Z),(50,Z)] ?_
    refine qd fun w69 H70=>?_
    exact ⟨false,yy H70 [0] h⟩
   replace h:=bt h
   obtain ⟨hg71,h⟩:=gs h
   refine qr 2 6 [(51,vi x60),(50,s1)] ?_
   refine qv (va (slAt s1 1 (Int.toNat x60))) (fun w H=>lli sf64 22 1 8 .i64 x60 hg71) ?_
   obtain ⟨x72,hx72,h⟩:=bs h
   refine qv (vu x72) (fun w H=>lle fU64 (St.rd H 0 rfl) (hp_no_le _) hx72 0) ?_
   obtain ⟨hg73,h⟩:=gs h
   refine qr 2 10 [(55,vi p4),(54,s1)] ?_
   refine qv (va (slAt s1 1 (Int.toNat p4))) (fun w H=>lli sf64 22 1 8 .i64 p4 hg73) ?_
   obtain ⟨x74,hx74,h⟩:=bs h
   refine qv (vu x74) (fun w H=>lle fU64 (St.rd H 0 rfl) (hp_no_le _) hx74 0) ?_
   obtain ⟨t75,ht75,h⟩:=bs h
   refine qc (vb t75) (fun w H=>Ret.mono (g_Less_w fuel x72 x74 t75 ht75 _) fun u w1 hu=>⟨hu.1,St.call0' H hu.2⟩) ?_
   obtain ⟨c76,e,h⟩:=ls h
   refine qe 2 15 [(60,vb c76),(59,vb c76)] ?_
   refine qd fun w77 H78=>?_
   exact ⟨c76,yy H78 [0] h⟩
  rintro a w79 ⟨c65,G66,rfl,H80,h⟩
  subst hK67
  refine then_n ?_
  cases c65
  ·replace h:=bf h
   refine zF ?_
   refine WP.exit ?_
   exact then_e (then_e (inb_e (then_n ⟨x60,yy H80 [0] h⟩)))
  replace h:=bt h
  refine zTn ?_
  refine WP.block ?_
  refine zg ?_
  obtain ⟨x82,e,h⟩:=ls h
  refine ze 3 3 [(11,vi x82),(62,vi x82),(61,vi x60)] ?_
  refine zd ?_
  exact inb_n (then_n ⟨n,lS n,x82,yy H80 [0] h⟩)
 rintro a w83 ⟨x57,G58,rfl,H84,h⟩
 subst hK59
 have sf85:=Own.isSl (St.get H84 0 rfl)
 refine then_n ?_
 refine zs ?_
 refine zsg ?_
 obtain ⟨c86,e,h⟩:=ls h
 refine zed 3 3 [(65,vb c86),(64,vi x57),(63,vi x29)] ?_
 cases c86
 rotate_left
 ·replace h:=bt h
  refine zT ?_
  refine zs ?_
  obtain ⟨K230,hK230,h⟩:=js h
  refine WP.drawI (by kernel_rfl) (by kernel_rfl) (fun w=>St (Own fU64 22 s1 l2).fp w0 w []) [13,15] (fun w=>St (Own fU64 22 s1 l2).fp w0 w [Own fU64 22 s1 l8]) (fun a w=>∃ (l228 : List Int),Y 168 [(11,vi x57)] [] (Own fU64 22 s1 l2).fp w0 [Own fU64 22 s1 l228] (K230 l228 = some r) a w) 16 #[F,F,F,F,F,F,F,F,F,F,F,F,F,F,F,F] (by kernel_rfl) (by kernel_rfl) ?_ ?_
  ·have H231:=St.drew H84
   obtain ⟨hg232,h⟩:=gs h
   refine WI.runS [0,1,2,3,4,5] 10 _ #[T,T,T,T,T,T,F,F,F,F,F,F,F,F,F,F] [(71,vi p4),(70,s1),(69,vi p4),(68,s1),(67,vi x57),(66,s1)] rfl (fun K=>by kernel_rfl) ?_
   refine WI.takeS 6 (va (slAt s1 1 (Int.toNat p4))) 72 rfl rfl (by kernel_rfl) (by kernel_rfl) (fun w H=>ev_index sf85 41 (.tmp 70) (.tmp 71) 22 1 8 .i64 p4 rfl (by kernel_rfl) (by kernel_rfl) (by kernel_rfl) hg232) (li':=#[T,T,T,T,T,T,T,F,F,F,F,F,F,F,F,F]) (by kernel_rfl) ?_
   obtain ⟨x233,hx233,h⟩:=bs h
   refine WI.takeT 7 (vu x233) 73 rfl rfl (by kernel_rfl) (by kernel_rfl) (by kernel_rfl) (fun w H=>ev_loadEl (F:=fU64) (St.rd H 0 rfl) (hp_no_le _) hx233 22 (.tmp 72) 0 (vu x233) rfl (by kernel_rfl) (by kernel_rfl)) (li':=#[T,T,T,T,T,T,T,T,F,F,F,F,F,F,F,F]) (by kernel_rfl) ?_
   obtain ⟨hg234,h⟩:=gs h
   refine WI.runS [8,9] 6 _ #[T,T,T,T,T,T,T,T,T,T,F,F,F,F,F,F] [(75,vi x57),(74,s1)] rfl (fun K=>by kernel_rfl) ?_
   refine WI.takeS 10 (va (slAt s1 1 (Int.toNat x57))) 76 rfl rfl (by kernel_rfl) (by kernel_rfl) (fun w H=>ev_index sf85 41 (.tmp 74) (.tmp 75) 22 1 8 .i64 x57 rfl (by kernel_rfl) (by kernel_rfl) (by kernel_rfl) hg234) (li':=#[T,T,T,T,T,T,T,T,T,T,T,F,F,F,F,F]) (by kernel_rfl) ?_
   obtain ⟨x235,hx235,h⟩:=bs h
   refine WI.takeT 11 (vu x235) 77 rfl rfl (by kernel_rfl) (by kernel_rfl) (by kernel_rfl) (fun w H=>ev_loadEl (F:=fU64) (St.rd H 0 rfl) (hp_no_le _) hx235 22 (.tmp 76) 0 (vu x235) rfl (by kernel_rfl) (by kernel_rfl)) (li':=#[T,T,T,T,T,T,T,T,T,T,T,T,F,F,F,F]) (by kernel_rfl) ?_
   obtain ⟨hg236,h⟩:=gs h
   refine WI.takeS 12 (va (slAt s1 1 (Int.toNat x57))) 78 rfl rfl (by kernel_rfl) (by kernel_rfl) (fun w H=>ev_index sf85 41 (.tmp 66) (.tmp 67) 22 1 8 .i64 x57 rfl (by kernel_rfl) (by kernel_rfl) (by kernel_rfl) hg236) (li':=#[T,T,T,T,T,T,T,T,T,T,T,T,T,F,F,F]) (by kernel_rfl) ?_
   obtain ⟨l237,hl237,h⟩:=ls h
   refine WI.one 13 (by kernel_rfl) (nod (sl H231 []) (sl H231 [0])) rfl (Op1.storeOwn H231 0 rfl (by kernel_rfl) 22 (.tmp 78) (.tmp 73) (Int.toNat x57) x233 false rfl (by kernel_rfl) (by kernel_rfl) (by kernel_rfl) (idx_lt hg236) (fun w238 H239=>?_))
   rw [← hl237] at H239
   clear H231
   refine WI.nS0 #[T,T,T,T,T,T,T,T,T,T,T,T,T,T,F,F] (by kernel_rfl) rfl ?_
   obtain ⟨hg240,h⟩:=gs h
   refine WI.takeS 14 (va (slAt s1 1 (Int.toNat p4))) 79 rfl rfl (by kernel_rfl) (by kernel_rfl) (fun w H=>ev_index sf85 41 (.tmp 68) (.tmp 69) 22 1 8 .i64 p4 rfl (by kernel_rfl) (by kernel_rfl) (by kernel_rfl) hg240) (li':=#[T,T,T,T,T,T,T,T,T,T,T,T,T,T,T,F]) (by kernel_rfl) ?_
   obtain ⟨l241,hl241,h⟩:=ls h
   refine WI.one 15 (by kernel_rfl) (nod0 (sl H239 []) 13 (by decide) (by kernel_rfl)) rfl (Op1.storeOwn H239 0 rfl (by kernel_rfl) 22 (.tmp 79) (.tmp 77) (Int.toNat p4) x235 false rfl (by kernel_rfl) (by kernel_rfl) (by kernel_rfl) (by simp only [hl237,List.length_set]; exact idx_lt hg240) (fun w242 H243=>?_))
   rw [← hl241] at H243
   clear H239
   refine WI.nS0 #[T,T,T,T,T,T,T,T,T,T,T,T,T,T,T,T] (by kernel_rfl) rfl ?_
   refine WI.done (by kernel_rfl) (nod0 (sl H243 []) 13 (by decide) (by kernel_rfl)) ?_
   exact ⟨l241,yy H243 [0] h⟩
  rintro a w244 ⟨l228,G229,rfl,H245,h⟩
  subst hK230
  refine then_n ?_
  refine zsg ?_
  refine zrd 3 3 [(9,vb true),(8,vi x57),(80,vi x57)] ?_
  refine WP.ret ?_
  obtain rfl:=oi h
  exact then_r (post_r (.tuple #[vi x57,vb true]) rfl (by kernel_rfl) ⟨rfl,sl H245 [0]⟩)
 replace h:=bf h
 refine zFn ?_
 refine zs ?_
 obtain ⟨K89,hK89,h⟩:=js h
 refine WP.drawI (by kernel_rfl) (by kernel_rfl) (fun w=>St (Own fU64 22 s1 l2).fp w0 w []) [13,15] (fun w=>St (Own fU64 22 s1 l2).fp w0 w [Own fU64 22 s1 l8]) (fun a w=>∃ (l87 : List Int),Y 168 [(0,s1),(1,vi p4),(10,vi x29),(11,vi x57)] [] (Own fU64 22 s1 l2).fp w0 [Own fU64 22 s1 l87] (K89 l87 = some r) a w) 16 #[F,F,F,F,F,F,F,F,F,F,F,F,F,F,F,F] (by kernel_rfl) (by kernel_rfl) ?_ ?_
 ·have H90:=St.drew H84
  obtain ⟨hg91,h⟩:=gs h
  refine WI.runS [0,1,2,3,4,5] 10 _ #[T,T,T,T,T,T,F,F,F,F,F,F,F,F,F,F] [(86,vi x57),(85,s1),(84,vi x57),(83,s1),(82,vi x29),(81,s1)] rfl (fun K=>by kernel_rfl) ?_
  refine WI.takeS 6 (va (slAt s1 1 (Int.toNat x57))) 87 rfl rfl (by kernel_rfl) (by kernel_rfl) (fun w H=>ev_index sf85 41 (.tmp 85) (.tmp 86) 22 1 8 .i64 x57 rfl (by kernel_rfl) (by kernel_rfl) (by kernel_rfl) hg91) (li':=#[T,T,T,T,T,T,T,F,F,F,F,F,F,F,F,F]) (by kernel_rfl) ?_
  obtain ⟨x92,hx92,h⟩:=bs h
  refine WI.takeT 7 (vu x92) 88 rfl rfl (by kernel_rfl) (by kernel_rfl) (by kernel_rfl) (fun w H=>ev_loadEl (F:=fU64) (St.rd H 0 rfl) (hp_no_le _) hx92 22 (.tmp 87) 0 (vu x92) rfl (by kernel_rfl) (by kernel_rfl)) (li':=#[T,T,T,T,T,T,T,T,F,F,F,F,F,F,F,F]) (by kernel_rfl) ?_
  obtain ⟨hg93,h⟩:=gs h
  refine WI.runS [8,9] 6 _ #[T,T,T,T,T,T,T,T,T,T,F,F,F,F,F,F] [(90,vi x29),(89,s1)] rfl (fun K=>by kernel_rfl) ?_
  refine WI.takeS 10 (va (slAt s1 1 (Int.toNat x29))) 91 rfl rfl (by kernel_rfl) (by kernel_rfl) (fun w H=>ev_index sf85 41 (.tmp 89) (.tmp 90) 22 1 8 .i64 x29 rfl (by kernel_rfl) (by kernel_rfl) (by kernel_rfl) hg93) (li':=#[T,T,T,T,T,T,T,T,T,T,T,F,F,F,F,F]) (by kernel_rfl) ?_
  obtain ⟨x94,hx94,h⟩:=bs h
  refine WI.takeT 11 (vu x94) 92 rfl rfl (by kernel_rfl) (by kernel_rfl) (by kernel_rfl) (fun w H=>ev_loadEl (F:=fU64) (St.rd H 0 rfl) (hp_no_le _) hx94 22 (.tmp 91) 0 (vu x94) rfl (by kernel_rfl) (by kernel_rfl)) (li':=#[T,T,T,T,T,T,T,T,T,T,T,T,F,F,F,F]) (by kernel_rfl) ?_
  obtain ⟨hg95,h⟩:=gs h
  refine WI.takeS 12 (va (slAt s1 1 (Int.toNat x29))) 93 rfl rfl (by kernel_rfl) (by kernel_rfl) (fun w H=>ev_index sf85 41 (.tmp 81) (.tmp 82) 22 1 8 .i64 x29 rfl (by kernel_rfl) (by kernel_rfl) (by kernel_rfl) hg95) (li':=#[T,T,T,T,T,T,T,T,T,T,T,T,T,F,F,F]) (by kernel_rfl) ?_
  obtain ⟨l96,hl96,h⟩:=ls h
  refine WI.one 13 (by kernel_rfl) (nod (sl H90 []) (sl H90 [0])) rfl (Op1.storeOwn H90 0 rfl (by kernel_rfl) 22 (.tmp 93) (.tmp 88) (Int.toNat x29) x92 false rfl (by kernel_rfl) (by kernel_rfl) (by kernel_rfl) (idx_lt hg95) (fun w97 H98=>?_))
  rw [← hl96] at H98
  clear H90
  refine WI.nS0 #[T,T,T,T,T,T,T,T,T,T,T,T,T,T,F,F] (by kernel_rfl) rfl ?_
  obtain ⟨hg99,h⟩:=gs h
  refine WI.takeS 14 (va (slAt s1 1 (Int.toNat x57))) 94 rfl rfl (by kernel_rfl) (by kernel_rfl) (fun w H=>ev_index sf85 41 (.tmp 83) (.tmp 84) 22 1 8 .i64 x57 rfl (by kernel_rfl) (by kernel_rfl) (by kernel_rfl) hg99) (li':=#[T,T,T,T,T,T,T,T,T,T,T,T,T,T,T,F]) (by kernel_rfl) ?_
  obtain ⟨l100,hl100,h⟩:=ls h
  refine WI.one 15 (by kernel_rfl) (nod0 (sl H98 []) 13 (by decide) (by kernel_rfl)) rfl (Op1.storeOwn H98 0 rfl (by kernel_rfl) 22 (.tmp 94) (.tmp 92) (Int.toNat x57) x94 false rfl (by kernel_rfl) (by kernel_rfl) (by kernel_rfl) (by simp only [hl96,List.length_set]; exact idx_lt hg99) (fun w101 H102=>?_))
  rw [← hl100] at H102
  clear H98
  refine WI.nS0 #[T,T,T,T,T,T,T,T,T,T,T,T,T,T,T,T] (by kernel_rfl) rfl ?_
  refine WI.done (by kernel_rfl) (nod0 (sl H102 []) 13 (by decide) (by kernel_rfl)) ?_
  exact ⟨l100,yy H102 [0] h⟩
 rintro a w103 ⟨l87,G88,rfl,H104,h⟩
 subst hK89
 refine then_n ?_
 refine zsg ?_
 obtain ⟨x106,e,h⟩:=ls h
 refine zed 3 3 [(10,vi x106),(96,vi x106),(95,vi x29)] ?_
 refine zsg ?_
 obtain ⟨x107,e,h⟩:=ls h
 refine zed 3 3 [(11,vi x107),(98,vi x107),(97,vi x57)] ?_
 refine zs ?_
 obtain ⟨K111,hK111,h⟩:=js h
 refine WP.blockJ (fun a w=>∃ (l108 : List Int) (x109 : Int),Y 168 [(0,s1),(1,vi p4),(11,vi x109)] [] (Own fU64 22 s1 l2).fp w0 [Own fU64 22 s1 l108] (K111 l108 x109 = some r) a w) ?_ ?_
 ·refine WP.loop (fun n a w=>∃ (l112 : List Int) (x113 : Int) (x114 : Int),Y 168 [(0,s1),(1,vi p4),(10,vi x113),(11,vi x114)] [] (Own fU64 22 s1 l2).fp w0 [Own fU64 22 s1 l112] (g_sPrt_l3 K111 p4 fuel n l112 x113 x114 = some r) a w) fuel ⟨l87,x106,x107,yy H104 [0] h⟩ ?_
  rintro n a w116 ⟨l112,x113,x114,G115,rfl,H117,h⟩
  obtain _ | n:=n
  ·rw [g_sPrt_l3] at h; cases h
  rw [g_sPrt_l3] at h
  obtain ⟨K123,hK123,h⟩:=js h
  refine WP.blockJ (fun a w=>∃ (l119 : List Int) (x120 : Int) (x121 : Int),Y 168 [(0,s1),(1,vi p4),(10,vi x120),(11,vi x121)] [] (Own fU64 22 s1 l2).fp w0 [Own fU64 22 s1 l119] (K123 l119 x120 x121 = some r) a w) ?_ ?_
  ·refine zs ?_
   obtain ⟨K126,hK126,h⟩:=js h
   refine WP.blockJ (fun a w=>∃ (x124 : Int),Y 168 [(0,s1),(1,vi p4),(10,vi x124),(11,vi x114)] [] (Own fU64 22 s1 l2).fp w0 [Own fU64 22 s1 l112] (K126 x124 = some r) a w) ?_ ?_
   ·refine WP.loop (fun n a w=>∃ (x127 : Int),Y 168 [(0,s1),(1,vi p4),(10,vi x127),(11,vi x114)] [] (Own fU64 22 s1 l2).fp w0 [Own fU64 22 s1 l112] (g_sPrt_l4 K126 x114 l112 p4 fuel n x127 = some r) a w) fuel ⟨x113,yy H117 [0] h⟩ ?_
    rintro n a w129 ⟨x127,G128,rfl,H130,h⟩
    obtain _ | n:=n
    ·rw [g_sPrt_l4] at h; cases h
    rw [g_sPrt_l4] at h
    have sf131:=Own.isSl (St.get H130 0 rfl)
    refine zs ?_
    refine zs ?_
    obtain ⟨K134,hK134,h⟩:=js h
    refine WP.onlyN (fun a w=>∃ (c132 : Bool),Y 168 [(0,s1),(1,vi p4),(10,vi x127),(11,vi x114),(112,vb c132)] [] (Own fU64 22 s1 l2).fp w0 [Own fU64 22 s1 l112] (K134 c132 = some r) a w) ?_ ?_
    ·refine WP.quiet (by kernel_rfl) (by kernel_rfl) (by kernel_rfl) (fun w=>St (Own fU64 22 s1 l2).fp w0 w [Own fU64 22 s1 l112]) (St.drew H130) ?_
     obtain ⟨c135,e,h⟩:=ls h
     refine qe 4 4 [(102,vb c135),(101,vb c135),(100,vi x114),(99,vi x127)] ?_
     cases c135
     ·replace h:=bf h
      refine qr 10 14 [(112,vb false),(111,Z),(110,Z),(109,Z),(108,Z),(107,Z),(106,Z),(105,Z),(104,Z),(103,Z)] ?_
      refine qd fun w136 H137=>?_
      exact ⟨false,yy H137 [0] h⟩
     replace h:=bt h
     obtain ⟨hg138,h⟩:=gs h
     refine qr 2 6 [(104,vi x127),(103,s1)] ?_
     refine qv (va (slAt s1 1 (Int.toNat x127))) (fun w H=>lli sf131 22 1 8 .i64 x127 hg138) ?_
     obtain ⟨x139,hx139,h⟩:=bs h
     refine qv (vu x139) (fun w H=>lle fU64 (St.rd H 0 rfl) (hp_no_le _) hx139 0) ?_
     obtain ⟨hg140,h⟩:=gs h
     refine qr 2 10 [(108,vi p4),(107,s1)] ?_
     refine qv (va (slAt s1 1 (Int.toNat p4))) (fun w H=>lli sf131 22 1 8 .i64 p4 hg140) ?_
     obtain ⟨x141,hx141,h⟩:=bs h
     refine qv (vu x141) (fun w H=>lle fU64 (St.rd H 0 rfl) (hp_no_le _) hx141 0) ?_
     obtain ⟨t142,ht142,h⟩:=bs h
     refine qc (vb t142) (fun w H=>Ret.mono (g_Less_w fuel x139 x141 t142 ht142 _) fun u w1 hu=>⟨hu.1,St.call0' H hu.2⟩) ?_
     refine qr 1 14 [(112,vb t142)] ?_
     refine qd fun w143 H144=>?_
     exact ⟨t142,yy H144 [0] h⟩
    rintro a w145 ⟨c132,G133,rfl,H146,h⟩
    subst hK134
    refine then_n ?_
    cases c132
    ·replace h:=bf h
     refine zF ?_
     refine WP.exit ?_
     exact then_e (then_e (inb_e (then_n ⟨x127,yy H146 [0] h⟩)))
    replace h:=bt h
    refine zTn ?_
    refine WP.block ?_
    refine zg ?_
    obtain ⟨x148,e,h⟩:=ls h
    refine ze 3 3 [(10,vi x148),(114,vi x148),(113,vi x127)] ?_
    refine zd ?_
    exact inb_n (then_n ⟨n,lS n,x148,yy H146 [0] h⟩)
   rintro a w149 ⟨x124,G125,rfl,H150,h⟩
   subst hK126
   refine then_n ?_
   refine zs ?_
   obtain ⟨K154,hK154,h⟩:=js h
   refine WP.blockJ (fun a w=>∃ (x152 : Int),Y 168 [(0,s1),(1,vi p4),(10,vi x124),(11,vi x152)] [] (Own fU64 22 s1 l2).fp w0 [Own fU64 22 s1 l112] (K154 x152 = some r) a w) ?_ ?_
   ·refine WP.loop (fun n a w=>∃ (x155 : Int),Y 168 [(0,s1),(1,vi p4),(10,vi x124),(11,vi x155)] [] (Own fU64 22 s1 l2).fp w0 [Own fU64 22 s1 l112] (g_sPrt_l5 K154 x124 l112 p4 fuel n x155 = some r) a w) fuel ⟨x114,yy H150 [0] h⟩ ?_
    rintro n a w157 ⟨x155,G156,rfl,H158,h⟩
    obtain _ | n:=n
    ·rw [g_sPrt_l5] at h; cases h
    rw [g_sPrt_l5] at h
    have sf159:=Own.isSl (St.get H158 0 rfl)
    refine zs ?_
    refine zs ?_
    obtain ⟨K162,hK162,h⟩:=js h
    refine WP.onlyN (fun a w=>∃ (c160 : Bool),Y 168 [(0,s1),(1,vi p4),(10,vi x124),(11,vi x155),(129,vb c160)] [] (Own fU64 22 s1 l2).fp w0 [Own fU64 22 s1 l112] (K162 c160 = some r) a w) ?_ ?_
    ·refine WP.quiet (by kernel_rfl) (by kernel_rfl) (by kernel_rfl) (fun w=>St (Own fU64 22 s1 l2).fp w0 w [Own fU64 22 s1 l112]) (St.drew H158) ?_
     obtain ⟨c163,e,h⟩:=ls h
     refine qe 4 4 [(118,vb c163),(117,vb c163),(116,vi x155),(115,vi x124)] ?_
     cases c163
     ·replace h:=bf h
      refine qr 11 15 [(129,vb false),(128,Z),(127,Z),(126,Z),(125,Z),(124,Z),(123,Z),(122,Z),(121,Z),(120,Z),(119,Z)] ?_
      refine qd fun w164 H165=>?_
      exact ⟨false,yy H165 [0] h⟩
     replace h:=bt h
     obtain ⟨hg166,h⟩:=gs h
     refine qr 2 6 [(120,vi x155),(119,s1)] ?_
     refine qv (va (slAt s1 1 (Int.toNat x155))) (fun w H=>lli sf159 22 1 8 .i64 x155 hg166) ?_
     obtain ⟨x167,hx167,h⟩:=bs h
     refine qv (vu x167) (fun w H=>lle fU64 (St.rd H 0 rfl) (hp_no_le _) hx167 0) ?_
     obtain ⟨hg168,h⟩:=gs h
     refine qr 2 10 [(124,vi p4),(123,s1)] ?_
     refine qv (va (slAt s1 1 (Int.toNat p4))) (fun w H=>lli sf159 22 1 8 .i64 p4 hg168) ?_
     obtain ⟨x169,hx169,h⟩:=bs h
     refine qv (vu x169) (fun w H=>lle fU64 (St.rd H 0 rfl) (hp_no_le _) hx169 0) ?_
     obtain ⟨t170,ht170,h⟩:=bs h
     refine qc (vb t170) (fun w H=>Ret.mono (g_Less_w fuel x167 x169 t170 ht170 _) fun u w1 hu=>⟨hu.1,St.call0' H hu.2⟩) ?_
     obtain ⟨c171,e,h⟩:=ls h
     refine qe 2 15 [(129,vb c171),(128,vb c171)] ?_
     refine qd fun w172 H173=>?_
     exact ⟨c171,yy H173 [0] h⟩
    rintro a w174 ⟨c160,G161,rfl,H175,h⟩
    subst hK162
    refine then_n ?_
    cases c160
    ·replace h:=bf h
     refine zF ?_
     refine WP.exit ?_
     exact then_e (then_e (inb_e (then_n ⟨x155,yy H175 [0] h⟩)))
    replace h:=bt h
    refine zTn ?_
    refine WP.block ?_
    refine zg ?_
    obtain ⟨x177,e,h⟩:=ls h
    refine ze 3 3 [(11,vi x177),(131,vi x177),(130,vi x155)] ?_
    refine zd ?_
    exact inb_n (then_n ⟨n,lS n,x177,yy H175 [0] h⟩)
   rintro a w178 ⟨x152,G153,rfl,H179,h⟩
   subst hK154
   have sf180:=Own.isSl (St.get H179 0 rfl)
   refine then_n ?_
   refine zs ?_
   refine zsg ?_
   obtain ⟨c181,e,h⟩:=ls h
   refine zed 3 3 [(134,vb c181),(133,vi x152),(132,vi x124)] ?_
   cases c181
   rotate_left
   ·replace h:=bt h
    refine zT ?_
    refine WP.exit ?_
    exact then_e (inb_x (by decide) (then_e (then_e (inb_e (then_n ⟨l112,x152,yy H179 [0] h⟩)))))
   replace h:=bf h
   refine zFn ?_
   refine zs ?_
   obtain ⟨K184,hK184,h⟩:=js h
   refine WP.drawI (by kernel_rfl) (by kernel_rfl) (fun w=>St (Own fU64 22 s1 l2).fp w0 w []) [13,15] (fun w=>St (Own fU64 22 s1 l2).fp w0 w [Own fU64 22 s1 l112]) (fun a w=>∃ (l182 : List Int),Y 168 [(0,s1),(1,vi p4),(10,vi x124),(11,vi x152)] [] (Own fU64 22 s1 l2).fp w0 [Own fU64 22 s1 l182] (K184 l182 = some r) a w) 16 #[F,F,F,F,F,F,F,F,F,F,F,F,F,F,F,F] (by kernel_rfl) (by kernel_rfl) ?_ ?_
   ·have H185:=St.drew H179
    obtain ⟨hg186,h⟩:=gs h
    refine WI.runS [0,1,2,3,4,5] 10 _ #[T,T,T,T,T,T,F,F,F,F,F,F,F,F,F,F] [(140,vi x152),(139,s1),(138,vi x152),(137,s1),(136,vi x124),(135,s1)] rfl (fun K=>by kernel_rfl) ?_
    refine WI.takeS 6 (va (slAt s1 1 (Int.toNat x152))) 141 rfl rfl (by kernel_rfl) (by kernel_rfl) (fun w H=>ev_index sf180 41 (.tmp 139) (.tmp 140) 22 1 8 .i64 x152 rfl (by kernel_rfl) (by kernel_rfl) (by kernel_rfl) hg186) (li':=#[T,T,T,T,T,T,T,F,F,F,F,F,F,F,F,F]) (by kernel_rfl) ?_
    obtain ⟨x187,hx187,h⟩:=bs h
    refine WI.takeT 7 (vu x187) 142 rfl rfl (by kernel_rfl) (by kernel_rfl) (by kernel_rfl) (fun w H=>ev_loadEl (F:=fU64) (St.rd H 0 rfl) (hp_no_le _) hx187 22 (.tmp 141) 0 (vu x187) rfl (by kernel_rfl) (by kernel_rfl)) (li':=#[T,T,T,T,T,T,T,T,F,F,F,F,F,F,F,F]) (by kernel_rfl) ?_
    obtain ⟨hg188,h⟩:=gs h
    refine WI.runS [8,9] 6 _ #[T,T,T,T,T,T,T,T,T,T,F,F,F,F,F,F] [(144,vi x124),(143,s1)] rfl (fun K=>by kernel_rfl) ?_
    refine WI.takeS 10 (va (slAt s1 1 (Int.toNat x124))) 145 rfl rfl (by kernel_rfl) (by kernel_rfl) (fun w H=>ev_index sf180 41 (.tmp 143) (.tmp 144) 22 1 8 .i64 x124 rfl (by kernel_rfl) (by kernel_rfl) (by kernel_rfl) hg188) (li':=#[T,T,T,T,T,T,T,T,T,T,T,F,F,F,F,F]) (by kernel_rfl) ?_
    obtain ⟨x189,hx189,h⟩:=bs h
    refine WI.takeT 11 (vu x189) 146 rfl rfl (by kernel_rfl) (by kernel_rfl) (by kernel_rfl) (fun w H=>ev_loadEl (F:=fU64) (St.rd H 0 rfl) (hp_no_le _) hx189 22 (.tmp 145) 0 (vu x189) rfl (by kernel_rfl) (by kernel_rfl)) (li':=#[T,T,T,T,T,T,T,T,T,T,T,T,F,F,F,F]) (by kernel_rfl) ?_
    obtain ⟨hg190,h⟩:=gs h
    refine WI.takeS 12 (va (slAt s1 1 (Int.toNat x124))) 147 rfl rfl (by kernel_rfl) (by kernel_rfl) (fun w H=>ev_index sf180 41 (.tmp 135) (.tmp 136) 22 1 8 .i64 x124 rfl (by kernel_rfl) (by kernel_rfl) (by kernel_rfl) hg190) (li':=#[T,T,T,T,T,T,T,T,T,T,T,T,T,F,F,F]) (by kernel_rfl) ?_
    obtain ⟨l191,hl191,h⟩:=ls h
    refine WI.one 13 (by kernel_rfl) (nod (sl H185 []) (sl H185 [0])) rfl (Op1.storeOwn H185 0 rfl (by kernel_rfl) 22 (.tmp 147) (.tmp 142) (Int.toNat x124) x187 false rfl (by kernel_rfl) (by kernel_rfl) (by kernel_rfl) (idx_lt hg190) (fun w192 H193=>?_))
    rw [← hl191] at H193
    clear H185
    refine WI.nS0 #[T,T,T,T,T,T,T,T,T,T,T,T,T,T,F,F] (by kernel_rfl) rfl ?_
    obtain ⟨hg194,h⟩:=gs h
    refine WI.takeS 14 (va (slAt s1 1 (Int.toNat x152))) 148 rfl rfl (by kernel_rfl) (by kernel_rfl) (fun w H=>ev_index sf180 41 (.tmp 137) (.tmp 138) 22 1 8 .i64 x152 rfl (by kernel_rfl) (by kernel_rfl) (by kernel_rfl) hg194) (li':=#[T,T,T,T,T,T,T,T,T,T,T,T,T,T,T,F]) (by kernel_rfl) ?_
    obtain ⟨l195,hl195,h⟩:=ls h
    refine WI.one 15 (by kernel_rfl) (nod0 (sl H193 []) 13 (by decide) (by kernel_rfl)) rfl (Op1.storeOwn H193 0 rfl (by kernel_rfl) 22 (.tmp 148) (.tmp 146) (Int.toNat x152) x189 false rfl (by kernel_rfl) (by kernel_rfl) (by kernel_rfl) (by simp only [hl191,List.length_set]; exact idx_lt hg194) (fun w196 H197=>?_))
    rw [← hl195] at H197
    clear H193
    refine WI.nS0 #[T,T,T,T,T,T,T,T,T,T,T,T,T,T,T,T] (by kernel_rfl) rfl ?_
    refine WI.done (by kernel_rfl) (nod0 (sl H197 []) 13 (by decide) (by kernel_rfl)) ?_
    exact ⟨l195,yy H197 [0] h⟩
   rintro a w198 ⟨l182,G183,rfl,H199,h⟩
   subst hK184
   refine then_n ?_
   refine zsg ?_
   obtain ⟨x201,e,h⟩:=ls h
   refine zed 3 3 [(10,vi x201),(150,vi x201),(149,vi x124)] ?_
   refine zg ?_
   obtain ⟨x202,e,h⟩:=ls h
   refine ze 3 3 [(11,vi x202),(152,vi x202),(151,vi x152)] ?_
   refine zd ?_
   exact inb_n (then_n ⟨l182,x201,x202,yy H199 [0] h⟩)
  rintro a w203 ⟨l119,x120,x121,G122,rfl,H204,h⟩
  subst hK123
  exact then_n ⟨n,lS n,l119,x120,x121,yy H204 [0] h⟩
 rintro a w206 ⟨l108,x109,G110,rfl,H207,h⟩
 subst hK111
 have sf208:=Own.isSl (St.get H207 0 rfl)
 refine then_n ?_
 refine zs ?_
 obtain ⟨K211,hK211,h⟩:=js h
 refine WP.drawI (by kernel_rfl) (by kernel_rfl) (fun w=>St (Own fU64 22 s1 l2).fp w0 w []) [13,15] (fun w=>St (Own fU64 22 s1 l2).fp w0 w [Own fU64 22 s1 l108]) (fun a w=>∃ (l209 : List Int),Y 168 [(11,vi x109)] [] (Own fU64 22 s1 l2).fp w0 [Own fU64 22 s1 l209] (K211 l209 = some r) a w) 16 #[F,F,F,F,F,F,F,F,F,F,F,F,F,F,F,F] (by kernel_rfl) (by kernel_rfl) ?_ ?_
 ·have H212:=St.drew H207
  obtain ⟨hg213,h⟩:=gs h
  refine WI.runS [0,1,2,3,4,5] 10 _ #[T,T,T,T,T,T,F,F,F,F,F,F,F,F,F,F] [(158,vi p4),(157,s1),(156,vi p4),(155,s1),(154,vi x109),(153,s1)] rfl (fun K=>by kernel_rfl) ?_
  refine WI.takeS 6 (va (slAt s1 1 (Int.toNat p4))) 159 rfl rfl (by kernel_rfl) (by kernel_rfl) (fun w H=>ev_index sf208 41 (.tmp 157) (.tmp 158) 22 1 8 .i64 p4 rfl (by kernel_rfl) (by kernel_rfl) (by kernel_rfl) hg213) (li':=#[T,T,T,T,T,T,T,F,F,F,F,F,F,F,F,F]) (by kernel_rfl) ?_
  obtain ⟨x214,hx214,h⟩:=bs h
  refine WI.takeT 7 (vu x214) 160 rfl rfl (by kernel_rfl) (by kernel_rfl) (by kernel_rfl) (fun w H=>ev_loadEl (F:=fU64) (St.rd H 0 rfl) (hp_no_le _) hx214 22 (.tmp 159) 0 (vu x214) rfl (by kernel_rfl) (by kernel_rfl)) (li':=#[T,T,T,T,T,T,T,T,F,F,F,F,F,F,F,F]) (by kernel_rfl) ?_
  obtain ⟨hg215,h⟩:=gs h
  refine WI.runS [8,9] 6 _ #[T,T,T,T,T,T,T,T,T,T,F,F,F,F,F,F] [(162,vi x109),(161,s1)] rfl (fun K=>by kernel_rfl) ?_
  refine WI.takeS 10 (va (slAt s1 1 (Int.toNat x109))) 163 rfl rfl (by kernel_rfl) (by kernel_rfl) (fun w H=>ev_index sf208 41 (.tmp 161) (.tmp 162) 22 1 8 .i64 x109 rfl (by kernel_rfl) (by kernel_rfl) (by kernel_rfl) hg215) (li':=#[T,T,T,T,T,T,T,T,T,T,T,F,F,F,F,F]) (by kernel_rfl) ?_
  obtain ⟨x216,hx216,h⟩:=bs h
  refine WI.takeT 11 (vu x216) 164 rfl rfl (by kernel_rfl) (by kernel_rfl) (by kernel_rfl) (fun w H=>ev_loadEl (F:=fU64) (St.rd H 0 rfl) (hp_no_le _) hx216 22 (.tmp 163) 0 (vu x216) rfl (by kernel_rfl) (by kernel_rfl)) (li':=#[T,T,T,T,T,T,T,T,T,T,T,T,F,F,F,F]) (by kernel_rfl) ?_
  obtain ⟨hg217,h⟩:=gs h
  refine WI.takeS 12 (va (slAt s1 1 (Int.toNat x109))) 165 rfl rfl (by kernel_rfl) (by kernel_rfl) (fun w H=>ev_index sf208 41 (.tmp 153) (.tmp 154) 22 1 8 .i64 x109 rfl (by kernel_rfl) (by kernel_rfl) (by kernel_rfl) hg217) (li':=#[T,T,T,T,T,T,T,T,T,T,T,T,T,F,F,F]) (by kernel_rfl) ?_
  obtain ⟨l218,hl218,h⟩:=ls h
  refine WI.one 13 (by kernel_rfl) (nod (sl H212 []) (sl H212 [0])) rfl (Op1.storeOwn H212 0 rfl (by kernel_rfl) 22 (.tmp 165) (.tmp 160) (Int.toNat x109) x214 false rfl (by kernel_rfl) (by kernel_rfl) (by kernel_rfl) (idx_lt hg217) (fun w219 H220=>?_))
  rw [← hl218] at H220
  clear H212
  refine WI.nS0 #[T,T,T,T,T,T,T,T,T,T,T,T,T,T,F,F] (by kernel_rfl) rfl ?_
  obtain ⟨hg221,h⟩:=gs h
  refine WI.takeS 14 (va (slAt s1 1 (Int.toNat p4))) 166 rfl rfl (by kernel_rfl) (by kernel_rfl) (fun w H=>ev_index sf208 41 (.tmp 155) (.tmp 156) 22 1 8 .i64 p4 rfl (by kernel_rfl) (by kernel_rfl) (by kernel_rfl) hg221) (li':=#[T,T,T,T,T,T,T,T,T,T,T,T,T,T,T,F]) (by kernel_rfl) ?_
  obtain ⟨l222,hl222,h⟩:=ls h
  refine WI.one 15 (by kernel_rfl) (nod0 (sl H220 []) 13 (by decide) (by kernel_rfl)) rfl (Op1.storeOwn H220 0 rfl (by kernel_rfl) 22 (.tmp 166) (.tmp 164) (Int.toNat p4) x216 false rfl (by kernel_rfl) (by kernel_rfl) (by kernel_rfl) (by simp only [hl218,List.length_set]; exact idx_lt hg221) (fun w223 H224=>?_))
  rw [← hl222] at H224
  clear H220
  refine WI.nS0 #[T,T,T,T,T,T,T,T,T,T,T,T,T,T,T,T] (by kernel_rfl) rfl ?_
  refine WI.done (by kernel_rfl) (nod0 (sl H224 []) 13 (by decide) (by kernel_rfl)) ?_
  exact ⟨l222,yy H224 [0] h⟩
 rintro a w225 ⟨l209,G210,rfl,H226,h⟩
 subst hK211
 refine then_n ?_
 refine zsg ?_
 refine zrd 3 3 [(9,vb false),(8,vi x109),(167,vi x109)] ?_
 refine WP.ret ?_
 obtain rfl:=oi h
 exact post_r (.tuple #[vi x109,vb false]) rfl (by kernel_rfl) ⟨rfl,sl H226 [0]⟩
/- slices.partitionEqualOrdered[uint64] -/
def g_sPeq_l2 (K47 : Int → Option ((List Int) × Int)) (x35 : Int) (p4 : Int) (l33 : List Int) (fuel : Nat) : Nat → Int → Option ((List Int) × Int)
  | 0, _ => none
  | n + 1, x48 => jn (fun (c53 : Bool) => br c53 (lt (wr .i64 (x48 + 1)) fun x70 => g_sPeq_l2 K47 x35 p4 l33 fuel n x70) (K47 x48)) fun K55 => lt (decide (x48 ≤ x35)) fun c56 => br c56 (gd ((0 : Int) ≤ p4 ∧ p4 < ((List.length l33 : Nat) : Int)) <| bd (l33[Int.toNat p4]?) fun x60 => gd ((0 : Int) ≤ x48 ∧ x48 < ((List.length l33 : Nat) : Int)) <| bd (l33[Int.toNat x48]?) fun x62 => bd (g_Less fuel x60 x62) fun t63 => lt (!t63) fun c64 => K55 c64) (K55 false)
def g_sPeq_l3 (K76 : Int → Option ((List Int) × Int)) (x45 : Int) (p4 : Int) (l33 : List Int) (fuel : Nat) : Nat → Int → Option ((List Int) × Int)
  | 0, _ => none
  | n + 1, x77 => jn (fun (c82 : Bool) => br c82 (lt (wr .i64 (x77 - 1)) fun x98 => g_sPeq_l3 K76 x45 p4 l33 fuel n x98) (K76 x77)) fun K84 => lt (decide (x45 ≤ x77)) fun c85 => br c85 (gd ((0 : Int) ≤ p4 ∧ p4 < ((List.length l33 : Nat) : Int)) <| bd (l33[Int.toNat p4]?) fun x89 => gd ((0 : Int) ≤ x77 ∧ x77 < ((List.length l33 : Nat) : Int)) <| bd (l33[Int.toNat x77]?) fun x91 => bd (g_Less fuel x89 x91) fun t92 => K84 t92) (K84 false)
def g_sPeq_l1 (K32 : (List Int) → Int → Option ((List Int) × Int)) (p4 : Int) (fuel : Nat) : Nat → (List Int) → Int → Int → Option ((List Int) × Int)
  | 0, _, _, _ => none
  | n + 1, l33, x34, x35 => jn (fun (l40 : List Int) (x41 : Int) (x42 : Int) => g_sPeq_l1 K32 p4 fuel n l40 x41 x42) fun K44 => jn (fun (x45 : Int) => jn (fun (x74 : Int) => lt (decide (x45 > x74)) fun c102 => br c102 (K32 l33 x45) (jn (fun (l103 : List Int) => lt (wr .i64 (x45 + 1)) fun x122 => lt (wr .i64 (x74 - 1)) fun x123 => K44 l103 x122 x123) fun K105 => gd ((0 : Int) ≤ x74 ∧ x74 < ((List.length l33 : Nat) : Int)) <| bd (l33[Int.toNat x74]?) fun x108 => gd ((0 : Int) ≤ x45 ∧ x45 < ((List.length l33 : Nat) : Int)) <| bd (l33[Int.toNat x45]?) fun x110 => gd ((0 : Int) ≤ x45 ∧ x45 < ((List.length l33 : Nat) : Int)) <| lt (List.set l33 (Int.toNat x45) x108) fun l112 => gd ((0 : Int) ≤ x74 ∧ x74 < ((List.length l33 : Nat) : Int)) <| lt (List.set l112 (Int.toNat x74) x110) fun l116 => K105 l116)) fun K76 => g_sPeq_l3 K76 x45 p4 l33 fuel fuel x35) fun K47 => g_sPeq_l2 K47 x35 p4 l33 fuel fuel x34
def g_sPeq (fuel : Nat) (l2 : List Int) (p4 : Int) (p5 : Int) (p6 : Int) : Option ((List Int) × Int) :=
  jn (fun (l8 : List Int) => lt (wr .i64 (p4 + 1)) fun x27 => lt (wr .i64 (p5 - 1)) fun x28 => jn (fun (l29 : List Int) (x30 : Int) => some (l29, x30)) fun K32 => g_sPeq_l1 K32 p4 fuel fuel l8 x27 x28) fun K10 => gd ((0 : Int) ≤ p6 ∧ p6 < ((List.length l2 : Nat) : Int)) <| bd (l2[Int.toNat p6]?) fun x13 => gd ((0 : Int) ≤ p4 ∧ p4 < ((List.length l2 : Nat) : Int)) <| bd (l2[Int.toNat p4]?) fun x15 => gd ((0 : Int) ≤ p4 ∧ p4 < ((List.length l2 : Nat) : Int)) <| lt (List.set l2 (Int.toNat p4) x13) fun l17 => gd ((0 : Int) ≤ p6 ∧ p6 < ((List.length l2 : Nat) : Int)) <| lt (List.set l17 (Int.toNat p6) x15) fun l21 => K10 l21
theorem g_sPeq_w (fuel : Nat) (s1 : Value) (l2 : List Int) (p4 : Int) (p5 : Int) (p6 : Int) (r : (List Int) × Int) (h : g_sPeq fuel l2 p4 p5 p6 = some r) (w0 : World) (hm : (Own fU64 22 s1 l2).holds w0) :
 Ret Tryz.prog 97 #[s1, vi p4, vi p5, vi p6] w0 (fun v w' => v = vi r.2 ∧ St (Own fU64 22 s1 l2).fp w0 w' [Own fU64 22 s1 r.1]) := by
 unfold g_sPeq at h
 refine ret_of_wpS Tryz.func97 rfl 84 rfl [(0,s1),(1,vi p4),(2,vi p5),(3,vi p6)] (by kernel_rfl) (fun G=>?_)
 have H0:=St.start1 hm
 have sf7:=Own.isSl (St.get H0 0 rfl)
 refine zsg ?_
 refine zrd 1 1 [(8,vi 0)] ?_
 refine zs ?_
 obtain ⟨K10,hK10,h⟩:=js h
 refine WP.drawI (by kernel_rfl) (by kernel_rfl) (fun w=>St (Own fU64 22 s1 l2).fp w0 w []) [13,15] (fun w=>St (Own fU64 22 s1 l2).fp w0 w [Own fU64 22 s1 l2]) (fun a w=>∃ (l8 : List Int),Y 84 [(0,s1),(1,vi p4),(2,vi p5)] [] (Own fU64 22 s1 l2).fp w0 [Own fU64 22 s1 l8] (K10 l8 = some r) a w) 16 #[F,F,F,F,F,F,F,F,F,F,F,F,F,F,F,F] (by kernel_rfl) (by kernel_rfl) ?_ ?_
 ·have H11:=St.drew H0
  obtain ⟨hg12,h⟩:=gs h
  refine WI.runS [0,1,2,3,4,5] 10 _ #[T,T,T,T,T,T,F,F,F,F,F,F,F,F,F,F] [(16,vi p6),(15,s1),(14,vi p6),(13,s1),(12,vi p4),(11,s1)] rfl (fun K=>by kernel_rfl) ?_
  refine WI.takeS 6 (va (slAt s1 1 (Int.toNat p6))) 17 rfl rfl (by kernel_rfl) (by kernel_rfl) (fun w H=>ev_index sf7 41 (.tmp 15) (.tmp 16) 22 1 8 .i64 p6 rfl (by kernel_rfl) (by kernel_rfl) (by kernel_rfl) hg12) (li':=#[T,T,T,T,T,T,T,F,F,F,F,F,F,F,F,F]) (by kernel_rfl) ?_
  obtain ⟨x13,hx13,h⟩:=bs h
  refine WI.takeT 7 (vu x13) 18 rfl rfl (by kernel_rfl) (by kernel_rfl) (by kernel_rfl) (fun w H=>ev_loadEl (F:=fU64) (St.rd H 0 rfl) (hp_no_le _) hx13 22 (.tmp 17) 0 (vu x13) rfl (by kernel_rfl) (by kernel_rfl)) (li':=#[T,T,T,T,T,T,T,T,F,F,F,F,F,F,F,F]) (by kernel_rfl) ?_
  obtain ⟨hg14,h⟩:=gs h
  refine WI.runS [8,9] 6 _ #[T,T,T,T,T,T,T,T,T,T,F,F,F,F,F,F] [(20,vi p4),(19,s1)] rfl (fun K=>by kernel_rfl) ?_
  refine WI.takeS 10 (va (slAt s1 1 (Int.toNat p4))) 21 rfl rfl (by kernel_rfl) (by kernel_rfl) (fun w H=>ev_index sf7 41 (.tmp 19) (.tmp 20) 22 1 8 .i64 p4 rfl (by kernel_rfl) (by kernel_rfl) (by kernel_rfl) hg14) (li':=#[T,T,T,T,T,T,T,T,T,T,T,F,F,F,F,F]) (by kernel_rfl) ?_
  obtain ⟨x15,hx15,h⟩:=bs h
  refine WI.takeT 11 (vu x15) 22 rfl rfl (by kernel_rfl) (by kernel_rfl) (by kernel_rfl) (fun w H=>ev_loadEl (F:=fU64) (St.rd H 0 rfl) (hp_no_le _) hx15 22 (.tmp 21) 0 (vu x15) rfl (by kernel_rfl) (by kernel_rfl)) (li':=#[T,T,T,T,T,T,T,T,T,T,T,T,F,F,F,F]) (by kernel_rfl) ?_
  obtain ⟨hg16,h⟩:=gs h
  refine WI.takeS 12 (va (slAt s1 1 (Int.toNat p4))) 23 rfl rfl (by kernel_rfl) (by kernel_rfl) (fun w H=>ev_index sf7 41 (.tmp 11) (.tmp 12) 22 1 8 .i64 p4 rfl (by kernel_rfl) (by kernel_rfl) (by kernel_rfl) hg16) (li':=#[T,T,T,T,T,T,T,T,T,T,T,T,T,F,F,F]) (by kernel_rfl) ?_
  obtain ⟨l17,hl17,h⟩:=ls h
  refine WI.one 13 (by kernel_rfl) (nod (sl H11 []) (sl H11 [0])) rfl (Op1.storeOwn H11 0 rfl (by kernel_rfl) 22 (.tmp 23) (.tmp 18) (Int.toNat p4) x13 false rfl (by kernel_rfl) (by kernel_rfl) (by kernel_rfl) (idx_lt hg16) (fun w18 H19=>?_))
  rw [← hl17] at H19
  clear H11
  refine WI.nS0 #[T,T,T,T,T,T,T,T,T,T,T,T,T,T,F,F] (by kernel_rfl) rfl ?_
  obtain ⟨hg20,h⟩:=gs h
  refine WI.takeS 14 (va (slAt s1 1 (Int.toNat p6))) 24 rfl rfl (by kernel_rfl) (by kernel_rfl) (fun w H=>ev_index sf7 41 (.tmp 13) (.tmp 14) 22 1 8 .i64 p6 rfl (by kernel_rfl) (by kernel_rfl) (by kernel_rfl) hg20) (li':=#[T,T,T,T,T,T,T,T,T,T,T,T,T,T,T,F]) (by kernel_rfl) ?_
  obtain ⟨l21,hl21,h⟩:=ls h
  refine WI.one 15 (by kernel_rfl) (nod0 (sl H19 []) 13 (by decide) (by kernel_rfl)) rfl (Op1.storeOwn H19 0 rfl (by kernel_rfl) 22 (.tmp 24) (.tmp 22) (Int.toNat p6) x15 false rfl (by kernel_rfl) (by kernel_rfl) (by kernel_rfl) (by simp only [hl17,List.length_set]; exact idx_lt hg20) (fun w22 H23=>?_))
  rw [← hl21] at H23
  clear H19
  refine WI.nS0 #[T,T,T,T,T,T,T,T,T,T,T,T,T,T,T,T] (by kernel_rfl) rfl ?_
  refine WI.done (by kernel_rfl) (nod0 (sl H23 []) 13 (by decide) (by kernel_rfl)) ?_
  exact ⟨l21,yy H23 [0] h⟩
 rintro a w24 ⟨l8,G9,rfl,H25,h⟩
 subst hK10
 refine then_n ?_
 refine zsg ?_
 obtain ⟨x27,hx27,h⟩:=ls h
 obtain ⟨x28,hx28,h⟩:=ls h
 refine zr 6 6 [(10,vi x28),(9,vi x27),(28,vi x28),(27,vi p5),(26,vi x27),(25,vi p4)] ?_ rfl (fun K=>by subst hx28 hx27; kernel_rfl)
 refine zdn ?_
 refine zs ?_
 obtain ⟨K32,hK32,h⟩:=js h
 refine WP.blockJ (fun a w=>∃ (l29 : List Int) (x30 : Int),Y 84 [(9,vi x30)] [] (Own fU64 22 s1 l2).fp w0 [Own fU64 22 s1 l29] (K32 l29 x30 = some r) a w) ?_ ?_
 ·refine WP.loop (fun n a w=>∃ (l33 : List Int) (x34 : Int) (x35 : Int),Y 84 [(0,s1),(1,vi p4),(9,vi x34),(10,vi x35)] [] (Own fU64 22 s1 l2).fp w0 [Own fU64 22 s1 l33] (g_sPeq_l1 K32 p4 fuel n l33 x34 x35 = some r) a w) fuel ⟨l8,x27,x28,yy H25 [0] h⟩ ?_
  rintro n a w37 ⟨l33,x34,x35,G36,rfl,H38,h⟩
  obtain _ | n:=n
  ·rw [g_sPeq_l1] at h; cases h
  rw [g_sPeq_l1] at h
  obtain ⟨K44,hK44,h⟩:=js h
  refine WP.blockJ (fun a w=>∃ (l40 : List Int) (x41 : Int) (x42 : Int),Y 84 [(0,s1),(1,vi p4),(9,vi x41),(10,vi x42)] [] (Own fU64 22 s1 l2).fp w0 [Own fU64 22 s1 l40] (K44 l40 x41 x42 = some r) a w) ?_ ?_
  ·refine zs ?_
   obtain ⟨K47,hK47,h⟩:=js h
   refine WP.blockJ (fun a w=>∃ (x45 : Int),Y 84 [(0,s1),(1,vi p4),(9,vi x45),(10,vi x35)] [] (Own fU64 22 s1 l2).fp w0 [Own fU64 22 s1 l33] (K47 x45 = some r) a w) ?_ ?_
   ·refine WP.loop (fun n a w=>∃ (x48 : Int),Y 84 [(0,s1),(1,vi p4),(9,vi x48),(10,vi x35)] [] (Own fU64 22 s1 l2).fp w0 [Own fU64 22 s1 l33] (g_sPeq_l2 K47 x35 p4 l33 fuel n x48 = some r) a w) fuel ⟨x34,yy H38 [0] h⟩ ?_
    rintro n a w50 ⟨x48,G49,rfl,H51,h⟩
    obtain _ | n:=n
    ·rw [g_sPeq_l2] at h; cases h
    rw [g_sPeq_l2] at h
    have sf52:=Own.isSl (St.get H51 0 rfl)
    refine zs ?_
    refine zs ?_
    obtain ⟨K55,hK55,h⟩:=js h
    refine WP.onlyN (fun a w=>∃ (c53 : Bool),Y 84 [(0,s1),(1,vi p4),(9,vi x48),(10,vi x35),(43,vb c53)] [] (Own fU64 22 s1 l2).fp w0 [Own fU64 22 s1 l33] (K55 c53 = some r) a w) ?_ ?_
    ·refine WP.quiet (by kernel_rfl) (by kernel_rfl) (by kernel_rfl) (fun w=>St (Own fU64 22 s1 l2).fp w0 w [Own fU64 22 s1 l33]) (St.drew H51) ?_
     obtain ⟨c56,e,h⟩:=ls h
     refine qe 4 4 [(32,vb c56),(31,vb c56),(30,vi x35),(29,vi x48)] ?_
     cases c56
     ·replace h:=bf h
      refine qr 11 15 [(43,vb false),(42,Z),(41,Z),(40,Z),(39,Z),(38,Z),(37,Z),(36,Z),(35,Z),(34,Z),(33,Z)] ?_
      refine qd fun w57 H58=>?_
      exact ⟨false,yy H58 [0] h⟩
     replace h:=bt h
     obtain ⟨hg59,h⟩:=gs h
     refine qr 2 6 [(34,vi p4),(33,s1)] ?_
     refine qv (va (slAt s1 1 (Int.toNat p4))) (fun w H=>lli sf52 22 1 8 .i64 p4 hg59) ?_
     obtain ⟨x60,hx60,h⟩:=bs h
     refine qv (vu x60) (fun w H=>lle fU64 (St.rd H 0 rfl) (hp_no_le _) hx60 0) ?_
     obtain ⟨hg61,h⟩:=gs h
     refine qr 2 10 [(38,vi x48),(37,s1)] ?_
     refine qv (va (slAt s1 1 (Int.toNat x48))) (fun w H=>lli sf52 22 1 8 .i64 x48 hg61) ?_
     obtain ⟨x62,hx62,h⟩:=bs h
     refine qv (vu x62) (fun w H=>lle fU64 (St.rd H 0 rfl) (hp_no_le _) hx62 0) ?_
     obtain ⟨t63,ht63,h⟩:=bs h
     refine qc (vb t63) (fun w H=>Ret.mono (g_Less_w fuel x60 x62 t63 ht63 _) fun u w1 hu=>⟨hu.1,St.call0' H hu.2⟩) ?_
     obtain ⟨c64,e,h⟩:=ls h
     refine qe 2 15 [(43,vb c64),(42,vb c64)] ?_
     refine qd fun w65 H66=>?_
     exact ⟨c64,yy H66 [0] h⟩
    rintro a w67 ⟨c53,G54,rfl,H68,h⟩
    subst hK55
    refine then_n ?_
    cases c53
    ·replace h:=bf h
     refine zF ?_
     refine WP.exit ?_
     exact then_e (then_e (inb_e (then_n ⟨x48,yy H68 [0] h⟩)))
    replace h:=bt h
    refine zTn ?_
    refine WP.block ?_
    refine zg ?_
    obtain ⟨x70,e,h⟩:=ls h
    refine ze 3 3 [(9,vi x70),(45,vi x70),(44,vi x48)] ?_
    refine zd ?_
    exact inb_n (then_n ⟨n,lS n,x70,yy H68 [0] h⟩)
   rintro a w71 ⟨x45,G46,rfl,H72,h⟩
   subst hK47
   refine then_n ?_
   refine zs ?_
   obtain ⟨K76,hK76,h⟩:=js h
   refine WP.blockJ (fun a w=>∃ (x74 : Int),Y 84 [(0,s1),(1,vi p4),(9,vi x45),(10,vi x74)] [] (Own fU64 22 s1 l2).fp w0 [Own fU64 22 s1 l33] (K76 x74 = some r) a w) ?_ ?_
   ·refine WP.loop (fun n a w=>∃ (x77 : Int),Y 84 [(0,s1),(1,vi p4),(9,vi x45),(10,vi x77)] [] (Own fU64 22 s1 l2).fp w0 [Own fU64 22 s1 l33] (g_sPeq_l3 K76 x45 p4 l33 fuel n x77 = some r) a w) fuel ⟨x35,yy H72 [0] h⟩ ?_
    rintro n a w79 ⟨x77,G78,rfl,H80,h⟩
    obtain _ | n:=n
    ·rw [g_sPeq_l3] at h; cases h
    rw [g_sPeq_l3] at h
    have sf81:=Own.isSl (St.get H80 0 rfl)
    refine zs ?_
    refine zs ?_
    obtain ⟨K84,hK84,h⟩:=js h
    refine WP.onlyN (fun a w=>∃ (c82 : Bool),Y 84 [(0,s1),(1,vi p4),(9,vi x45),(10,vi x77),(59,vb c82)] [] (Own fU64 22 s1 l2).fp w0 [Own fU64 22 s1 l33] (K84 c82 = some r) a w) ?_ ?_
    ·refine WP.quiet (by kernel_rfl) (by kernel_rfl) (by kernel_rfl) (fun w=>St (Own fU64 22 s1 l2).fp w0 w [Own fU64 22 s1 l33]) (St.drew H80) ?_
     obtain ⟨c85,e,h⟩:=ls h
     refine qe 4 4 [(49,vb c85),(48,vb c85),(47,vi x77),(46,vi x45)] ?_
     cases c85
     ·replace h:=bf h
      refine qr 10 14 [(59,vb false),(58,Z),(57,Z),(56,Z),(55,Z),(54,Z),(53,Z),(52,Z),(51,Z),(50,Z)] ?_
      refine qd fun w86 H87=>?_
      exact ⟨false,yy H87 [0] h⟩
     replace h:=bt h
     obtain ⟨hg88,h⟩:=gs h
     refine qr 2 6 [(51,vi p4),(50,s1)] ?_
     refine qv (va (slAt s1 1 (Int.toNat p4))) (fun w H=>lli sf81 22 1 8 .i64 p4 hg88) ?_
     obtain ⟨x89,hx89,h⟩:=bs h
     refine qv (vu x89) (fun w H=>lle fU64 (St.rd H 0 rfl) (hp_no_le _) hx89 0) ?_
     obtain ⟨hg90,h⟩:=gs h
     refine qr 2 10 [(55,vi x77),(54,s1)] ?_
     refine qv (va (slAt s1 1 (Int.toNat x77))) (fun w H=>lli sf81 22 1 8 .i64 x77 hg90) ?_
     obtain ⟨x91,hx91,h⟩:=bs h
     refine qv (vu x91) (fun w H=>lle fU64 (St.rd H 0 rfl) (hp_no_le _) hx91 0) ?_
     obtain ⟨t92,ht92,h⟩:=bs h
     refine qc (vb t92) (fun w H=>Ret.mono (g_Less_w fuel x89 x91 t92 ht92 _) fun u w1 hu=>⟨hu.1,St.call0' H hu.2⟩) ?_
     refine qr 1 14 [(59,vb t92)] ?_
     refine qd fun w93 H94=>?_
     exact ⟨t92,yy H94 [0] h⟩
    rintro a w95 ⟨c82,G83,rfl,H96,h⟩
    subst hK84
    refine then_n ?_
    cases c82
    ·replace h:=bf h
     refine zF ?_
     refine WP.exit ?_
     exact then_e (then_e (inb_e (then_n ⟨x77,yy H96 [0] h⟩)))
    replace h:=bt h
    refine zTn ?_
    refine WP.block ?_
    refine zg ?_
    obtain ⟨x98,e,h⟩:=ls h
    refine ze 3 3 [(10,vi x98),(61,vi x98),(60,vi x77)] ?_
    refine zd ?_
    exact inb_n (then_n ⟨n,lS n,x98,yy H96 [0] h⟩)
   rintro a w99 ⟨x74,G75,rfl,H100,h⟩
   subst hK76
   have sf101:=Own.isSl (St.get H100 0 rfl)
   refine then_n ?_
   refine zs ?_
   refine zsg ?_
   obtain ⟨c102,e,h⟩:=ls h
   refine zed 3 3 [(64,vb c102),(63,vi x74),(62,vi x45)] ?_
   cases c102
   rotate_left
   ·replace h:=bt h
    refine zT ?_
    refine WP.exit ?_
    exact then_e (inb_x (by decide) (then_e (then_e (inb_e (then_n ⟨l33,x45,yy H100 [0] h⟩)))))
   replace h:=bf h
   refine zFn ?_
   refine zs ?_
   obtain ⟨K105,hK105,h⟩:=js h
   refine WP.drawI (by kernel_rfl) (by kernel_rfl) (fun w=>St (Own fU64 22 s1 l2).fp w0 w []) [13,15] (fun w=>St (Own fU64 22 s1 l2).fp w0 w [Own fU64 22 s1 l33]) (fun a w=>∃ (l103 : List Int),Y 84 [(0,s1),(1,vi p4),(9,vi x45),(10,vi x74)] [] (Own fU64 22 s1 l2).fp w0 [Own fU64 22 s1 l103] (K105 l103 = some r) a w) 16 #[F,F,F,F,F,F,F,F,F,F,F,F,F,F,F,F] (by kernel_rfl) (by kernel_rfl) ?_ ?_
   ·have H106:=St.drew H100
    obtain ⟨hg107,h⟩:=gs h
    refine WI.runS [0,1,2,3,4,5] 10 _ #[T,T,T,T,T,T,F,F,F,F,F,F,F,F,F,F] [(70,vi x74),(69,s1),(68,vi x74),(67,s1),(66,vi x45),(65,s1)] rfl (fun K=>by kernel_rfl) ?_
    refine WI.takeS 6 (va (slAt s1 1 (Int.toNat x74))) 71 rfl rfl (by kernel_rfl) (by kernel_rfl) (fun w H=>ev_index sf101 41 (.tmp 69) (.tmp 70) 22 1 8 .i64 x74 rfl (by kernel_rfl) (by kernel_rfl) (by kernel_rfl) hg107) (li':=#[T,T,T,T,T,T,T,F,F,F,F,F,F,F,F,F]) (by kernel_rfl) ?_
    obtain ⟨x108,hx108,h⟩:=bs h
    refine WI.takeT 7 (vu x108) 72 rfl rfl (by kernel_rfl) (by kernel_rfl) (by kernel_rfl) (fun w H=>ev_loadEl (F:=fU64) (St.rd H 0 rfl) (hp_no_le _) hx108 22 (.tmp 71) 0 (vu x108) rfl (by kernel_rfl) (by kernel_rfl)) (li':=#[T,T,T,T,T,T,T,T,F,F,F,F,F,F,F,F]) (by kernel_rfl) ?_
    obtain ⟨hg109,h⟩:=gs h
    refine WI.runS [8,9] 6 _ #[T,T,T,T,T,T,T,T,T,T,F,F,F,F,F,F] [(74,vi x45),(73,s1)] rfl (fun K=>by kernel_rfl) ?_
    refine WI.takeS 10 (va (slAt s1 1 (Int.toNat x45))) 75 rfl rfl (by kernel_rfl) (by kernel_rfl) (fun w H=>ev_index sf101 41 (.tmp 73) (.tmp 74) 22 1 8 .i64 x45 rfl (by kernel_rfl) (by kernel_rfl) (by kernel_rfl) hg109) (li':=#[T,T,T,T,T,T,T,T,T,T,T,F,F,F,F,F]) (by kernel_rfl) ?_
    obtain ⟨x110,hx110,h⟩:=bs h
    refine WI.takeT 11 (vu x110) 76 rfl rfl (by kernel_rfl) (by kernel_rfl) (by kernel_rfl) (fun w H=>ev_loadEl (F:=fU64) (St.rd H 0 rfl) (hp_no_le _) hx110 22 (.tmp 75) 0 (vu x110) rfl (by kernel_rfl) (by kernel_rfl)) (li':=#[T,T,T,T,T,T,T,T,T,T,T,T,F,F,F,F]) (by kernel_rfl) ?_
    obtain ⟨hg111,h⟩:=gs h
    refine WI.takeS 12 (va (slAt s1 1 (Int.toNat x45))) 77 rfl rfl (by kernel_rfl) (by kernel_rfl) (fun w H=>ev_index sf101 41 (.tmp 65) (.tmp 66) 22 1 8 .i64 x45 rfl (by kernel_rfl) (by kernel_rfl) (by kernel_rfl) hg111) (li':=#[T,T,T,T,T,T,T,T,T,T,T,T,T,F,F,F]) (by kernel_rfl) ?_
    obtain ⟨l112,hl112,h⟩:=ls h
    refine WI.one 13 (by kernel_rfl) (nod (sl H106 []) (sl H106 [0])) rfl (Op1.storeOwn H106 0 rfl (by kernel_rfl) 22 (.tmp 77) (.tmp 72) (Int.toNat x45) x108 false rfl (by kernel_rfl) (by kernel_rfl) (by kernel_rfl) (idx_lt hg111) (fun w113 H114=>?_))
    rw [← hl112] at H114
    clear H106
    refine WI.nS0 #[T,T,T,T,T,T,T,T,T,T,T,T,T,T,F,F] (by kernel_rfl) rfl ?_
    obtain ⟨hg115,h⟩:=gs h
    refine WI.takeS 14 (va (slAt s1 1 (Int.toNat x74))) 78 rfl rfl (by kernel_rfl) (by kernel_rfl) (fun w H=>ev_index sf101 41 (.tmp 67) (.tmp 68) 22 1 8 .i64 x74 rfl (by kernel_rfl) (by kernel_rfl) (by kernel_rfl) hg115) (li':=#[T,T,T,T,T,T,T,T,T,T,T,T,T,T,T,F]) (by kernel_rfl) ?_
    obtain ⟨l116,hl116,h⟩:=ls h
    refine WI.one 15 (by kernel_rfl) (nod0 (sl H114 []) 13 (by decide) (by kernel_rfl)) rfl (Op1.storeOwn H114 0 rfl (by kernel_rfl) 22 (.tmp 78) (.tmp 76) (Int.toNat x74) x110 false rfl (by kernel_rfl) (by kernel_rfl) (by kernel_rfl) (by simp only [hl112,List.length_set]; exact idx_lt hg115) (fun w117 H118=>?_))
    rw [← hl116] at H118
    clear H114
    refine WI.nS0 #[T,T,T,T,T,T,T,T,T,T,T,T,T,T,T,T] (by kernel_rfl) rfl ?_
    refine WI.done (by kernel_rfl) (nod0 (sl H118 []) 13 (by decide) (by kernel_rfl)) ?_
    exact ⟨l116,yy H118 [0] h⟩
   rintro a w119 ⟨l103,G104,rfl,H120,h⟩
   subst hK105
   refine then_n ?_
   refine zsg ?_
   obtain ⟨x122,e,h⟩:=ls h
   refine zed 3 3 [(9,vi x122),(80,vi x122),(79,vi x45)] ?_
   refine zg ?_
   obtain ⟨x123,e,h⟩:=ls h
   refine ze 3 3 [(10,vi x123),(82,vi x123),(81,vi x74)] ?_
   refine zd ?_
   exact inb_n (then_n ⟨l103,x122,x123,yy H120 [0] h⟩)
  rintro a w124 ⟨l40,x41,x42,G43,rfl,H125,h⟩
  subst hK44
  exact then_n ⟨n,lS n,l40,x41,x42,yy H125 [0] h⟩
 rintro a w127 ⟨l29,x30,G31,rfl,H128,h⟩
 subst hK32
 refine then_n ?_
 refine zsg ?_
 refine zrd 2 2 [(8,vi x30),(83,vi x30)] ?_
 refine WP.ret ?_
 obtain rfl:=oi h
 exact post_r (vi x30) rfl (by kernel_rfl) ⟨rfl,sl H128 [0]⟩
/- slices.siftDownOrdered[uint64] -/
def g_sSif_l1 (p5 : Int) (K10 : (List Int) → Option (List Int)) (p6 : Int) (fuel : Nat) : Nat → (List Int) → Int → Option (List Int)
  | 0, _, _ => none
  | n + 1, l11, x12 => jn (fun (l17 : List Int) (x18 : Int) => g_sSif_l1 p5 K10 p6 fuel n l17 x18) fun K20 => lt (wr .i64 (2 * x12)) fun x21 => lt (wr .i64 (x21 + 1)) fun x22 => lt (decide (x22 ≥ p5)) fun c23 => br c23 (K10 l11) (jn (fun (x24 : Int) => lt (wr .i64 (p6 + x12)) fun x51 => gd ((0 : Int) ≤ x51 ∧ x51 < ((List.length l11 : Nat) : Int)) <| bd (l11[Int.toNat x51]?) fun x53 => lt (wr .i64 (p6 + x24)) fun x54 => gd ((0 : Int) ≤ x54 ∧ x54 < ((List.length l11 : Nat) : Int)) <| bd (l11[Int.toNat x54]?) fun x56 => bd (g_Less fuel x53 x56) fun t57 => lt (!t57) fun c58 => br c58 (some l11) (jn (fun (l61 : List Int) => K20 l61 x24) fun K63 => lt (wr .i64 (p6 + x12)) fun x65 => lt (wr .i64 (p6 + x24)) fun x66 => lt (wr .i64 (p6 + x24)) fun x67 => gd ((0 : Int) ≤ x67 ∧ x67 < ((List.length l11 : Nat) : Int)) <| bd (l11[Int.toNat x67]?) fun x69 => lt (wr .i64 (p6 + x12)) fun x70 => gd ((0 : Int) ≤ x70 ∧ x70 < ((List.length l11 : Nat) : Int)) <| bd (l11[Int.toNat x70]?) fun x72 => gd ((0 : Int) ≤ x65 ∧ x65 < ((List.length l11 : Nat) : Int)) <| lt (List.set l11 (Int.toNat x65) x69) fun l74 => gd ((0 : Int) ≤ x66 ∧ x66 < ((List.length l11 : Nat) : Int)) <| lt (List.set l74 (Int.toNat x66) x72) fun l78 => K63 l78)) fun K26 => jn (fun (c27 : Bool) => br c27 (lt (wr .i64 (x22 + 1)) fun x47 => K26 x47) (K26 x22)) fun K29 => lt (wr .i64 (x22 + 1)) fun x30 => lt (decide (x30 < p5)) fun c31 => br c31 (lt (wr .i64 (p6 + x22)) fun x34 => gd ((0 : Int) ≤ x34 ∧ x34 < ((List.length l11 : Nat) : Int)) <| bd (l11[Int.toNat x34]?) fun x36 => lt (wr .i64 (p6 + x22)) fun x37 => lt (wr .i64 (x37 + 1)) fun x38 => gd ((0 : Int) ≤ x38 ∧ x38 < ((List.length l11 : Nat) : Int)) <| bd (l11[Int.toNat x38]?) fun x40 => bd (g_Less fuel x36 x40) fun t41 => K29 t41) (K29 false))
def g_sSif (fuel : Nat) (l2 : List Int) (p4 : Int) (p5 : Int) (p6 : Int) : Option (List Int) :=
  jn (fun (l8 : List Int) => some l8) fun K10 => g_sSif_l1 p5 K10 p6 fuel fuel l2 p4
theorem g_sSif_w (fuel : Nat) (s1 : Value) (l2 : List Int) (p4 : Int) (p5 : Int) (p6 : Int) (r : List Int) (h : g_sSif fuel l2 p4 p5 p6 = some r) (w0 : World) (hm : (Own fU64 22 s1 l2).holds w0) :
 Ret Tryz.prog 112 #[s1, vi p4, vi p5, vi p6] w0 (fun v w' => v = .tuple #[] ∧ St (Own fU64 22 s1 l2).fp w0 w' [Own fU64 22 s1 r]) := by
 unfold g_sSif at h
 refine ret_of_wpS Tryz.func112 rfl 76 rfl [(0,s1),(1,vi p4),(2,vi p5),(3,vi p6)] (by kernel_rfl) (fun G=>?_)
 have H0:=St.start1 hm
 refine zsg ?_
 refine zrd 2 2 [(8,vi p4),(10,vi p4)] ?_
 obtain ⟨K10,hK10,h⟩:=js h
 refine WP.blockJ (fun a w=>∃ (l8 : List Int),Y 76 [] [] (Own fU64 22 s1 l2).fp w0 [Own fU64 22 s1 l8] (K10 l8 = some r) a w) ?_ ?_
 ·refine WP.loop (fun n a w=>∃ (l11 : List Int) (x12 : Int),Y 76 [(0,s1),(2,vi p5),(3,vi p6),(8,vi x12)] [] (Own fU64 22 s1 l2).fp w0 [Own fU64 22 s1 l11] (g_sSif_l1 p5 K10 p6 fuel n l11 x12 = some r) a w) fuel ⟨l2,p4,yy H0 [0] h⟩ ?_
  rintro n a w14 ⟨l11,x12,G13,rfl,H15,h⟩
  obtain _ | n:=n
  ·rw [g_sSif_l1] at h; cases h
  rw [g_sSif_l1] at h
  have sf16:=Own.isSl (St.get H15 0 rfl)
  obtain ⟨K20,hK20,h⟩:=js h
  refine WP.blockJ (fun a w=>∃ (l17 : List Int) (x18 : Int),Y 76 [(0,s1),(2,vi p5),(3,vi p6),(8,vi x18)] [] (Own fU64 22 s1 l2).fp w0 [Own fU64 22 s1 l17] (K20 l17 x18 = some r) a w) ?_ ?_
  ·refine zsg ?_
   obtain ⟨x21,hx21,h⟩:=ls h
   obtain ⟨x22,hx22,h⟩:=ls h
   refine zr 4 4 [(9,vi x22),(13,vi x22),(12,vi x21),(11,vi x12)] ?_ rfl (fun K=>by subst hx22 hx21; kernel_rfl)
   refine zdn ?_
   refine zs ?_
   refine zsg ?_
   obtain ⟨c23,e,h⟩:=ls h
   refine zed 3 3 [(16,vb c23),(15,vi p5),(14,vi x22)] ?_
   cases c23
   rotate_left
   ·replace h:=bt h
    refine zT ?_
    refine WP.exit ?_
    exact then_e (inb_x (by decide) (then_e (then_e (inb_e (then_n ⟨l11,yy H15 [0] h⟩)))))
   replace h:=bf h
   refine zFn ?_
   obtain ⟨K26,hK26,h⟩:=js h
   refine WP.seqJ (fun a w=>∃ (x24 : Int),Y 76 [(0,s1),(2,vi p5),(3,vi p6),(8,vi x12),(9,vi x24)] [] (Own fU64 22 s1 l2).fp w0 [Own fU64 22 s1 l11] (K26 x24 = some r) a w) ?_ ?_
   ·refine zs ?_
    obtain ⟨K29,hK29,h⟩:=js h
    refine WP.onlyN (fun a w=>∃ (c27 : Bool),Y 76 [(0,s1),(2,vi p5),(3,vi p6),(8,vi x12),(9,vi x22),(36,vb c27)] [] (Own fU64 22 s1 l2).fp w0 [Own fU64 22 s1 l11] (K29 c27 = some r) a w) ?_ ?_
    ·refine WP.quiet (by kernel_rfl) (by kernel_rfl) (by kernel_rfl) (fun w=>St (Own fU64 22 s1 l2).fp w0 w [Own fU64 22 s1 l11]) (St.drew H15) ?_
     obtain ⟨x30,hx30,h⟩:=ls h
     obtain ⟨c31,hc31,h⟩:=ls h
     refine qr 5 5 [(21,vb c31),(20,vb c31),(19,vi p5),(18,vi x30),(17,vi x22)] ?_ rfl (fun K=>by subst hc31 hx30; kernel_rfl)
     cases c31
     ·replace h:=bf h
      refine qr 15 20 [(36,vb false),(35,Z),(34,Z),(33,Z),(32,Z),(31,Z),(30,Z),(29,Z),(28,Z),(27,Z),(26,Z),(25,Z),(24,Z),(23,Z),(22,Z)] ?_
      refine qd fun w32 H33=>?_
      exact ⟨false,yy H33 [0] h⟩
     replace h:=bt h
     obtain ⟨x34,e,h⟩:=ls h
     obtain ⟨hg35,h⟩:=gs h
     refine qe 4 9 [(25,vi x34),(24,vi x22),(23,vi p6),(22,s1)] ?_
     refine qv (va (slAt s1 1 (Int.toNat x34))) (fun w H=>lli sf16 22 1 8 .i64 x34 hg35) ?_
     obtain ⟨x36,hx36,h⟩:=bs h
     refine qv (vu x36) (fun w H=>lle fU64 (St.rd H 0 rfl) (hp_no_le _) hx36 0) ?_
     obtain ⟨x37,hx37,h⟩:=ls h
     obtain ⟨x38,hx38,h⟩:=ls h
     obtain ⟨hg39,h⟩:=gs h
     refine qr 5 16 [(32,vi x38),(31,vi x37),(30,vi x22),(29,vi p6),(28,s1)] ?_ rfl (fun K=>by subst hx38 hx37; kernel_rfl)
     refine qv (va (slAt s1 1 (Int.toNat x38))) (fun w H=>lli sf16 22 1 8 .i64 x38 hg39) ?_
     obtain ⟨x40,hx40,h⟩:=bs h
     refine qv (vu x40) (fun w H=>lle fU64 (St.rd H 0 rfl) (hp_no_le _) hx40 0) ?_
     obtain ⟨t41,ht41,h⟩:=bs h
     refine qc (vb t41) (fun w H=>Ret.mono (g_Less_w fuel x36 x40 t41 ht41 _) fun u w1 hu=>⟨hu.1,St.call0' H hu.2⟩) ?_
     refine qr 1 20 [(36,vb t41)] ?_
     refine qd fun w42 H43=>?_
     exact ⟨t41,yy H43 [0] h⟩
    rintro a w44 ⟨c27,G28,rfl,H45,h⟩
    subst hK29
    refine then_n ?_
    cases c27
    ·replace h:=bf h
     refine zF ?_
     refine WP.skip ?_
     exact then_n ⟨x22,yy H45 [0] h⟩
    replace h:=bt h
    refine zT ?_
    refine zg ?_
    obtain ⟨x47,e,h⟩:=ls h
    refine ze 3 3 [(9,vi x47),(38,vi x47),(37,vi x22)] ?_
    refine zd ?_
    exact then_n ⟨x47,yy H45 [0] h⟩
   rintro a w48 ⟨x24,G25,rfl,H49,h⟩
   subst hK26
   have sf50:=Own.isSl (St.get H49 0 rfl)
   refine zs ?_
   refine zs ?_
   refine WP.quiet (by kernel_rfl) (by kernel_rfl) (by kernel_rfl) (fun w=>St (Own fU64 22 s1 l2).fp w0 w [Own fU64 22 s1 l11]) (St.drew H49) ?_
   obtain ⟨x51,e,h⟩:=ls h
   obtain ⟨hg52,h⟩:=gs h
   refine qe 4 4 [(42,vi x51),(41,vi x12),(40,vi p6),(39,s1)] ?_
   refine qv (va (slAt s1 1 (Int.toNat x51))) (fun w H=>lli sf50 22 1 8 .i64 x51 hg52) ?_
   obtain ⟨x53,hx53,h⟩:=bs h
   refine qv (vu x53) (fun w H=>lle fU64 (St.rd H 0 rfl) (hp_no_le _) hx53 0) ?_
   obtain ⟨x54,e,h⟩:=ls h
   obtain ⟨hg55,h⟩:=gs h
   refine qe 4 10 [(48,vi x54),(47,vi x24),(46,vi p6),(45,s1)] ?_
   refine qv (va (slAt s1 1 (Int.toNat x54))) (fun w H=>lli sf50 22 1 8 .i64 x54 hg55) ?_
   obtain ⟨x56,hx56,h⟩:=bs h
   refine qv (vu x56) (fun w H=>lle fU64 (St.rd H 0 rfl) (hp_no_le _) hx56 0) ?_
   obtain ⟨t57,ht57,h⟩:=bs h
   refine qc (vb t57) (fun w H=>Ret.mono (g_Less_w fuel x53 x56 t57 ht57 _) fun u w1 hu=>⟨hu.1,St.call0' H hu.2⟩) ?_
   obtain ⟨c58,e,h⟩:=ls h
   refine qe 1 14 [(52,vb c58)] ?_
   refine qd fun w59 H60=>?_
   refine then_n ?_
   cases c58
   rotate_left
   ·replace h:=bt h
    refine zT ?_
    refine WP.ret ?_
    obtain rfl:=oi h
    exact then_r (inb_r (then_r (then_r (inb_r (then_r (post_r (.tuple #[]) rfl (by kernel_rfl) ⟨rfl,sl H60 [0]⟩))))))
   replace h:=bf h
   refine zFn ?_
   refine zs ?_
   obtain ⟨K63,hK63,h⟩:=js h
   refine WP.drawI (by kernel_rfl) (by kernel_rfl) (fun w=>St (Own fU64 22 s1 l2).fp w0 w []) [21,23] (fun w=>St (Own fU64 22 s1 l2).fp w0 w [Own fU64 22 s1 l11]) (fun a w=>∃ (l61 : List Int),Y 76 [(0,s1),(2,vi p5),(3,vi p6),(9,vi x24)] [] (Own fU64 22 s1 l2).fp w0 [Own fU64 22 s1 l61] (K63 l61 = some r) a w) 24 #[F,F,F,F,F,F,F,F,F,F,F,F,F,F,F,F,F,F,F,F,F,F,F,F] (by kernel_rfl) (by kernel_rfl) ?_ ?_
   ·have H64:=St.drew H60
    obtain ⟨x65,hx65,h⟩:=ls h
    obtain ⟨x66,hx66,h⟩:=ls h
    obtain ⟨x67,hx67,h⟩:=ls h
    obtain ⟨hg68,h⟩:=gs h
    refine WI.runS [0,1,2,3,4,5,6,7,8,9,10,11] 12 _ #[T,T,T,T,T,T,T,T,T,T,T,T,F,F,F,F,F,F,F,F,F,F,F,F] [(64,vi x67),(63,vi x24),(62,vi p6),(61,s1),(60,vi x66),(59,vi x24),(58,vi p6),(57,s1),(56,vi x65),(55,vi x12),(54,vi p6),(53,s1)] rfl (fun K=>by subst hx67 hx66 hx65; kernel_rfl) ?_
    refine WI.takeS 12 (va (slAt s1 1 (Int.toNat x67))) 65 rfl rfl (by kernel_rfl) (by kernel_rfl) (fun w H=>ev_index sf50 41 (.tmp 61) (.tmp 64) 22 1 8 .i64 x67 rfl (by kernel_rfl) (by kernel_rfl) (by kernel_rfl) hg68) (li':=#[T,T,T,T,T,T,T,T,T,T,T,T,T,F,F,F,F,F,F,F,F,F,F,F]) (by kernel_rfl) ?_
    obtain ⟨x69,hx69,h⟩:=bs h
    refine WI.takeT 13 (vu x69) 66 rfl rfl (by kernel_rfl) (by kernel_rfl) (by kernel_rfl) (fun w H=>ev_loadEl (F:=fU64) (St.rd H 0 rfl) (hp_no_le _) hx69 22 (.tmp 65) 0 (vu x69) rfl (by kernel_rfl) (by kernel_rfl)) (li':=#[T,T,T,T,T,T,T,T,T,T,T,T,T,T,F,F,F,F,F,F,F,F,F,F]) (by kernel_rfl) ?_
    obtain ⟨x70,hx70,h⟩:=ls h
    obtain ⟨hg71,h⟩:=gs h
    refine WI.runS [14,15,16,17] 6 _ #[T,T,T,T,T,T,T,T,T,T,T,T,T,T,T,T,T,T,F,F,F,F,F,F] [(70,vi x70),(69,vi x12),(68,vi p6),(67,s1)] rfl (fun K=>by subst hx70; kernel_rfl) ?_
    refine WI.takeS 18 (va (slAt s1 1 (Int.toNat x70))) 71 rfl rfl (by kernel_rfl) (by kernel_rfl) (fun w H=>ev_index sf50 41 (.tmp 67) (.tmp 70) 22 1 8 .i64 x70 rfl (by kernel_rfl) (by kernel_rfl) (by kernel_rfl) hg71) (li':=#[T,T,T,T,T,T,T,T,T,T,T,T,T,T,T,T,T,T,T,F,F,F,F,F]) (by kernel_rfl) ?_
    obtain ⟨x72,hx72,h⟩:=bs h
    refine WI.takeT 19 (vu x72) 72 rfl rfl (by kernel_rfl) (by kernel_rfl) (by kernel_rfl) (fun w H=>ev_loadEl (F:=fU64) (St.rd H 0 rfl) (hp_no_le _) hx72 22 (.tmp 71) 0 (vu x72) rfl (by kernel_rfl) (by kernel_rfl)) (li':=#[T,T,T,T,T,T,T,T,T,T,T,T,T,T,T,T,T,T,T,T,F,F,F,F]) (by kernel_rfl) ?_
    obtain ⟨hg73,h⟩:=gs h
    refine WI.takeS 20 (va (slAt s1 1 (Int.toNat x65))) 73 rfl rfl (by kernel_rfl) (by kernel_rfl) (fun w H=>ev_index sf50 41 (.tmp 53) (.tmp 56) 22 1 8 .i64 x65 rfl (by kernel_rfl) (by kernel_rfl) (by kernel_rfl) hg73) (li':=#[T,T,T,T,T,T,T,T,T,T,T,T,T,T,T,T,T,T,T,T,T,F,F,F]) (by kernel_rfl) ?_
    obtain ⟨l74,hl74,h⟩:=ls h
    refine WI.one 21 (by kernel_rfl) (nod (sl H64 []) (sl H64 [0])) rfl (Op1.storeOwn H64 0 rfl (by kernel_rfl) 22 (.tmp 73) (.tmp 66) (Int.toNat x65) x69 false rfl (by kernel_rfl) (by kernel_rfl) (by kernel_rfl) (idx_lt hg73) (fun w75 H76=>?_))
    rw [← hl74] at H76
    clear H64
    refine WI.nS0 #[T,T,T,T,T,T,T,T,T,T,T,T,T,T,T,T,T,T,T,T,T,T,F,F] (by kernel_rfl) rfl ?_
    obtain ⟨hg77,h⟩:=gs h
    refine WI.takeS 22 (va (slAt s1 1 (Int.toNat x66))) 74 rfl rfl (by kernel_rfl) (by kernel_rfl) (fun w H=>ev_index sf50 41 (.tmp 57) (.tmp 60) 22 1 8 .i64 x66 rfl (by kernel_rfl) (by kernel_rfl) (by kernel_rfl) hg77) (li':=#[T,T,T,T,T,T,T,T,T,T,T,T,T,T,T,T,T,T,T,T,T,T,T,F]) (by kernel_rfl) ?_
    obtain ⟨l78,hl78,h⟩:=ls h
    refine WI.one 23 (by kernel_rfl) (nod0 (sl H76 []) 21 (by decide) (by kernel_rfl)) rfl (Op1.storeOwn H76 0 rfl (by kernel_rfl) 22 (.tmp 74) (.tmp 72) (Int.toNat x66) x72 false rfl (by kernel_rfl) (by kernel_rfl) (by kernel_rfl) (by simp only [hl74,List.length_set]; exact idx_lt hg77) (fun w79 H80=>?_))
    rw [← hl78] at H80
    clear H76
    refine WI.nS0 #[T,T,T,T,T,T,T,T,T,T,T,T,T,T,T,T,T,T,T,T,T,T,T,T] (by kernel_rfl) rfl ?_
    refine WI.done (by kernel_rfl) (nod0 (sl H80 []) 21 (by decide) (by kernel_rfl)) ?_
    exact ⟨l78,yy H80 [0] h⟩
   rintro a w81 ⟨l61,G62,rfl,H82,h⟩
   subst hK63
   refine then_n ?_
   refine zg ?_
   refine zr 2 2 [(8,vi x24),(75,vi x24)] ?_
   refine zd ?_
   exact inb_n (then_n ⟨l61,x24,yy H82 [0] h⟩)
  rintro a w84 ⟨l17,x18,G19,rfl,H85,h⟩
  subst hK20
  exact then_n ⟨n,lS n,l17,x18,yy H85 [0] h⟩
 rintro a w87 ⟨l8,G9,rfl,H88,h⟩
 subst hK10
 obtain rfl:=oi h
 exact post_n (.tuple #[]) rfl (by kernel_rfl) ⟨rfl,sl H88 [0]⟩
/- slices.heapSortOrdered[uint64] -/
def g_sHea_l1 (fuel : Nat) (x7 : Int) (p4 : Int) (K12 : (List Int) → Option (List Int)) : Nat → (List Int) → Int → Option (List Int)
  | 0, _, _ => none
  | n + 1, l13, x14 => lt (decide (x14 ≥ 0)) fun c19 => br c19 (bd (g_sSif fuel l13 x14 x7 p4) fun t20 => lt (wr .i64 (x14 - 1)) fun x25 => g_sHea_l1 fuel x7 p4 K12 n t20 x25) (K12 l13)
def g_sHea_l2 (fuel : Nat) (p4 : Int) (K32 : (List Int) → Option (List Int)) : Nat → (List Int) → Int → Option (List Int)
  | 0, _, _ => none
  | n + 1, l33, x34 => lt (decide (x34 ≥ 0)) fun c39 => br c39 (jn (fun (l40 : List Int) => bd (g_sSif fuel l40 0 x34 p4) fun t61 => lt (wr .i64 (x34 - 1)) fun x66 => g_sHea_l2 fuel p4 K32 n t61 x66) fun K42 => lt (wr .i64 (p4 + x34)) fun x44 => lt (wr .i64 (p4 + x34)) fun x45 => gd ((0 : Int) ≤ x45 ∧ x45 < ((List.length l33 : Nat) : Int)) <| bd (l33[Int.toNat x45]?) fun x47 => gd ((0 : Int) ≤ p4 ∧ p4 < ((List.length l33 : Nat) : Int)) <| bd (l33[Int.toNat p4]?) fun x49 => gd ((0 : Int) ≤ p4 ∧ p4 < ((List.length l33 : Nat) : Int)) <| lt (List.set l33 (Int.toNat p4) x47) fun l51 => gd ((0 : Int) ≤ x44 ∧ x44 < ((List.length l33 : Nat) : Int)) <| lt (List.set l51 (Int.toNat x44) x49) fun l55 => K42 l55) (K32 l33)
def g_sHea (fuel : Nat) (l2 : List Int) (p4 : Int) (p5 : Int) : Option (List Int) :=
  lt (wr .i64 (p5 - p4)) fun x7 => lt (wr .i64 (x7 - 1)) fun x8 => lt (wr .i64 (Int.tdiv x8 2)) fun x9 => jn (fun (l10 : List Int) => lt (wr .i64 (x7 - 1)) fun x29 => jn (fun (l30 : List Int) => some l30) fun K32 => g_sHea_l2 fuel p4 K32 fuel l10 x29) fun K12 => g_sHea_l1 fuel x7 p4 K12 fuel l2 x9
theorem g_sHea_w (fuel : Nat) (s1 : Value) (l2 : List Int) (p4 : Int) (p5 : Int) (r : List Int) (h : g_sHea fuel l2 p4 p5 = some r) (w0 : World) (hm : (Own fU64 22 s1 l2).holds w0) :
 Ret Tryz.prog 91 #[s1, vi p4, vi p5] w0 (fun v w' => v = .tuple #[] ∧ St (Own fU64 22 s1 l2).fp w0 w' [Own fU64 22 s1 r]) := by
 unfold g_sHea at h
 refine ret_of_wpS Tryz.func91 rfl 56 rfl [(0,s1),(1,vi p4),(2,vi p5)] (by kernel_rfl) (fun G=>?_)
 have H0:=St.start1 hm
 refine zsg ?_
 refine zrd 2 2 [(6,vi p4),(11,vi p4)] ?_
 refine zsg ?_
 refine zrd 1 1 [(7,vi 0)] ?_
 refine zsg ?_
 obtain ⟨x7,e,h⟩:=ls h
 refine zed 4 4 [(8,vi x7),(14,vi x7),(13,vi p4),(12,vi p5)] ?_
 refine zs ?_
 refine zsg ?_
 obtain ⟨x8,hx8,h⟩:=ls h
 obtain ⟨x9,hx9,h⟩:=ls h
 refine zr 4 4 [(9,vi x9),(17,vi x9),(16,vi x8),(15,vi x7)] ?_ rfl (fun K=>by subst hx9 hx8; kernel_rfl)
 refine zdn ?_
 obtain ⟨K12,hK12,h⟩:=js h
 refine WP.blockJ (fun a w=>∃ (l10 : List Int),Y 56 [(0,s1),(6,vi p4),(7,vi 0),(8,vi x7)] [] (Own fU64 22 s1 l2).fp w0 [Own fU64 22 s1 l10] (K12 l10 = some r) a w) ?_ ?_
 ·refine WP.loop (fun n a w=>∃ (l13 : List Int) (x14 : Int),Y 56 [(0,s1),(6,vi p4),(7,vi 0),(8,vi x7),(9,vi x14)] [] (Own fU64 22 s1 l2).fp w0 [Own fU64 22 s1 l13] (g_sHea_l1 fuel x7 p4 K12 n l13 x14 = some r) a w) fuel ⟨l2,x9,yy H0 [0] h⟩ ?_
  rintro n a w16 ⟨l13,x14,G15,rfl,H17,h⟩
  obtain _ | n:=n
  ·rw [g_sHea_l1] at h; cases h
  rw [g_sHea_l1] at h
  refine zs ?_
  refine zsg ?_
  obtain ⟨c19,e,h⟩:=ls h
  refine zed 2 2 [(19,vb c19),(18,vi x14)] ?_
  cases c19
  ·replace h:=bf h
   refine zF ?_
   refine WP.exit ?_
   exact then_e (then_e (inb_e (then_n ⟨l13,yy H17 [0] h⟩)))
  replace h:=bt h
  refine zTn ?_
  refine zs ?_
  refine WP.block ?_
  refine zg ?_
  obtain ⟨t20,ht20,h⟩:=bs h
  refine zr 4 4 [(25,vi p4),(24,vi x7),(23,vi x14),(22,s1)] ?_
  refine zo (oca (g_sSif_w fuel s1 l13 x14 x7 p4 t20 ht20 _ (St.get H17 0 rfl)) ?_)
  rintro _ w22 ⟨rfl,Hc23⟩
  have H24:=St.call1 H17 0 rfl Hc23
  clear H17 Hc23
  refine zn ?_
  refine zd ?_
  refine inb_n (then_n ?_)
  refine zg ?_
  obtain ⟨x25,e,h⟩:=ls h
  refine ze 3 3 [(9,vi x25),(21,vi x25),(20,vi x14)] ?_
  refine zd ?_
  exact then_n ⟨n,lS n,t20,x25,yy H24 [0] h⟩
 rintro a w26 ⟨l10,G11,rfl,H27,h⟩
 subst hK12
 refine then_n ?_
 refine zsg ?_
 obtain ⟨x29,e,h⟩:=ls h
 refine zed 3 3 [(10,vi x29),(28,vi x29),(27,vi x7)] ?_
 obtain ⟨K32,hK32,h⟩:=js h
 refine WP.blockJ (fun a w=>∃ (l30 : List Int),Y 56 [] [] (Own fU64 22 s1 l2).fp w0 [Own fU64 22 s1 l30] (K32 l30 = some r) a w) ?_ ?_
 ·refine WP.loop (fun n a w=>∃ (l33 : List Int) (x34 : Int),Y 56 [(0,s1),(6,vi p4),(7,vi 0),(10,vi x34)] [] (Own fU64 22 s1 l2).fp w0 [Own fU64 22 s1 l33] (g_sHea_l2 fuel p4 K32 n l33 x34 = some r) a w) fuel ⟨l10,x29,yy H27 [0] h⟩ ?_
  rintro n a w36 ⟨l33,x34,G35,rfl,H37,h⟩
  obtain _ | n:=n
  ·rw [g_sHea_l2] at h; cases h
  rw [g_sHea_l2] at h
  have sf38:=Own.isSl (St.get H37 0 rfl)
  refine zs ?_
  refine zsg ?_
  obtain ⟨c39,e,h⟩:=ls h
  refine zed 2 2 [(30,vb c39),(29,vi x34)] ?_
  cases c39
  ·replace h:=bf h
   refine zF ?_
   refine WP.exit ?_
   exact then_e (then_e (inb_e (then_n ⟨l33,yy H37 [0] h⟩)))
  replace h:=bt h
  refine zTn ?_
  refine zs ?_
  refine WP.block ?_
  refine zs ?_
  obtain ⟨K42,hK42,h⟩:=js h
  refine WP.drawI (by kernel_rfl) (by kernel_rfl) (fun w=>St (Own fU64 22 s1 l2).fp w0 w []) [17,19] (fun w=>St (Own fU64 22 s1 l2).fp w0 w [Own fU64 22 s1 l33]) (fun a w=>∃ (l40 : List Int),Y 56 [(0,s1),(6,vi p4),(7,vi 0),(10,vi x34)] [] (Own fU64 22 s1 l2).fp w0 [Own fU64 22 s1 l40] (K42 l40 = some r) a w) 20 #[F,F,F,F,F,F,F,F,F,F,F,F,F,F,F,F,F,F,F,F] (by kernel_rfl) (by kernel_rfl) ?_ ?_
  ·have H43:=St.drew H37
   obtain ⟨x44,hx44,h⟩:=ls h
   obtain ⟨x45,hx45,h⟩:=ls h
   obtain ⟨hg46,h⟩:=gs h
   refine WI.runS [0,1,2,3,4,5,6,7,8,9] 10 _ #[T,T,T,T,T,T,T,T,T,T,F,F,F,F,F,F,F,F,F,F] [(42,vi x45),(41,vi x34),(40,vi p4),(39,s1),(38,vi x44),(37,vi x34),(36,vi p4),(35,s1),(34,vi p4),(33,s1)] rfl (fun K=>by subst hx45 hx44; kernel_rfl) ?_
   refine WI.takeS 10 (va (slAt s1 1 (Int.toNat x45))) 43 rfl rfl (by kernel_rfl) (by kernel_rfl) (fun w H=>ev_index sf38 41 (.tmp 39) (.tmp 42) 22 1 8 .i64 x45 rfl (by kernel_rfl) (by kernel_rfl) (by kernel_rfl) hg46) (li':=#[T,T,T,T,T,T,T,T,T,T,T,F,F,F,F,F,F,F,F,F]) (by kernel_rfl) ?_
   obtain ⟨x47,hx47,h⟩:=bs h
   refine WI.takeT 11 (vu x47) 44 rfl rfl (by kernel_rfl) (by kernel_rfl) (by kernel_rfl) (fun w H=>ev_loadEl (F:=fU64) (St.rd H 0 rfl) (hp_no_le _) hx47 22 (.tmp 43) 0 (vu x47) rfl (by kernel_rfl) (by kernel_rfl)) (li':=#[T,T,T,T,T,T,T,T,T,T,T,T,F,F,F,F,F,F,F,F]) (by kernel_rfl) ?_
   obtain ⟨hg48,h⟩:=gs h
   refine WI.runS [12,13] 6 _ #[T,T,T,T,T,T,T,T,T,T,T,T,T,T,F,F,F,F,F,F] [(46,vi p4),(45,s1)] rfl (fun K=>by kernel_rfl) ?_
   refine WI.takeS 14 (va (slAt s1 1 (Int.toNat p4))) 47 rfl rfl (by kernel_rfl) (by kernel_rfl) (fun w H=>ev_index sf38 41 (.tmp 45) (.tmp 46) 22 1 8 .i64 p4 rfl (by kernel_rfl) (by kernel_rfl) (by kernel_rfl) hg48) (li':=#[T,T,T,T,T,T,T,T,T,T,T,T,T,T,T,F,F,F,F,F]) (by kernel_rfl) ?_
   obtain ⟨x49,hx49,h⟩:=bs h
   refine WI.takeT 15 (vu x49) 48 rfl rfl (by kernel_rfl) (by kernel_rfl) (by kernel_rfl) (fun w H=>ev_loadEl (F:=fU64) (St.rd H 0 rfl) (hp_no_le _) hx49 22 (.tmp 47) 0 (vu x49) rfl (by kernel_rfl) (by kernel_rfl)) (li':=#[T,T,T,T,T,T,T,T,T,T,T,T,T,T,T,T,F,F,F,F]) (by kernel_rfl) ?_
   obtain ⟨hg50,h⟩:=gs h
   refine WI.takeS 16 (va (slAt s1 1 (Int.toNat p4))) 49 rfl rfl (by kernel_rfl) (by kernel_rfl) (fun w H=>ev_index sf38 41 (.tmp 33) (.tmp 34) 22 1 8 .i64 p4 rfl (by kernel_rfl) (by kernel_rfl) (by kernel_rfl) hg50) (li':=#[T,T,T,T,T,T,T,T,T,T,T,T,T,T,T,T,T,F,F,F]) (by kernel_rfl) ?_
   obtain ⟨l51,hl51,h⟩:=ls h
   refine WI.one 17 (by kernel_rfl) (nod (sl H43 []) (sl H43 [0])) rfl (Op1.storeOwn H43 0 rfl (by kernel_rfl) 22 (.tmp 49) (.tmp 44) (Int.toNat p4) x47 false rfl (by kernel_rfl) (by kernel_rfl) (by kernel_rfl) (idx_lt hg50) (fun w52 H53=>?_))
   rw [← hl51] at H53
   clear H43
   refine WI.nS0 #[T,T,T,T,T,T,T,T,T,T,T,T,T,T,T,T,T,T,F,F] (by kernel_rfl) rfl ?_
   obtain ⟨hg54,h⟩:=gs h
   refine WI.takeS 18 (va (slAt s1 1 (Int.toNat x44))) 50 rfl rfl (by kernel_rfl) (by kernel_rfl) (fun w H=>ev_index sf38 41 (.tmp 35) (.tmp 38) 22 1 8 .i64 x44 rfl (by kernel_rfl) (by kernel_rfl) (by kernel_rfl) hg54) (li':=#[T,T,T,T,T,T,T,T,T,T,T,T,T,T,T,T,T,T,T,F]) (by kernel_rfl) ?_
   obtain ⟨l55,hl55,h⟩:=ls h
   refine WI.one 19 (by kernel_rfl) (nod0 (sl H53 []) 17 (by decide) (by kernel_rfl)) rfl (Op1.storeOwn H53 0 rfl (by kernel_rfl) 22 (.tmp 50) (.tmp 48) (Int.toNat x44) x49 false rfl (by kernel_rfl) (by kernel_rfl) (by kernel_rfl) (by simp only [hl51,List.length_set]; exact idx_lt hg54) (fun w56 H57=>?_))
   rw [← hl55] at H57
   clear H53
   refine WI.nS0 #[T,T,T,T,T,T,T,T,T,T,T,T,T,T,T,T,T,T,T,T] (by kernel_rfl) rfl ?_
   refine WI.done (by kernel_rfl) (nod0 (sl H57 []) 17 (by decide) (by kernel_rfl)) ?_
   exact ⟨l55,yy H57 [0] h⟩
  rintro a w58 ⟨l40,G41,rfl,H59,h⟩
  subst hK42
  refine then_n ?_
  refine zg ?_
  obtain ⟨t61,ht61,h⟩:=bs h
  refine zr 4 4 [(54,vi p4),(53,vi x34),(52,vi 0),(51,s1)] ?_
  refine zo (oca (g_sSif_w fuel s1 l40 0 x34 p4 t61 ht61 _ (St.get H59 0 rfl)) ?_)
  rintro _ w63 ⟨rfl,Hc64⟩
  have H65:=St.call1 H59 0 rfl Hc64
  clear H59 Hc64
  refine zn ?_
  refine zd ?_
  refine inb_n (then_n ?_)
  refine zg ?_
  obtain ⟨x66,e,h⟩:=ls h
  refine ze 3 3 [(10,vi x66),(32,vi x66),(31,vi x34)] ?_
  refine zd ?_
  exact then_n ⟨n,lS n,t61,x66,yy H65 [0] h⟩
 rintro a w67 ⟨l30,G31,rfl,H68,h⟩
 subst hK32
 obtain rfl:=oi h
 exact post_n (.tuple #[]) rfl (by kernel_rfl) ⟨rfl,sl H68 [0]⟩
/- slices.insertionSortOrdered[uint64] -/
def g_sIns_l2 (K23 : (List Int) → Option (List Int)) (p4 : Int) (fuel : Nat) : Nat → (List Int) → Int → Option (List Int)
  | 0, _, _ => none
  | n + 1, l24, x25 => jn (fun (c30 : Bool) => br c30 (jn (fun (l47 : List Int) => lt (wr .i64 (x25 - 1)) fun x68 => g_sIns_l2 K23 p4 fuel n l47 x68) fun K49 => lt (wr .i64 (x25 - 1)) fun x51 => lt (wr .i64 (x25 - 1)) fun x52 => gd ((0 : Int) ≤ x52 ∧ x52 < ((List.length l24 : Nat) : Int)) <| bd (l24[Int.toNat x52]?) fun x54 => gd ((0 : Int) ≤ x25 ∧ x25 < ((List.length l24 : Nat) : Int)) <| bd (l24[Int.toNat x25]?) fun x56 => gd ((0 : Int) ≤ x25 ∧ x25 < ((List.length l24 : Nat) : Int)) <| lt (List.set l24 (Int.toNat x25) x54) fun l58 => gd ((0 : Int) ≤ x51 ∧ x51 < ((List.length l24 : Nat) : Int)) <| lt (List.set l58 (Int.toNat x51) x56) fun l62 => K49 l62) (K23 l24)) fun K32 => lt (decide (x25 > p4)) fun c33 => br c33 (gd ((0 : Int) ≤ x25 ∧ x25 < ((List.length l24 : Nat) : Int)) <| bd (l24[Int.toNat x25]?) fun x37 => lt (wr .i64 (x25 - 1)) fun x38 => gd ((0 : Int) ≤ x38 ∧ x38 < ((List.length l24 : Nat) : Int)) <| bd (l24[Int.toNat x38]?) fun x40 => bd (g_Less fuel x37 x40) fun t41 => K32 t41) (K32 false)
def g_sIns_l1 (p5 : Int) (p4 : Int) (fuel : Nat) (K10 : (List Int) → Option (List Int)) : Nat → (List Int) → Int → Option (List Int)
  | 0, _, _ => none
  | n + 1, l11, x12 => lt (decide (x12 < p5)) fun c17 => br c17 (jn (fun (l18 : List Int) => lt (wr .i64 (x12 + 1)) fun x75 => g_sIns_l1 p5 p4 fuel K10 n l18 x75) fun K20 => jn (fun (l21 : List Int) => K20 l21) fun K23 => g_sIns_l2 K23 p4 fuel fuel l11 x12) (K10 l11)
def g_sIns (fuel : Nat) (l2 : List Int) (p4 : Int) (p5 : Int) : Option (List Int) :=
  lt (wr .i64 (p4 + 1)) fun x7 => jn (fun (l8 : List Int) => some l8) fun K10 => g_sIns_l1 p5 p4 fuel K10 fuel l2 x7
theorem g_sIns_w (fuel : Nat) (s1 : Value) (l2 : List Int) (p4 : Int) (p5 : Int) (r : List Int) (h : g_sIns fuel l2 p4 p5 = some r) (w0 : World) (hm : (Own fU64 22 s1 l2).holds w0) :
 Ret Tryz.prog 90 #[s1, vi p4, vi p5] w0 (fun v w' => v = .tuple #[] ∧ St (Own fU64 22 s1 l2).fp w0 w' [Own fU64 22 s1 r]) := by
 unfold g_sIns at h
 refine ret_of_wpS Tryz.func90 rfl 49 rfl [(0,s1),(1,vi p4),(2,vi p5)] (by kernel_rfl) (fun G=>?_)
 have H0:=St.start1 hm
 refine zsg ?_
 obtain ⟨x7,e,h⟩:=ls h
 refine zed 3 3 [(6,vi x7),(9,vi x7),(8,vi p4)] ?_
 obtain ⟨K10,hK10,h⟩:=js h
 refine WP.blockJ (fun a w=>∃ (l8 : List Int),Y 49 [] [] (Own fU64 22 s1 l2).fp w0 [Own fU64 22 s1 l8] (K10 l8 = some r) a w) ?_ ?_
 ·refine WP.loop (fun n a w=>∃ (l11 : List Int) (x12 : Int),Y 49 [(0,s1),(1,vi p4),(2,vi p5),(6,vi x12)] [] (Own fU64 22 s1 l2).fp w0 [Own fU64 22 s1 l11] (g_sIns_l1 p5 p4 fuel K10 n l11 x12 = some r) a w) fuel ⟨l2,x7,yy H0 [0] h⟩ ?_
  rintro n a w14 ⟨l11,x12,G13,rfl,H15,h⟩
  obtain _ | n:=n
  ·rw [g_sIns_l1] at h; cases h
  rw [g_sIns_l1] at h
  refine zs ?_
  refine zsg ?_
  obtain ⟨c17,e,h⟩:=ls h
  refine zed 3 3 [(12,vb c17),(11,vi p5),(10,vi x12)] ?_
  cases c17
  ·replace h:=bf h
   refine zF ?_
   refine WP.exit ?_
   exact then_e (then_e (inb_e (then_n ⟨l11,yy H15 [0] h⟩)))
  replace h:=bt h
  refine zTn ?_
  refine zs ?_
  obtain ⟨K20,hK20,h⟩:=js h
  refine WP.blockJ (fun a w=>∃ (l18 : List Int),Y 49 [(0,s1),(1,vi p4),(2,vi p5),(6,vi x12)] [] (Own fU64 22 s1 l2).fp w0 [Own fU64 22 s1 l18] (K20 l18 = some r) a w) ?_ ?_
  ·refine zsg ?_
   refine zrd 2 2 [(7,vi x12),(15,vi x12)] ?_
   obtain ⟨K23,hK23,h⟩:=js h
   refine WP.blockJ (fun a w=>∃ (l21 : List Int),Y 49 [(0,s1),(1,vi p4),(2,vi p5),(6,vi x12)] [] (Own fU64 22 s1 l2).fp w0 [Own fU64 22 s1 l21] (K23 l21 = some r) a w) ?_ ?_
   ·refine WP.loop (fun n a w=>∃ (l24 : List Int) (x25 : Int),Y 49 [(0,s1),(1,vi p4),(2,vi p5),(6,vi x12),(7,vi x25)] [] (Own fU64 22 s1 l2).fp w0 [Own fU64 22 s1 l24] (g_sIns_l2 K23 p4 fuel n l24 x25 = some r) a w) fuel ⟨l11,x12,yy H15 [0] h⟩ ?_
    rintro n a w27 ⟨l24,x25,G26,rfl,H28,h⟩
    obtain _ | n:=n
    ·rw [g_sIns_l2] at h; cases h
    rw [g_sIns_l2] at h
    have sf29:=Own.isSl (St.get H28 0 rfl)
    refine zs ?_
    refine zs ?_
    obtain ⟨K32,hK32,h⟩:=js h
    refine WP.onlyN (fun a w=>∃ (c30 : Bool),Y 49 [(0,s1),(1,vi p4),(2,vi p5),(6,vi x12),(7,vi x25),(30,vb c30)] [] (Own fU64 22 s1 l2).fp w0 [Own fU64 22 s1 l24] (K32 c30 = some r) a w) ?_ ?_
    ·refine WP.quiet (by kernel_rfl) (by kernel_rfl) (by kernel_rfl) (fun w=>St (Own fU64 22 s1 l2).fp w0 w [Own fU64 22 s1 l24]) (St.drew H28) ?_
     obtain ⟨c33,e,h⟩:=ls h
     refine qe 4 4 [(19,vb c33),(18,vb c33),(17,vi p4),(16,vi x25)] ?_
     cases c33
     ·replace h:=bf h
      refine qr 11 15 [(30,vb false),(29,Z),(28,Z),(27,Z),(26,Z),(25,Z),(24,Z),(23,Z),(22,Z),(21,Z),(20,Z)] ?_
      refine qd fun w34 H35=>?_
      exact ⟨false,yy H35 [0] h⟩
     replace h:=bt h
     obtain ⟨hg36,h⟩:=gs h
     refine qr 2 6 [(21,vi x25),(20,s1)] ?_
     refine qv (va (slAt s1 1 (Int.toNat x25))) (fun w H=>lli sf29 22 1 8 .i64 x25 hg36) ?_
     obtain ⟨x37,hx37,h⟩:=bs h
     refine qv (vu x37) (fun w H=>lle fU64 (St.rd H 0 rfl) (hp_no_le _) hx37 0) ?_
     obtain ⟨x38,e,h⟩:=ls h
     obtain ⟨hg39,h⟩:=gs h
     refine qe 3 11 [(26,vi x38),(25,vi x25),(24,s1)] ?_
     refine qv (va (slAt s1 1 (Int.toNat x38))) (fun w H=>lli sf29 22 1 8 .i64 x38 hg39) ?_
     obtain ⟨x40,hx40,h⟩:=bs h
     refine qv (vu x40) (fun w H=>lle fU64 (St.rd H 0 rfl) (hp_no_le _) hx40 0) ?_
     obtain ⟨t41,ht41,h⟩:=bs h
     refine qc (vb t41) (fun w H=>Ret.mono (g_Less_w fuel x37 x40 t41 ht41 _) fun u w1 hu=>⟨hu.1,St.call0' H hu.2⟩) ?_
     refine qr 1 15 [(30,vb t41)] ?_
     refine qd fun w42 H43=>?_
     exact ⟨t41,yy H43 [0] h⟩
    rintro a w44 ⟨c30,G31,rfl,H45,h⟩
    subst hK32
    have sf46:=Own.isSl (St.get H45 0 rfl)
    refine then_n ?_
    cases c30
    ·replace h:=bf h
     refine zF ?_
     refine WP.exit ?_
     exact then_e (then_e (inb_e (then_n ⟨l24,yy H45 [0] h⟩)))
    replace h:=bt h
    refine zTn ?_
    refine zs ?_
    refine WP.block ?_
    obtain ⟨K49,hK49,h⟩:=js h
    refine WP.drawI (by kernel_rfl) (by kernel_rfl) (fun w=>St (Own fU64 22 s1 l2).fp w0 w []) [15,17] (fun w=>St (Own fU64 22 s1 l2).fp w0 w [Own fU64 22 s1 l24]) (fun a w=>∃ (l47 : List Int),Y 49 [(0,s1),(1,vi p4),(2,vi p5),(6,vi x12),(7,vi x25)] [] (Own fU64 22 s1 l2).fp w0 [Own fU64 22 s1 l47] (K49 l47 = some r) a w) 18 #[F,F,F,F,F,F,F,F,F,F,F,F,F,F,F,F,F,F] (by kernel_rfl) (by kernel_rfl) ?_ ?_
    ·have H50:=St.drew H45
     obtain ⟨x51,hx51,h⟩:=ls h
     obtain ⟨x52,hx52,h⟩:=ls h
     obtain ⟨hg53,h⟩:=gs h
     refine WI.runS [0,1,2,3,4,5,6,7] 10 _ #[T,T,T,T,T,T,T,T,F,F,F,F,F,F,F,F,F,F] [(40,vi x52),(39,vi x25),(38,s1),(37,vi x51),(36,vi x25),(35,s1),(34,vi x25),(33,s1)] rfl (fun K=>by subst hx52 hx51; kernel_rfl) ?_
     refine WI.takeS 8 (va (slAt s1 1 (Int.toNat x52))) 41 rfl rfl (by kernel_rfl) (by kernel_rfl) (fun w H=>ev_index sf46 41 (.tmp 38) (.tmp 40) 22 1 8 .i64 x52 rfl (by kernel_rfl) (by kernel_rfl) (by kernel_rfl) hg53) (li':=#[T,T,T,T,T,T,T,T,T,F,F,F,F,F,F,F,F,F]) (by kernel_rfl) ?_
     obtain ⟨x54,hx54,h⟩:=bs h
     refine WI.takeT 9 (vu x54) 42 rfl rfl (by kernel_rfl) (by kernel_rfl) (by kernel_rfl) (fun w H=>ev_loadEl (F:=fU64) (St.rd H 0 rfl) (hp_no_le _) hx54 22 (.tmp 41) 0 (vu x54) rfl (by kernel_rfl) (by kernel_rfl)) (li':=#[T,T,T,T,T,T,T,T,T,T,F,F,F,F,F,F,F,F]) (by kernel_rfl) ?_
     obtain ⟨hg55,h⟩:=gs h
     refine WI.runS [10,11] 6 _ #[T,T,T,T,T,T,T,T,T,T,T,T,F,F,F,F,F,F] [(44,vi x25),(43,s1)] rfl (fun K=>by kernel_rfl) ?_
     refine WI.takeS 12 (va (slAt s1 1 (Int.toNat x25))) 45 rfl rfl (by kernel_rfl) (by kernel_rfl) (fun w H=>ev_index sf46 41 (.tmp 43) (.tmp 44) 22 1 8 .i64 x25 rfl (by kernel_rfl) (by kernel_rfl) (by kernel_rfl) hg55) (li':=#[T,T,T,T,T,T,T,T,T,T,T,T,T,F,F,F,F,F]) (by kernel_rfl) ?_
     obtain ⟨x56,hx56,h⟩:=bs h
     refine WI.takeT 13 (vu x56) 46 rfl rfl (by kernel_rfl) (by kernel_rfl) (by kernel_rfl) (fun w H=>ev_loadEl (F:=fU64) (St.rd H 0 rfl) (hp_no_le _) hx56 22 (.tmp 45) 0 (vu x56) rfl (by kernel_rfl) (by kernel_rfl)) (li':=#[T,T,T,T,T,T,T,T,T,T,T,T,T,T,F,F,F,F]) (by kernel_rfl) ?_
     obtain ⟨hg57,h⟩:=gs h
     refine WI.takeS 14 (va (slAt s1 1 (Int.toNat x25))) 47 rfl rfl (by kernel_rfl) (by kernel_rfl) (fun w H=>ev_index sf46 41 (.tmp 33) (.tmp 34) 22 1 8 .i64 x25 rfl (by kernel_rfl) (by kernel_rfl) (by kernel_rfl) hg57) (li':=#[T,T,T,T,T,T,T,T,T,T,T,T,T,T,T,F,F,F]) (by kernel_rfl) ?_
     obtain ⟨l58,hl58,h⟩:=ls h
     refine WI.one 15 (by kernel_rfl) (nod (sl H50 []) (sl H50 [0])) rfl (Op1.storeOwn H50 0 rfl (by kernel_rfl) 22 (.tmp 47) (.tmp 42) (Int.toNat x25) x54 false rfl (by kernel_rfl) (by kernel_rfl) (by kernel_rfl) (idx_lt hg57) (fun w59 H60=>?_))
     rw [← hl58] at H60
     clear H50
     refine WI.nS0 #[T,T,T,T,T,T,T,T,T,T,T,T,T,T,T,T,F,F] (by kernel_rfl) rfl ?_
     obtain ⟨hg61,h⟩:=gs h
     refine WI.takeS 16 (va (slAt s1 1 (Int.toNat x51))) 48 rfl rfl (by kernel_rfl) (by kernel_rfl) (fun w H=>ev_index sf46 41 (.tmp 35) (.tmp 37) 22 1 8 .i64 x51 rfl (by kernel_rfl) (by kernel_rfl) (by kernel_rfl) hg61) (li':=#[T,T,T,T,T,T,T,T,T,T,T,T,T,T,T,T,T,F]) (by kernel_rfl) ?_
     obtain ⟨l62,hl62,h⟩:=ls h
     refine WI.one 17 (by kernel_rfl) (nod0 (sl H60 []) 15 (by decide) (by kernel_rfl)) rfl (Op1.storeOwn H60 0 rfl (by kernel_rfl) 22 (.tmp 48) (.tmp 46) (Int.toNat x51) x56 false rfl (by kernel_rfl) (by kernel_rfl) (by kernel_rfl) (by simp only [hl58,List.length_set]; exact idx_lt hg61) (fun w63 H64=>?_))
     rw [← hl62] at H64
     clear H60
     refine WI.nS0 #[T,T,T,T,T,T,T,T,T,T,T,T,T,T,T,T,T,T] (by kernel_rfl) rfl ?_
     refine WI.done (by kernel_rfl) (nod0 (sl H64 []) 15 (by decide) (by kernel_rfl)) ?_
     exact ⟨l62,yy H64 [0] h⟩
    rintro a w65 ⟨l47,G48,rfl,H66,h⟩
    subst hK49
    refine inb_n (then_n ?_)
    refine zg ?_
    obtain ⟨x68,e,h⟩:=ls h
    refine ze 3 3 [(7,vi x68),(32,vi x68),(31,vi x25)] ?_
    refine zd ?_
    exact then_n ⟨n,lS n,l47,x68,yy H66 [0] h⟩
   rintro a w69 ⟨l21,G22,rfl,H70,h⟩
   subst hK23
   exact inb_n (then_n ⟨l21,yy H70 [0] h⟩)
  rintro a w72 ⟨l18,G19,rfl,H73,h⟩
  subst hK20
  refine then_n ?_
  refine zg ?_
  obtain ⟨x75,e,h⟩:=ls h
  refine ze 3 3 [(6,vi x75),(14,vi x75),(13,vi x12)] ?_
  refine zd ?_
  exact then_n ⟨n,lS n,l18,x75,yy H73 [0] h⟩
 rintro a w76 ⟨l8,G9,rfl,H77,h⟩
 subst hK10
 obtain rfl:=oi h
 exact post_n (.tuple #[]) rfl (by kernel_rfl) ⟨rfl,sl H77 [0]⟩
/- slices.nextPowerOfTwo -/
def g_sNxt (fuel : Nat) (p1 : Int) : Option Int :=
  lt (wr .u64 p1) fun x2 => bd (g_math_bits_Len fuel x2) fun t3 => gd ((0 : Int) ≤ t3) <| lt (ishl .u64 1 t3) fun x8 => some x8
theorem g_sNxt_w (fuel : Nat) (p1 : Int) (r : Int) (h : g_sNxt fuel p1 = some r) (w0 : World) :
 Ret Tryz.prog 113 #[vi p1] w0 (fun v w' => v = vu r ∧ St no w0 w' []) := by
 unfold g_sNxt at h
 refine ret_of_wpS Tryz.func113 rfl 7 rfl [(0,vi p1)] (by kernel_rfl) (fun G=>?_)
 have H0:=St.start w0
 refine zsg ?_
 refine zrd 1 1 [(2,vu 0)] ?_
 refine zsg ?_
 obtain ⟨x2,e,h⟩:=ls h
 obtain ⟨t3,ht3,h⟩:=bs h
 refine ze 2 2 [(4,vu x2),(3,vi p1)] ?_
 refine zo (oca (g_math_bits_Len_w fuel x2 t3 ht3 _) ?_)
 rintro _ w4 ⟨rfl,Hc5⟩
 have H6:=St.call0' H0 Hc5
 clear Hc5
 obtain ⟨hg7,h⟩:=gs h
 obtain ⟨x8,hx8,h⟩:=ls h
 refine zn ?_
 refine WPI.valueS (vu x8) 6 rfl rfl (by kernel_rfl) (Eq.trans (ev_shl .u64 .i64 1 t3 115 3 (.const (vu 1)) (.tmp 5) rfl (by kernel_rfl) (by kernel_rfl) hg7) (by rw [← hx8])) ?_
 refine zrd 1 5 [(2,vu x8)] ?_
 refine WP.ret ?_
 obtain rfl:=oi h
 exact post_r (vu x8) rfl (by kernel_rfl) ⟨rfl,sl H6 []⟩
/- (*slices.xorshift).Next -/
def g_sXor (fuel : Nat) (p1 : Int) : Option (Int × Int) :=
  jn (fun (x3 : Int) => jn (fun (x13 : Int) => jn (fun (x23 : Int) => some (x23, x23)) fun K25 => lt (ishl .u64 x13 17) fun x27 => lt (ibXor .u64 x13 x27) fun x28 => K25 x28) fun K15 => lt (ishr .u64 x3 7) fun x17 => lt (ibXor .u64 x3 x17) fun x18 => K15 x18) fun K5 => lt (ishl .u64 p1 13) fun x7 => lt (ibXor .u64 p1 x7) fun x8 => K5 x8
theorem g_sXor_w (fuel : Nat) (b2 : Nat) (p1 : Int) (r : Int × Int) (h : g_sXor fuel p1 = some r) (w0 : World) (hm : (Box b2 #[vu p1] 150).holds w0) :
 Ret Tryz.prog 114 #[vp b2 0] w0 (fun v w' => v = vu r.2 ∧ St (Box b2 #[vu p1] 150).fp w0 w' [Box b2 #[vu r.1] 150]) := by
 unfold g_sXor at h
 refine ret_of_wpS Tryz.func114 rfl 33 rfl [(0,vp b2 0)] (by kernel_rfl) (fun G=>?_)
 have H0:=St.start1 hm
 refine zsg ?_
 refine zrd 1 1 [(2,vu 0)] ?_
 refine zs ?_
 obtain ⟨K5,hK5,h⟩:=js h
 refine WP.drawI (by kernel_rfl) (by kernel_rfl) (fun w=>St (Box b2 #[vu p1] 150).fp w0 w []) [9] (fun w=>St (Box b2 #[vu p1] 150).fp w0 w [Box b2 #[vu p1] 150]) (fun a w=>∃ (x3 : Int),Y 33 [(0,vp b2 0)] [] (Box b2 #[vu p1] 150).fp w0 [Box b2 #[vu x3] 150] (K5 x3 = some r) a w) 10 #[F,F,F,F,F,F,F,F,F,F] (by kernel_rfl) (by kernel_rfl) ?_ ?_
 ·have H6:=St.drew H0
  refine WI.runS [0,1] 8 _ #[T,T,F,F,F,F,F,F,F,F] [(4,vp b2 0),(3,vp b2 0)] rfl (fun K=>by kernel_rfl) ?_
  refine WI.takeT 2 (vu p1) 5 rfl rfl (by kernel_rfl) (by kernel_rfl) (by kernel_rfl) (fun w H=>ev_loadBox H 0 rfl 150 (.tmp 4) 0 (vu p1) rfl (by kernel_rfl) (by kernel_rfl)) (li':=#[T,T,T,F,F,F,F,F,F,F]) (by kernel_rfl) ?_
  refine WI.runS [3,4] 5 _ #[T,T,T,T,T,F,F,F,F,F] [(7,vp b2 0),(6,vp b2 0)] rfl (fun K=>by kernel_rfl) ?_
  refine WI.takeT 5 (vu p1) 8 rfl rfl (by kernel_rfl) (by kernel_rfl) (by kernel_rfl) (fun w H=>ev_loadBox H 0 rfl 150 (.tmp 7) 0 (vu p1) rfl (by kernel_rfl) (by kernel_rfl)) (li':=#[T,T,T,T,T,T,F,F,F,F]) (by kernel_rfl) ?_
  obtain ⟨x7,hx7,h⟩:=ls h
  obtain ⟨x8,hx8,h⟩:=ls h
  refine WI.runS [6,7,8] 1 _ #[T,T,T,T,T,T,T,T,T,F] [(11,vp b2 0),(10,vu x8),(9,vu x7)] rfl (fun K=>by subst hx8 hx7; kernel_rfl) ?_
  refine WI.one 9 (by kernel_rfl) (nod (sl H6 []) (sl H6 [0])) rfl (Op1.storeBox H6 0 rfl (by kernel_rfl) 150 (.tmp 11) (.tmp 10) 0 (vu x8) #[vu x8] false rfl (by kernel_rfl) (by kernel_rfl) (by kernel_rfl) (by kernel_rfl) (by kernel_rfl) (flat_one1 fU64 x8) (fun w9 H10=>?_))
  clear H6
  refine WI.nS0 #[T,T,T,T,T,T,T,T,T,T] (by kernel_rfl) rfl ?_
  refine WI.done (by kernel_rfl) (nod0 (sl H10 []) 9 (by decide) (by kernel_rfl)) ?_
  exact ⟨x8,yy H10 [0] h⟩
 rintro a w11 ⟨x3,G4,rfl,H12,h⟩
 subst hK5
 refine then_n ?_
 refine zs ?_
 obtain ⟨K15,hK15,h⟩:=js h
 refine WP.drawI (by kernel_rfl) (by kernel_rfl) (fun w=>St (Box b2 #[vu p1] 150).fp w0 w []) [9] (fun w=>St (Box b2 #[vu p1] 150).fp w0 w [Box b2 #[vu x3] 150]) (fun a w=>∃ (x13 : Int),Y 33 [(0,vp b2 0)] [] (Box b2 #[vu p1] 150).fp w0 [Box b2 #[vu x13] 150] (K15 x13 = some r) a w) 10 #[F,F,F,F,F,F,F,F,F,F] (by kernel_rfl) (by kernel_rfl) ?_ ?_
 ·have H16:=St.drew H12
  refine WI.runS [0,1] 8 _ #[T,T,F,F,F,F,F,F,F,F] [(13,vp b2 0),(12,vp b2 0)] rfl (fun K=>by kernel_rfl) ?_
  refine WI.takeT 2 (vu x3) 14 rfl rfl (by kernel_rfl) (by kernel_rfl) (by kernel_rfl) (fun w H=>ev_loadBox H 0 rfl 150 (.tmp 13) 0 (vu x3) rfl (by kernel_rfl) (by kernel_rfl)) (li':=#[T,T,T,F,F,F,F,F,F,F]) (by kernel_rfl) ?_
  refine WI.runS [3,4] 5 _ #[T,T,T,T,T,F,F,F,F,F] [(16,vp b2 0),(15,vp b2 0)] rfl (fun K=>by kernel_rfl) ?_
  refine WI.takeT 5 (vu x3) 17 rfl rfl (by kernel_rfl) (by kernel_rfl) (by kernel_rfl) (fun w H=>ev_loadBox H 0 rfl 150 (.tmp 16) 0 (vu x3) rfl (by kernel_rfl) (by kernel_rfl)) (li':=#[T,T,T,T,T,T,F,F,F,F]) (by kernel_rfl) ?_
  obtain ⟨x17,hx17,h⟩:=ls h
  obtain ⟨x18,hx18,h⟩:=ls h
  refine WI.runS [6,7,8] 1 _ #[T,T,T,T,T,T,T,T,T,F] [(20,vp b2 0),(19,vu x18),(18,vu x17)] rfl (fun K=>by subst hx18 hx17; kernel_rfl) ?_
  refine WI.one 9 (by kernel_rfl) (nod (sl H16 []) (sl H16 [0])) rfl (Op1.storeBox H16 0 rfl (by kernel_rfl) 150 (.tmp 20) (.tmp 19) 0 (vu x18) #[vu x18] false rfl (by kernel_rfl) (by kernel_rfl) (by kernel_rfl) (by kernel_rfl) (by kernel_rfl) (flat_one1 fU64 x18) (fun w19 H20=>?_))
  clear H16
  refine WI.nS0 #[T,T,T,T,T,T,T,T,T,T] (by kernel_rfl) rfl ?_
  refine WI.done (by kernel_rfl) (nod0 (sl H20 []) 9 (by decide) (by kernel_rfl)) ?_
  exact ⟨x18,yy H20 [0] h⟩
 rintro a w21 ⟨x13,G14,rfl,H22,h⟩
 subst hK15
 refine then_n ?_
 refine zs ?_
 obtain ⟨K25,hK25,h⟩:=js h
 refine WP.drawI (by kernel_rfl) (by kernel_rfl) (fun w=>St (Box b2 #[vu p1] 150).fp w0 w []) [9] (fun w=>St (Box b2 #[vu p1] 150).fp w0 w [Box b2 #[vu x13] 150]) (fun a w=>∃ (x23 : Int),Y 33 [(0,vp b2 0)] [] (Box b2 #[vu p1] 150).fp w0 [Box b2 #[vu x23] 150] (K25 x23 = some r) a w) 10 #[F,F,F,F,F,F,F,F,F,F] (by kernel_rfl) (by kernel_rfl) ?_ ?_
 ·have H26:=St.drew H22
  refine WI.runS [0,1] 8 _ #[T,T,F,F,F,F,F,F,F,F] [(22,vp b2 0),(21,vp b2 0)] rfl (fun K=>by kernel_rfl) ?_
  refine WI.takeT 2 (vu x13) 23 rfl rfl (by kernel_rfl) (by kernel_rfl) (by kernel_rfl) (fun w H=>ev_loadBox H 0 rfl 150 (.tmp 22) 0 (vu x13) rfl (by kernel_rfl) (by kernel_rfl)) (li':=#[T,T,T,F,F,F,F,F,F,F]) (by kernel_rfl) ?_
  refine WI.runS [3,4] 5 _ #[T,T,T,T,T,F,F,F,F,F] [(25,vp b2 0),(24,vp b2 0)] rfl (fun K=>by kernel_rfl) ?_
  refine WI.takeT 5 (vu x13) 26 rfl rfl (by kernel_rfl) (by kernel_rfl) (by kernel_rfl) (fun w H=>ev_loadBox H 0 rfl 150 (.tmp 25) 0 (vu x13) rfl (by kernel_rfl) (by kernel_rfl)) (li':=#[T,T,T,T,T,T,F,F,F,F]) (by kernel_rfl) ?_
  obtain ⟨x27,hx27,h⟩:=ls h
  obtain ⟨x28,hx28,h⟩:=ls h
  refine WI.runS [6,7,8] 1 _ #[T,T,T,T,T,T,T,T,T,F] [(29,vp b2 0),(28,vu x28),(27,vu x27)] rfl (fun K=>by subst hx28 hx27; kernel_rfl) ?_
  refine WI.one 9 (by kernel_rfl) (nod (sl H26 []) (sl H26 [0])) rfl (Op1.storeBox H26 0 rfl (by kernel_rfl) 150 (.tmp 29) (.tmp 28) 0 (vu x28) #[vu x28] false rfl (by kernel_rfl) (by kernel_rfl) (by kernel_rfl) (by kernel_rfl) (by kernel_rfl) (flat_one1 fU64 x28) (fun w29 H30=>?_))
  clear H26
  refine WI.nS0 #[T,T,T,T,T,T,T,T,T,T] (by kernel_rfl) rfl ?_
  refine WI.done (by kernel_rfl) (nod0 (sl H30 []) 9 (by decide) (by kernel_rfl)) ?_
  exact ⟨x28,yy H30 [0] h⟩
 rintro a w31 ⟨x23,G24,rfl,H32,h⟩
 subst hK25
 refine then_n ?_
 refine zsg ?_
 refine zr 2 2 [(31,vp b2 0),(30,vp b2 0)] ?_
 refine zv (vu x23) (llb H32 0 0) ?_
 refine zrd 1 4 [(2,vu x23)] ?_
 refine WP.ret ?_
 obtain rfl:=oi h
 exact post_r (vu x23) rfl (by kernel_rfl) ⟨rfl,sl H32 [0]⟩
/- slices.breakPatternsOrdered[uint64] -/
def g_sBrk_l1 (x7 : Int) (p4 : Int) (fuel : Nat) (t16 : Int) (K27 : Int → (List Int) → Option (List Int)) : Nat → Int → (List Int) → Int → Option (List Int)
  | 0, _, _, _ => none
  | n + 1, x28, l29, x30 => lt (wr .i64 (Int.tdiv x7 4)) fun x35 => lt (wr .i64 (x35 * 2)) fun x36 => lt (wr .i64 (p4 + x36)) fun x37 => lt (wr .i64 (x37 + 1)) fun x38 => lt (decide (x30 ≤ x38)) fun c39 => br c39 (jn (fun (x40 : Int) (l41 : List Int) => lt (wr .i64 (x30 + 1)) fun x91 => g_sBrk_l1 x7 p4 fuel t16 K27 n x40 l41 x91) fun K43 => jn (fun (x44 : Int) (l45 : List Int) => K43 x44 l45) fun K47 => bd (g_sXor fuel x28) fun t48 => lt (wr .u64 (t16 - 1)) fun x53 => lt (ibAnd .u64 t48.2 x53) fun x54 => lt (wr .i64 x54) fun x55 => jn (fun (x56 : Int) => jn (fun (l64 : List Int) => K47 t48.1 l64) fun K66 => lt (wr .i64 (p4 + x56)) fun x68 => lt (wr .i64 (p4 + x56)) fun x69 => gd ((0 : Int) ≤ x69 ∧ x69 < ((List.length l29 : Nat) : Int)) <| bd (l29[Int.toNat x69]?) fun x71 => gd ((0 : Int) ≤ x30 ∧ x30 < ((List.length l29 : Nat) : Int)) <| bd (l29[Int.toNat x30]?) fun x73 => gd ((0 : Int) ≤ x30 ∧ x30 < ((List.length l29 : Nat) : Int)) <| lt (List.set l29 (Int.toNat x30) x71) fun l75 => gd ((0 : Int) ≤ x68 ∧ x68 < ((List.length l29 : Nat) : Int)) <| lt (List.set l75 (Int.toNat x68) x73) fun l79 => K66 l79) fun K58 => lt (decide (x55 ≥ x7)) fun c59 => br c59 (lt (wr .i64 (x55 - x7)) fun x60 => K58 x60) (K58 x55)) (K27 x28 l29)
def g_sBrk (fuel : Nat) (l2 : List Int) (p4 : Int) (p5 : Int) : Option (List Int) :=
  lt (wr .i64 (p5 - p4)) fun x7 => lt (decide (x7 ≥ 8)) fun c8 => br c8 (lt (wr .u64 x7) fun x9 => bd (g_sNxt fuel x7) fun t16 => lt (wr .i64 (Int.tdiv x7 4)) fun x20 => lt (wr .i64 (x20 * 2)) fun x21 => lt (wr .i64 (p4 + x21)) fun x22 => lt (wr .i64 (x22 - 1)) fun x23 => jn (fun (x24 : Int) (l25 : List Int) => some l25) fun K27 => g_sBrk_l1 x7 p4 fuel t16 K27 fuel x9 l2 x23) (some l2)
theorem g_sBrk_w (fuel : Nat) (s1 : Value) (l2 : List Int) (p4 : Int) (p5 : Int) (r : List Int) (h : g_sBrk fuel l2 p4 p5 = some r) (w0 : World) (hm : (Own fU64 22 s1 l2).holds w0) :
 Ret Tryz.prog 92 #[s1, vi p4, vi p5] w0 (fun v w' => v = .tuple #[] ∧ St (Own fU64 22 s1 l2).fp w0 w' [Own fU64 22 s1 r]) := by
 unfold g_sBrk at h
 refine ret_of_wpS Tryz.func92 rfl 65 rfl [(0,s1),(1,vi p4),(2,vi p5)] (by kernel_rfl) (fun G=>?_)
 have H0:=St.start1 hm
 refine zsg ?_
 obtain ⟨x7,e,h⟩:=ls h
 refine zed 4 4 [(6,vi x7),(13,vi x7),(12,vi p4),(11,vi p5)] ?_
 refine zsg ?_
 obtain ⟨c8,e,h⟩:=ls h
 refine zed 2 2 [(15,vb c8),(14,vi x7)] ?_
 cases c8
 ·replace h:=bf h
  refine zF ?_
  refine WP.skip ?_
  obtain rfl:=oi h
  exact post_n (.tuple #[]) rfl (by kernel_rfl) ⟨rfl,sl H0 [0]⟩
 replace h:=bt h
 refine zT ?_
 refine zsg ?_
 obtain ⟨x9,e,h⟩:=ls h
 refine ze 2 2 [(17,vu x9),(16,vi x7)] ?_
 refine zo (oal H0 #[vu 0] 150 (fun b10 w12 H13=>?_))
 refine zn ?_
 refine zo (osb H13 0 0 (vu x9) #[vu x9] false (flat_one1 fU64 x9) (fun w14 H15=>?_))
 clear H13
 refine z0 ?_
 refine zdn ?_
 refine zsg ?_
 obtain ⟨t16,ht16,h⟩:=bs h
 refine zr 1 1 [(18,vi x7)] ?_
 refine zo (oca (g_sNxt_w fuel x7 t16 ht16 _) ?_)
 rintro _ w17 ⟨rfl,Hc18⟩
 have H19:=St.call0' H15 Hc18
 clear H15 Hc18
 refine zn ?_
 refine zrd 1 3 [(8,vu t16)] ?_
 refine zsg ?_
 obtain ⟨x20,hx20,h⟩:=ls h
 obtain ⟨x21,hx21,h⟩:=ls h
 obtain ⟨x22,hx22,h⟩:=ls h
 obtain ⟨x23,hx23,h⟩:=ls h
 refine zr 7 7 [(9,vi x23),(25,vi x23),(24,vi x22),(23,vi x21),(22,vi x20),(21,vi x7),(20,vi p4)] ?_ rfl (fun K=>by subst hx23 hx22 hx21 hx20; kernel_rfl)
 refine zdn ?_
 obtain ⟨K27,hK27,h⟩:=js h
 refine WP.blockJ (fun a w=>∃ (x24 : Int) (l25 : List Int),Y 65 [] [] (Own fU64 22 s1 l2).fp w0 [Box b10 #[vu x24] 150,Own fU64 22 s1 l25] (K27 x24 l25 = some r) a w) ?_ ?_
 ·refine WP.loop (fun n a w=>∃ (x28 : Int) (l29 : List Int) (x30 : Int),Y 65 [(0,s1),(1,vi p4),(6,vi x7),(7,vp b10 0),(8,vu t16),(9,vi x30)] [] (Own fU64 22 s1 l2).fp w0 [Box b10 #[vu x28] 150,Own fU64 22 s1 l29] (g_sBrk_l1 x7 p4 fuel t16 K27 n x28 l29 x30 = some r) a w) fuel ⟨x9,l2,x23,yy H19 [0,1] h⟩ ?_
  rintro n a w32 ⟨x28,l29,x30,G31,rfl,H33,h⟩
  obtain _ | n:=n
  ·rw [g_sBrk_l1] at h; cases h
  rw [g_sBrk_l1] at h
  refine zs ?_
  refine zsg ?_
  obtain ⟨x35,hx35,h⟩:=ls h
  obtain ⟨x36,hx36,h⟩:=ls h
  obtain ⟨x37,hx37,h⟩:=ls h
  obtain ⟨x38,hx38,h⟩:=ls h
  obtain ⟨c39,hc39,h⟩:=ls h
  refine zr 8 8 [(33,vb c39),(32,vi x38),(31,vi x37),(30,vi x36),(29,vi x35),(28,vi x7),(27,vi p4),(26,vi x30)] ?_ rfl (fun K=>by subst hc39 hx38 hx37 hx36 hx35; kernel_rfl)
  refine zdn ?_
  cases c39
  ·replace h:=bf h
   refine zF ?_
   refine WP.exit ?_
   exact then_e (then_e (inb_e (then_n ⟨x28,l29,yy H33 [0,1] h⟩)))
  replace h:=bt h
  refine zTn ?_
  obtain ⟨K43,hK43,h⟩:=js h
  refine WP.seqJ (fun a w=>∃ (x40 : Int) (l41 : List Int),Y 65 [(0,s1),(1,vi p4),(6,vi x7),(7,vp b10 0),(8,vu t16),(9,vi x30)] [] (Own fU64 22 s1 l2).fp w0 [Box b10 #[vu x40] 150,Own fU64 22 s1 l41] (K43 x40 l41 = some r) a w) ?_ ?_
  ·obtain ⟨K47,hK47,h⟩:=js h
   refine WP.blockJ (fun a w=>∃ (x44 : Int) (l45 : List Int),Y 65 [(0,s1),(1,vi p4),(6,vi x7),(7,vp b10 0),(8,vu t16),(9,vi x30)] [] (Own fU64 22 s1 l2).fp w0 [Box b10 #[vu x44] 150,Own fU64 22 s1 l45] (K47 x44 l45 = some r) a w) ?_ ?_
   ·refine zsg ?_
    obtain ⟨t48,ht48,h⟩:=bs h
    refine zo (oca (g_sXor_w fuel b10 x28 t48 ht48 _ (St.get H33 0 rfl)) ?_)
    rintro _ w50 ⟨rfl,Hc51⟩
    have H52:=St.call1 H33 0 rfl Hc51
    clear H33 Hc51
    obtain ⟨x53,hx53,h⟩:=ls h
    obtain ⟨x54,hx54,h⟩:=ls h
    obtain ⟨x55,hx55,h⟩:=ls h
    refine zn ?_
    refine zr 5 6 [(10,vi x55),(40,vi x55),(39,vu x54),(38,vu x53),(37,vu t16)] ?_ rfl (fun K=>by subst hx55 hx54 hx53; kernel_rfl)
    refine zdn ?_
    obtain ⟨K58,hK58,h⟩:=js h
    refine WP.seqJ (fun a w=>∃ (x56 : Int),Y 65 [(0,s1),(1,vi p4),(6,vi x7),(7,vp b10 0),(8,vu t16),(9,vi x30),(10,vi x56)] [] (Own fU64 22 s1 l2).fp w0 [Box b10 #[vu t48.1] 150,Own fU64 22 s1 l29] (K58 x56 = some r) a w) ?_ ?_
    ·refine zsg ?_
     obtain ⟨c59,e,h⟩:=ls h
     refine zed 3 3 [(43,vb c59),(42,vi x7),(41,vi x55)] ?_
     cases c59
     ·replace h:=bf h
      refine zF ?_
      refine WP.skip ?_
      exact then_n ⟨x55,yy H52 [0,1] h⟩
     replace h:=bt h
     refine zT ?_
     refine zg ?_
     obtain ⟨x60,e,h⟩:=ls h
     refine ze 4 4 [(10,vi x60),(46,vi x60),(45,vi x7),(44,vi x55)] ?_
     refine zd ?_
     exact then_n ⟨x60,yy H52 [0,1] h⟩
    rintro a w61 ⟨x56,G57,rfl,H62,h⟩
    subst hK58
    have sf63:=Own.isSl (St.get H62 1 rfl)
    obtain ⟨K66,hK66,h⟩:=js h
    refine WP.drawI (by kernel_rfl) (by kernel_rfl) (fun w=>St (Own fU64 22 s1 l2).fp w0 w []) [17,19] (fun w=>St (Own fU64 22 s1 l2).fp w0 w [Box b10 #[vu t48.1] 150,Own fU64 22 s1 l29]) (fun a w=>∃ (l64 : List Int),Y 65 [(0,s1),(1,vi p4),(6,vi x7),(7,vp b10 0),(8,vu t16),(9,vi x30)] [] (Own fU64 22 s1 l2).fp w0 [Box b10 #[vu t48.1] 150,Own fU64 22 s1 l64] (K66 l64 = some r) a w) 20 #[F,F,F,F,F,F,F,F,F,F,F,F,F,F,F,F,F,F,F,F] (by kernel_rfl) (by kernel_rfl) ?_ ?_
    ·have H67:=St.drew H62
     obtain ⟨x68,hx68,h⟩:=ls h
     obtain ⟨x69,hx69,h⟩:=ls h
     obtain ⟨hg70,h⟩:=gs h
     refine WI.runS [0,1,2,3,4,5,6,7,8,9] 10 _ #[T,T,T,T,T,T,T,T,T,T,F,F,F,F,F,F,F,F,F,F] [(56,vi x69),(55,vi x56),(54,vi p4),(53,s1),(52,vi x68),(51,vi x56),(50,vi p4),(49,s1),(48,vi x30),(47,s1)] rfl (fun K=>by subst hx69 hx68; kernel_rfl) ?_
     refine WI.takeS 10 (va (slAt s1 1 (Int.toNat x69))) 57 rfl rfl (by kernel_rfl) (by kernel_rfl) (fun w H=>ev_index sf63 41 (.tmp 53) (.tmp 56) 22 1 8 .i64 x69 rfl (by kernel_rfl) (by kernel_rfl) (by kernel_rfl) hg70) (li':=#[T,T,T,T,T,T,T,T,T,T,T,F,F,F,F,F,F,F,F,F]) (by kernel_rfl) ?_
     obtain ⟨x71,hx71,h⟩:=bs h
     refine WI.takeT 11 (vu x71) 58 rfl rfl (by kernel_rfl) (by kernel_rfl) (by kernel_rfl) (fun w H=>ev_loadEl (F:=fU64) (St.rd H 1 rfl) (hp_no_le _) hx71 22 (.tmp 57) 0 (vu x71) rfl (by kernel_rfl) (by kernel_rfl)) (li':=#[T,T,T,T,T,T,T,T,T,T,T,T,F,F,F,F,F,F,F,F]) (by kernel_rfl) ?_
     obtain ⟨hg72,h⟩:=gs h
     refine WI.runS [12,13] 6 _ #[T,T,T,T,T,T,T,T,T,T,T,T,T,T,F,F,F,F,F,F] [(60,vi x30),(59,s1)] rfl (fun K=>by kernel_rfl) ?_
     refine WI.takeS 14 (va (slAt s1 1 (Int.toNat x30))) 61 rfl rfl (by kernel_rfl) (by kernel_rfl) (fun w H=>ev_index sf63 41 (.tmp 59) (.tmp 60) 22 1 8 .i64 x30 rfl (by kernel_rfl) (by kernel_rfl) (by kernel_rfl) hg72) (li':=#[T,T,T,T,T,T,T,T,T,T,T,T,T,T,T,F,F,F,F,F]) (by kernel_rfl) ?_
     obtain ⟨x73,hx73,h⟩:=bs h
     refine WI.takeT 15 (vu x73) 62 rfl rfl (by kernel_rfl) (by kernel_rfl) (by kernel_rfl) (fun w H=>ev_loadEl (F:=fU64) (St.rd H 1 rfl) (hp_no_le _) hx73 22 (.tmp 61) 0 (vu x73) rfl (by kernel_rfl) (by kernel_rfl)) (li':=#[T,T,T,T,T,T,T,T,T,T,T,T,T,T,T,T,F,F,F,F]) (by kernel_rfl) ?_
     obtain ⟨hg74,h⟩:=gs h
     refine WI.takeS 16 (va (slAt s1 1 (Int.toNat x30))) 63 rfl rfl (by kernel_rfl) (by kernel_rfl) (fun w H=>ev_index sf63 41 (.tmp 47) (.tmp 48) 22 1 8 .i64 x30 rfl (by kernel_rfl) (by kernel_rfl) (by kernel_rfl) hg74) (li':=#[T,T,T,T,T,T,T,T,T,T,T,T,T,T,T,T,T,F,F,F]) (by kernel_rfl) ?_
     obtain ⟨l75,hl75,h⟩:=ls h
     refine WI.one 17 (by kernel_rfl) (nod (sl H67 []) (sl H67 [0,1])) rfl (Op1.storeOwn H67 1 rfl (by kernel_rfl) 22 (.tmp 63) (.tmp 58) (Int.toNat x30) x71 false rfl (by kernel_rfl) (by kernel_rfl) (by kernel_rfl) (idx_lt hg74) (fun w76 H77=>?_))
     rw [← hl75] at H77
     clear H67
     refine WI.nS0 #[T,T,T,T,T,T,T,T,T,T,T,T,T,T,T,T,T,T,F,F] (by kernel_rfl) rfl ?_
     obtain ⟨hg78,h⟩:=gs h
     refine WI.takeS 18 (va (slAt s1 1 (Int.toNat x68))) 64 rfl rfl (by kernel_rfl) (by kernel_rfl) (fun w H=>ev_index sf63 41 (.tmp 49) (.tmp 52) 22 1 8 .i64 x68 rfl (by kernel_rfl) (by kernel_rfl) (by kernel_rfl) hg78) (li':=#[T,T,T,T,T,T,T,T,T,T,T,T,T,T,T,T,T,T,T,F]) (by kernel_rfl) ?_
     obtain ⟨l79,hl79,h⟩:=ls h
     refine WI.one 19 (by kernel_rfl) (nod0 (sl H77 []) 17 (by decide) (by kernel_rfl)) rfl (Op1.storeOwn H77 0 rfl (by kernel_rfl) 22 (.tmp 64) (.tmp 62) (Int.toNat x68) x73 false rfl (by kernel_rfl) (by kernel_rfl) (by kernel_rfl) (by simp only [hl75,List.length_set]; exact idx_lt hg78) (fun w80 H81=>?_))
     rw [← hl79] at H81
     clear H77
     refine WI.nS0 #[T,T,T,T,T,T,T,T,T,T,T,T,T,T,T,T,T,T,T,T] (by kernel_rfl) rfl ?_
     refine WI.done (by kernel_rfl) (nod0 (sl H81 []) 17 (by decide) (by kernel_rfl)) ?_
     exact ⟨l79,yy H81 [1,0] h⟩
    rintro a w82 ⟨l64,G65,rfl,H83,h⟩
    subst hK66
    exact inb_n (then_n ⟨t48.1,l64,yy H83 [0,1] h⟩)
   rintro a w85 ⟨x44,l45,G46,rfl,H86,h⟩
   subst hK47
   exact then_n ⟨x44,l45,yy H86 [0,1] h⟩
  rintro a w88 ⟨x40,l41,G42,rfl,H89,h⟩
  subst hK43
  refine zg ?_
  obtain ⟨x91,e,h⟩:=ls h
  refine ze 3 3 [(9,vi x91),(35,vi x91),(34,vi x30)] ?_
  refine zd ?_
  exact then_n ⟨n,lS n,x40,l41,x91,yy H89 [0,1] h⟩
 rintro a w92 ⟨x24,l25,G26,rfl,H93,h⟩
 subst hK27
 obtain rfl:=oi h
 exact post_n (.tuple #[]) rfl (by kernel_rfl) ⟨rfl,sl H93 [1]⟩
/- slices.pdqsortOrdered[uint64] -/
def g_sPdq_l1 (fuel : Nat) (self : ((List Int) → Int → Int → Int → Option (List Int))) : Nat → (List Int) → Int → Int → Int → Bool → Bool → Option (List Int)
  | 0, _, _, _, _, _, _ => none
  | n + 1, l8, x9, x10, x11, c12, c13 => jn (fun (l18 : List Int) (x19 : Int) (x20 : Int) (x21 : Int) (c22 : Bool) (c23 : Bool) => g_sPdq_l1 fuel self n l18 x19 x20 x21 c22 c23) fun K25 => lt (wr .i64 (x10 - x9)) fun x26 => lt (decide (x26 ≤ 12)) fun c27 => br c27 (bd (g_sIns fuel l8 x9 x10) fun t134 => some t134) (lt (x11 == 0) fun c28 => br c28 (bd (g_sHea fuel l8 x9 x10) fun t129 => some t129) (jn (fun (l29 : List Int) (x30 : Int) => bd (g_sCho fuel l29 x9 x10) fun t43 => jn (fun (l47 : List Int) (x48 : Int) (x49 : Int) => jn (fun (l64 : List Int) => jn (fun (c83 : Bool) => br c83 (bd (g_sPeq fuel l64 x9 x10 x48) fun t124 => K25 t124.1 t124.2 x10 x30 c12 c13) (bd (g_sPrt fuel l64 x9 x10 x48) fun t101 => lt (wr .i64 (t101.2.1 - x9)) fun x106 => lt (wr .i64 (x10 - t101.2.1)) fun x107 => lt (wr .i64 (Int.tdiv x26 8)) fun x108 => lt (decide (x106 < x107)) fun c109 => br c109 (lt (decide (x106 ≥ x108)) fun c117 => bd (self t101.1 x9 t101.2.1 x30) fun t118 => lt (wr .i64 (t101.2.1 + 1)) fun x123 => K25 t118 x123 x10 x30 c117 t101.2.2) (lt (decide (x107 ≥ x108)) fun c110 => lt (wr .i64 (t101.2.1 + 1)) fun x111 => bd (self t101.1 x111 x10 x30) fun t112 => K25 t112 x9 t101.2.1 x30 c110 t101.2.2))) fun K85 => lt (decide (x9 > 0)) fun c86 => br c86 (lt (wr .i64 (x9 - 1)) fun x89 => gd ((0 : Int) ≤ x89 ∧ x89 < ((List.length l64 : Nat) : Int)) <| bd (l64[Int.toNat x89]?) fun x91 => gd ((0 : Int) ≤ x48 ∧ x48 < ((List.length l64 : Nat) : Int)) <| bd (l64[Int.toNat x48]?) fun x93 => bd (g_Less fuel x91 x93) fun t94 => lt (!t94) fun c95 => K85 c95) (K85 false)) fun K66 => jn (fun (c67 : Bool) => br c67 (bd (g_sPis fuel l47 x9 x10) fun t74 => br t74.2 (some t74.1) (K66 t74.1)) (K66 l47)) fun K69 => br c12 (br c13 (lt (x49 == 1) fun c70 => K69 c70) (K69 false)) (K69 false)) fun K51 => lt (t43.2 == 2) fun c52 => br c52 (bd (g_sRev fuel l29 x9 x10) fun t53 => lt (wr .i64 (x10 - 1)) fun x58 => lt (wr .i64 (t43.1 - x9)) fun x59 => lt (wr .i64 (x58 - x59)) fun x60 => K51 t53 x60 1) (K51 l29 t43.1 t43.2)) fun K32 => lt (!c12) fun c33 => br c33 (bd (g_sBrk fuel l8 x9 x10) fun t34 => lt (wr .i64 (x11 - 1)) fun x39 => K32 t34 x39) (K32 l8 x11)))
def g_sPdq : Nat → (List Int) → Int → Int → Int → Option (List Int)
  | 0, _, _, _, _ => none
  | fuel + 1, l2, p4, p5, p6 => (fun (self : ((List Int) → Int → Int → Int → Option (List Int))) => g_sPdq_l1 fuel self fuel l2 p4 p5 p6 true true) (g_sPdq fuel)
theorem g_sPdq_w : ∀ (fuel : Nat) (s1 : Value) (l2 : List Int) (p4 : Int) (p5 : Int) (p6 : Int) (r : List Int) (h : g_sPdq fuel l2 p4 p5 p6 = some r) (w0 : World) (hm : (Own fU64 22 s1 l2).holds w0),
 Ret Tryz.prog 74 #[s1, vi p4, vi p5, vi p6] w0 (fun v w' => v = .tuple #[] ∧ St (Own fU64 22 s1 l2).fp w0 w' [Own fU64 22 s1 r]) := by
 intro fuel
 induction fuel with
 | zero=>intro s1 l2 p4 p5 p6 r h w0 hm; unfold g_sPdq at h; cases h
 | succ fuel ih =>
  intro s1 l2 p4 p5 p6 r h w0 hm
  rw [g_sPdq] at h
  have ih:=ih
  refine ret_of_wpS Tryz.func74 rfl 134 rfl [(0,s1),(1,vi p4),(2,vi p5),(3,vi p6)] (by kernel_rfl) (fun G=>?_)
  have H0:=St.start1 hm
  refine zsg ?_
  refine zrd 1 1 [(8,vb true)] ?_
  refine zsg ?_
  refine zrd 1 1 [(9,vb true)] ?_
  refine WP.block ?_
  refine WP.loop (fun n a w=>∃ (l8 : List Int) (x9 : Int) (x10 : Int) (x11 : Int) (c12 : Bool) (c13 : Bool),Y 134 [(0,s1),(1,vi x9),(2,vi x10),(3,vi x11),(8,vb c12),(9,vb c13)] [] (Own fU64 22 s1 l2).fp w0 [Own fU64 22 s1 l8] (g_sPdq_l1 fuel (g_sPdq fuel) n l8 x9 x10 x11 c12 c13 = some r) a w) fuel ⟨l2,p4,p5,p6,true,true,yy H0 [0] h⟩ ?_
  intro n a w hq
  refine Exists.elim hq fun l8 hq=>Exists.elim hq fun x9 hq=>Exists.elim hq fun x10 hq=>Exists.elim hq fun x11 hq=>Exists.elim hq fun c12 hq=>Exists.elim hq fun c13 hq=>Exists.elim hq fun G14 hq=>?_
  obtain ⟨rfl,H,h⟩:=hq
  obtain _ | n:=n
  ·rw [g_sPdq_l1] at h; cases h
  rw [g_sPdq_l1] at h
  obtain ⟨w15,rfl⟩ : ∃ x,x = w:=⟨_,rfl⟩
  have H16:=H; clear H
  obtain ⟨K25,hK25,h⟩:=js h
  refine WP.blockJ (fun a w=>∃ (l18 : List Int) (x19 : Int) (x20 : Int) (x21 : Int) (c22 : Bool) (c23 : Bool),Y 134 [(0,s1),(1,vi x19),(2,vi x20),(3,vi x21),(8,vb c22),(9,vb c23)] [] (Own fU64 22 s1 l2).fp w0 [Own fU64 22 s1 l18] (K25 l18 x19 x20 x21 c22 c23 = some r) a w) ?_ ?_
  ·refine zsg ?_
   obtain ⟨x26,e,h⟩:=ls h
   refine zed 4 4 [(10,vi x26),(21,vi x26),(20,vi x9),(19,vi x10)] ?_
   refine zs ?_
   refine zsg ?_
   obtain ⟨c27,e,h⟩:=ls h
   refine zed 2 2 [(23,vb c27),(22,vi x26)] ?_
   cases c27
   rotate_left
   ·replace h:=bt h
    refine zT ?_
    refine zsg ?_
    obtain ⟨t134,ht134,h⟩:=bs h
    refine zr 3 3 [(26,vi x10),(25,vi x9),(24,s1)] ?_
    refine zo (oca (g_sIns_w fuel s1 l8 x9 x10 t134 ht134 _ (St.get H16 0 rfl)) ?_)
    rintro _ w136 ⟨rfl,Hc137⟩
    have H138:=St.call1 H16 0 rfl Hc137
    clear H16 Hc137
    refine zn ?_
    refine zdn ?_
    refine WP.ret ?_
    obtain rfl:=oi h
    exact then_r (inb_r (then_r (then_r (inb_r (post_r (.tuple #[]) rfl (by kernel_rfl) ⟨rfl,sl H138 [0]⟩)))))
   replace h:=bf h
   refine zFn ?_
   refine zs ?_
   refine zsg ?_
   obtain ⟨c28,e,h⟩:=ls h
   refine zed 2 2 [(29,vb c28),(28,vi x11)] ?_
   cases c28
   rotate_left
   ·replace h:=bt h
    refine zT ?_
    refine zsg ?_
    obtain ⟨t129,ht129,h⟩:=bs h
    refine zr 3 3 [(32,vi x10),(31,vi x9),(30,s1)] ?_
    refine zo (oca (g_sHea_w fuel s1 l8 x9 x10 t129 ht129 _ (St.get H16 0 rfl)) ?_)
    rintro _ w131 ⟨rfl,Hc132⟩
    have H133:=St.call1 H16 0 rfl Hc132
    clear H16 Hc132
    refine zn ?_
    refine zdn ?_
    refine WP.ret ?_
    obtain rfl:=oi h
    exact then_r (inb_r (then_r (then_r (inb_r (post_r (.tuple #[]) rfl (by kernel_rfl) ⟨rfl,sl H133 [0]⟩)))))
   replace h:=bf h
   refine zFn ?_
   obtain ⟨K32,hK32,h⟩:=js h
   refine WP.seqJ (fun a w=>∃ (l29 : List Int) (x30 : Int),Y 134 [(0,s1),(1,vi x9),(2,vi x10),(3,vi x30),(8,vb c12),(9,vb c13),(10,vi x26)] [] (Own fU64 22 s1 l2).fp w0 [Own fU64 22 s1 l29] (K32 l29 x30 = some r) a w) ?_ ?_
   ·refine zsg ?_
    obtain ⟨c33,e,h⟩:=ls h
    refine zed 2 2 [(35,vb c33),(34,vb c12)] ?_
    cases c33
    ·replace h:=bf h
     refine zF ?_
     refine WP.skip ?_
     exact then_n ⟨l8,x11,yy H16 [0] h⟩
    replace h:=bt h
    refine zT ?_
    refine zsg ?_
    obtain ⟨t34,ht34,h⟩:=bs h
    refine zr 3 3 [(38,vi x10),(37,vi x9),(36,s1)] ?_
    refine zo (oca (g_sBrk_w fuel s1 l8 x9 x10 t34 ht34 _ (St.get H16 0 rfl)) ?_)
    rintro _ w36 ⟨rfl,Hc37⟩
    have H38:=St.call1 H16 0 rfl Hc37
    clear H16 Hc37
    refine zn ?_
    refine zdn ?_
    refine zg ?_
    obtain ⟨x39,e,h⟩:=ls h
    refine ze 3 3 [(3,vi x39),(41,vi x39),(40,vi x11)] ?_
    refine zd ?_
    exact then_n ⟨t34,x39,yy H38 [0] h⟩
   rintro a w40 ⟨l29,x30,G31,rfl,H41,h⟩
   subst hK32
   refine zsg ?_
   obtain ⟨t43,ht43,h⟩:=bs h
   refine zr 3 3 [(45,vi x10),(44,vi x9),(43,s1)] ?_
   refine zo (oca (g_sCho_w fuel s1 l29 x9 x10 t43 ht43 _ (St.rd H41 0 rfl)) ?_)
   rintro _ w44 ⟨rfl,Hc45⟩
   have H46:=St.call0' H41 Hc45
   clear H41 Hc45
   refine zn ?_
   refine zrd 5 9 [(12,vi t43.2),(11,vi t43.1),(48,vi t43.2),(47,vi t43.1),(42,.tuple #[vi t43.1,vi t43.2])] ?_
   obtain ⟨K51,hK51,h⟩:=js h
   refine WP.seqJ (fun a w=>∃ (l47 : List Int) (x48 : Int) (x49 : Int),Y 134 [(0,s1),(1,vi x9),(2,vi x10),(3,vi x30),(8,vb c12),(9,vb c13),(10,vi x26),(11,vi x48),(12,vi x49)] [] (Own fU64 22 s1 l2).fp w0 [Own fU64 22 s1 l47] (K51 l47 x48 x49 = some r) a w) ?_ ?_
   ·refine zsg ?_
    obtain ⟨c52,e,h⟩:=ls h
    refine zed 2 2 [(50,vb c52),(49,vi t43.2)] ?_
    cases c52
    ·replace h:=bf h
     refine zF ?_
     refine WP.skip ?_
     exact then_n ⟨l29,t43.1,t43.2,yy H46 [0] h⟩
    replace h:=bt h
    refine zT ?_
    refine zsg ?_
    obtain ⟨t53,ht53,h⟩:=bs h
    refine zr 3 3 [(53,vi x10),(52,vi x9),(51,s1)] ?_
    refine zo (oca (g_sRev_w fuel s1 l29 x9 x10 t53 ht53 _ (St.get H46 0 rfl)) ?_)
    rintro _ w55 ⟨rfl,Hc56⟩
    have H57:=St.call1 H46 0 rfl Hc56
    clear H46 Hc56
    refine zn ?_
    refine zdn ?_
    refine zsg ?_
    obtain ⟨x58,hx58,h⟩:=ls h
    obtain ⟨x59,hx59,h⟩:=ls h
    obtain ⟨x60,hx60,h⟩:=ls h
    refine zr 7 7 [(11,vi x60),(60,vi x60),(59,vi x59),(58,vi x9),(57,vi t43.1),(56,vi x58),(55,vi x10)] ?_ rfl (fun K=>by subst hx60 hx59 hx58; kernel_rfl)
    refine zdn ?_
    refine zg ?_
    refine zr 1 1 [(12,vi 1)] ?_
    refine zd ?_
    exact then_n ⟨t53,x60,1,yy H57 [0] h⟩
   rintro a w61 ⟨l47,x48,x49,G50,rfl,H62,h⟩
   subst hK51
   obtain ⟨K66,hK66,h⟩:=js h
   refine WP.seqJ (fun a w=>∃ (l64 : List Int),Y 134 [(0,s1),(1,vi x9),(2,vi x10),(3,vi x30),(8,vb c12),(9,vb c13),(10,vi x26),(11,vi x48)] [] (Own fU64 22 s1 l2).fp w0 [Own fU64 22 s1 l64] (K66 l64 = some r) a w) ?_ ?_
   ·refine zs ?_
    obtain ⟨K69,hK69,h⟩:=js h
    refine WP.onlyN (fun a w=>∃ (c67 : Bool),Y 134 [(0,s1),(1,vi x9),(2,vi x10),(3,vi x30),(8,vb c12),(9,vb c13),(10,vi x26),(11,vi x48),(68,vb c67)] [] (Own fU64 22 s1 l2).fp w0 [Own fU64 22 s1 l47] (K69 c67 = some r) a w) ?_ ?_
    ·refine zg ?_
     refine zr 2 2 [(62,vb c12),(61,vb c12)] ?_
     cases c12
     ·replace h:=bf h
      refine zr 6 8 [(68,vb false),(67,Z),(66,Z),(65,vb false),(64,vb false),(63,Z)] ?_
      refine zd ?_
      exact ⟨false,yy H62 [0] h⟩
     replace h:=bt h
     refine zr 3 5 [(65,vb c13),(64,vb c13),(63,vb c13)] ?_
     cases c13
     ·replace h:=bf h
      refine zr 3 8 [(68,vb false),(67,Z),(66,Z)] ?_
      refine zd ?_
      exact ⟨false,yy H62 [0] h⟩
     replace h:=bt h
     obtain ⟨c70,e,h⟩:=ls h
     refine ze 3 8 [(68,vb c70),(67,vb c70),(66,vi x49)] ?_
     refine zd ?_
     exact ⟨c70,yy H62 [0] h⟩
    rintro a w71 ⟨c67,G68,rfl,H72,h⟩
    subst hK69
    refine then_n ?_
    cases c67
    ·replace h:=bf h
     refine zF ?_
     refine WP.skip ?_
     exact then_n ⟨l47,yy H72 [0] h⟩
    replace h:=bt h
    refine zT ?_
    refine zsg ?_
    obtain ⟨t74,ht74,h⟩:=bs h
    refine zr 3 3 [(71,vi x10),(70,vi x9),(69,s1)] ?_
    refine zo (oca (g_sPis_w fuel s1 l47 x9 x10 t74 ht74 _ (St.get H72 0 rfl)) ?_)
    rintro _ w76 ⟨rfl,Hc77⟩
    have H78:=St.call1 H72 0 rfl Hc77
    clear H72 Hc77
    refine zn ?_
    refine zdn ?_
    cases hq79 : t74.2
    ·rw [hq79] at h
     try rw [hq79] at H78
     replace h:=bf h
     refine zF ?_
     refine WP.skip ?_
     exact then_n ⟨t74.1,yy H78 [0] h⟩
    rw [hq79] at h
    try rw [hq79] at H78
    replace h:=bt h
    refine zT ?_
    refine WP.ret ?_
    obtain rfl:=oi h
    exact then_r (inb_r (then_r (then_r (inb_r (post_r (.tuple #[]) rfl (by kernel_rfl) ⟨rfl,sl H78 [0]⟩)))))
   rintro a w80 ⟨l64,G65,rfl,H81,h⟩
   subst hK66
   have sf82:=Own.isSl (St.get H81 0 rfl)
   refine zs ?_
   refine zs ?_
   obtain ⟨K85,hK85,h⟩:=js h
   refine WP.onlyN (fun a w=>∃ (c83 : Bool),Y 134 [(0,s1),(1,vi x9),(2,vi x10),(3,vi x30),(8,vb c12),(9,vb c13),(10,vi x26),(11,vi x48),(87,vb c83)] [] (Own fU64 22 s1 l2).fp w0 [Own fU64 22 s1 l64] (K85 c83 = some r) a w) ?_ ?_
   ·refine WP.quiet (by kernel_rfl) (by kernel_rfl) (by kernel_rfl) (fun w=>St (Own fU64 22 s1 l2).fp w0 w [Own fU64 22 s1 l64]) (St.drew H81) ?_
    obtain ⟨c86,e,h⟩:=ls h
    refine qe 3 3 [(75,vb c86),(74,vb c86),(73,vi x9)] ?_
    cases c86
    ·replace h:=bf h
     refine qr 12 15 [(87,vb false),(86,Z),(85,Z),(84,Z),(83,Z),(82,Z),(81,Z),(80,Z),(79,Z),(78,Z),(77,Z),(76,Z)] ?_
     refine qd fun w87 H88=>?_
     exact ⟨false,yy H88 [0] h⟩
    replace h:=bt h
    obtain ⟨x89,e,h⟩:=ls h
    obtain ⟨hg90,h⟩:=gs h
    refine qe 3 6 [(78,vi x89),(77,vi x9),(76,s1)] ?_
    refine qv (va (slAt s1 1 (Int.toNat x89))) (fun w H=>lli sf82 22 1 8 .i64 x89 hg90) ?_
    obtain ⟨x91,hx91,h⟩:=bs h
    refine qv (vu x91) (fun w H=>lle fU64 (St.rd H 0 rfl) (hp_no_le _) hx91 0) ?_
    obtain ⟨hg92,h⟩:=gs h
    refine qr 2 10 [(82,vi x48),(81,s1)] ?_
    refine qv (va (slAt s1 1 (Int.toNat x48))) (fun w H=>lli sf82 22 1 8 .i64 x48 hg92) ?_
    obtain ⟨x93,hx93,h⟩:=bs h
    refine qv (vu x93) (fun w H=>lle fU64 (St.rd H 0 rfl) (hp_no_le _) hx93 0) ?_
    obtain ⟨t94,ht94,h⟩:=bs h
    refine qc (vb t94) (fun w H=>Ret.mono (g_Less_w fuel x91 x93 t94 ht94 _) fun u w1 hu=>⟨hu.1,St.call0' H hu.2⟩) ?_
    obtain ⟨c95,e,h⟩:=ls h
    refine qe 2 15 [(87,vb c95),(86,vb c95)] ?_
    refine qd fun w96 H97=>?_
    exact ⟨c95,yy H97 [0] h⟩
   rintro a w98 ⟨c83,G84,rfl,H99,h⟩
   subst hK85
   refine then_n ?_
   cases c83
   rotate_left
   ·replace h:=bt h
    refine zT ?_
    refine zsg ?_
    obtain ⟨t124,ht124,h⟩:=bs h
    refine zr 4 4 [(91,vi x48),(90,vi x10),(89,vi x9),(88,s1)] ?_
    refine zo (oca (g_sPeq_w fuel s1 l64 x9 x10 x48 t124 ht124 _ (St.get H99 0 rfl)) ?_)
    rintro _ w126 ⟨rfl,Hc127⟩
    have H128:=St.call1 H99 0 rfl Hc127
    clear H99 Hc127
    refine zn ?_
    refine zrd 1 6 [(13,vi t124.2)] ?_
    refine zsg ?_
    refine zrd 2 2 [(1,vi t124.2),(93,vi t124.2)] ?_
    refine WP.exit ?_
    exact then_e (inb_e (then_n ⟨t124.1,t124.2,x10,x30,c12,c13,yy H128 [0] h⟩))
   replace h:=bf h
   refine zFn ?_
   refine zsg ?_
   obtain ⟨t101,ht101,h⟩:=bs h
   refine zr 4 4 [(98,vi x48),(97,vi x10),(96,vi x9),(95,s1)] ?_
   refine zo (oca (g_sPrt_w fuel s1 l64 x9 x10 x48 t101 ht101 _ (St.get H99 0 rfl)) ?_)
   rintro _ w103 ⟨rfl,Hc104⟩
   have H105:=St.call1 H99 0 rfl Hc104
   clear H99 Hc104
   refine zn ?_
   refine zrd 5 10 [(15,vb t101.2.2),(14,vi t101.2.1),(101,vb t101.2.2),(100,vi t101.2.1),(94,.tuple #[vi t101.2.1,vb t101.2.2])] ?_
   refine zsg ?_
   refine zrd 2 2 [(9,vb t101.2.2),(102,vb t101.2.2)] ?_
   refine zsg ?_
   obtain ⟨x106,hx106,h⟩:=ls h
   obtain ⟨x107,hx107,h⟩:=ls h
   refine zr 8 8 [(17,vi x107),(16,vi x106),(108,vi x107),(107,vi t101.2.1),(106,vi x10),(105,vi x106),(104,vi x9),(103,vi t101.2.1)] ?_ rfl (fun K=>by subst hx107 hx106; kernel_rfl)
   refine zdn ?_
   refine zsg ?_
   obtain ⟨x108,e,h⟩:=ls h
   refine zed 3 3 [(18,vi x108),(110,vi x108),(109,vi x26)] ?_
   refine zsg ?_
   obtain ⟨c109,e,h⟩:=ls h
   refine zed 3 3 [(113,vb c109),(112,vi x107),(111,vi x106)] ?_
   cases c109
   rotate_left
   ·replace h:=bt h
    refine zT ?_
    refine zsg ?_
    obtain ⟨c117,e,h⟩:=ls h
    refine zed 4 4 [(8,vb c117),(116,vb c117),(115,vi x108),(114,vi x106)] ?_
    refine zsg ?_
    obtain ⟨t118,ht118,h⟩:=bs h
    refine zr 4 4 [(120,vi x30),(119,vi t101.2.1),(118,vi x9),(117,s1)] ?_
    refine zo (oca (ih s1 t101.1 x9 t101.2.1 x30 t118 ht118 _ (St.get H105 0 rfl)) ?_)
    rintro _ w120 ⟨rfl,Hc121⟩
    have H122:=St.call1 H105 0 rfl Hc121
    clear H105 Hc121
    refine zn ?_
    refine zdn ?_
    refine zg ?_
    obtain ⟨x123,e,h⟩:=ls h
    refine ze 3 3 [(1,vi x123),(123,vi x123),(122,vi t101.2.1)] ?_
    refine zd ?_
    exact inb_n (then_n ⟨t118,x123,x10,x30,c117,t101.2.2,yy H122 [0] h⟩)
   replace h:=bf h
   refine zF ?_
   refine zsg ?_
   obtain ⟨c110,e,h⟩:=ls h
   refine zed 4 4 [(8,vb c110),(126,vb c110),(125,vi x108),(124,vi x107)] ?_
   refine zsg ?_
   obtain ⟨x111,e,h⟩:=ls h
   obtain ⟨t112,ht112,h⟩:=bs h
   refine ze 5 5 [(131,vi x30),(130,vi x10),(129,vi x111),(128,vi t101.2.1),(127,s1)] ?_
   refine zo (oca (ih s1 t101.1 x111 x10 x30 t112 ht112 _ (St.get H105 0 rfl)) ?_)
   rintro _ w114 ⟨rfl,Hc115⟩
   have H116:=St.call1 H105 0 rfl Hc115
   clear H105 Hc115
   refine zn ?_
   refine zdn ?_
   refine zg ?_
   refine zr 2 2 [(2,vi t101.2.1),(133,vi t101.2.1)] ?_
   refine zd ?_
   exact inb_n (then_n ⟨t112,x9,t101.2.1,x30,c110,t101.2.2,yy H116 [0] h⟩)
  intro a w hq
  refine Exists.elim hq fun l18 hq=>Exists.elim hq fun x19 hq=>Exists.elim hq fun x20 hq=>Exists.elim hq fun x21 hq=>Exists.elim hq fun c22 hq=>Exists.elim hq fun c23 hq=>Exists.elim hq fun G24 hq=>?_
  obtain ⟨rfl,H,h⟩:=hq
  subst hK25
  obtain ⟨w139,rfl⟩ : ∃ x,x = w:=⟨_,rfl⟩
  have H140:=H; clear H
  exact then_n ⟨n,lS n,l18,x19,x20,x21,c22,c23,yy H140 [0] h⟩
/- slices.Sort[[]uint64,uint64] -/
def g_sSrt (fuel : Nat) (l2 : List Int) : Option (List Int) :=
  lt (wr .u64 (((List.length l2 : Nat) : Int))) fun x5 => bd (g_math_bits_Len fuel x5) fun t6 => bd (g_sPdq fuel l2 0 (((List.length l2 : Nat) : Int)) t6) fun t10 => some t10
theorem g_sSrt_w (fuel : Nat) (s1 : Value) (l2 : List Int) (r : List Int) (h : g_sSrt fuel l2 = some r) (w0 : World) (hm : (Own fU64 22 s1 l2).holds w0) :
 Ret Tryz.prog 53 #[s1] w0 (fun v w' => v = .tuple #[] ∧ St (Own fU64 22 s1 l2).fp w0 w' [Own fU64 22 s1 r]) := by
 unfold g_sSrt at h
 refine ret_of_wpS Tryz.func53 rfl 11 rfl [(0,s1)] (by kernel_rfl) (fun G=>?_)
 have H0:=St.start1 hm
 have sf4:=Own.isSl (St.get H0 0 rfl)
 refine zsg ?_
 refine zr 1 1 [(3,s1)] ?_
 refine zv (vi (((List.length l2 : Nat) : Int))) (lln sf4 22 1 8) ?_
 refine zrd 1 3 [(2,vi (((List.length l2 : Nat) : Int)))] ?_
 refine zg ?_
 obtain ⟨x5,e,h⟩:=ls h
 obtain ⟨t6,ht6,h⟩:=bs h
 refine ze 4 4 [(8,vu x5),(7,vi (((List.length l2 : Nat) : Int))),(6,vi (((List.length l2 : Nat) : Int))),(5,s1)] ?_
 refine zo (oca (g_math_bits_Len_w fuel x5 t6 ht6 _) ?_)
 rintro _ w7 ⟨rfl,Hc8⟩
 have H9:=St.call0' H0 Hc8
 clear Hc8
 obtain ⟨t10,ht10,h⟩:=bs h
 refine zn ?_
 refine zo (oca (g_sPdq_w fuel s1 l2 0 (((List.length l2 : Nat) : Int)) t6 t10 ht10 _ (St.get H9 0 rfl)) ?_)
 rintro _ w12 ⟨rfl,Hc13⟩
 have H14:=St.call1 H9 0 rfl Hc13
 clear H9 Hc13
 refine zn ?_
 refine zd ?_
 obtain rfl:=oi h
 exact post_n (.tuple #[]) rfl (by kernel_rfl) ⟨rfl,sl H14 [0]⟩
/- slices.Compact[[]uint64,uint64] -/
def g_sCmp_l2 (l2 : List Int) (x8 : Int) (K28 : (List Int) → Int → Option (List Int)) (fuel : Nat) : Nat → (List Int) → Int → Int → Option (List Int)
  | 0, _, _, _ => none
  | n + 1, l29, x30, x31 => lt (decide (x31 < ((((Int.toNat (((List.length l2 : Nat) : Int))) - (Int.toNat x8) : Nat) : Int)))) fun c36 => br c36 (jn (fun (l37 : List Int) (x38 : Int) => lt (wr .i64 (x31 + 1)) fun x66 => g_sCmp_l2 l2 x8 K28 fuel n l37 x38 x66) fun K40 => jn (fun (l41 : List Int) (x42 : Int) => K40 l41 x42) fun K44 => gd ((0 : Int) ≤ x31 ∧ x31 < (((Int.toNat (((List.length l2 : Nat) : Int))) - (Int.toNat x8) : Nat) : Int)) <| bd ((List.drop (Int.toNat x8) (List.take (Int.toNat (((List.length l2 : Nat) : Int))) l29))[Int.toNat x31]?) fun x46 => lt (wr .i64 (x31 - 1)) fun x47 => gd ((0 : Int) ≤ x47 ∧ x47 < (((Int.toNat (((List.length l2 : Nat) : Int))) - (Int.toNat x8) : Nat) : Int)) <| bd ((List.drop (Int.toNat x8) (List.take (Int.toNat (((List.length l2 : Nat) : Int))) l29))[Int.toNat x47]?) fun x49 => lt (x46 != x49) fun c50 => br c50 (gd ((0 : Int) ≤ x31 ∧ x31 < (((Int.toNat (((List.length l2 : Nat) : Int))) - (Int.toNat x8) : Nat) : Int)) <| bd ((List.drop (Int.toNat x8) (List.take (Int.toNat (((List.length l2 : Nat) : Int))) l29))[Int.toNat x31]?) fun x54 => gd ((0 : Int) ≤ x30 ∧ x30 < ((List.length l29 : Nat) : Int)) <| lt (List.set l29 (Int.toNat x30) x54) fun l56 => lt (wr .i64 (x30 + 1)) fun x59 => K44 l56 x59) (K44 l29 x30)) (K28 l29 x30)
def g_sCmp_l1 (l2 : List Int) (fuel : Nat) (K7 : Option (List Int)) : Nat → Int → Option (List Int)
  | 0, _ => none
  | n + 1, x8 => lt (decide (x8 < (((List.length l2 : Nat) : Int)))) fun c13 => br c13 (jn (lt (wr .i64 (x8 + 1)) fun x81 => g_sCmp_l1 l2 fuel K7 n x81) fun K15 => gd ((0 : Int) ≤ x8 ∧ x8 < ((List.length l2 : Nat) : Int)) <| bd (l2[Int.toNat x8]?) fun x17 => lt (wr .i64 (x8 - 1)) fun x18 => gd ((0 : Int) ≤ x18 ∧ x18 < ((List.length l2 : Nat) : Int)) <| bd (l2[Int.toNat x18]?) fun x20 => lt (x17 == x20) fun c21 => br c21 (gd ((0 : Int) ≤ x8 ∧ x8 ≤ (((List.length l2 : Nat) : Int)) ∧ (((List.length l2 : Nat) : Int)) ≤ ((List.length l2 : Nat) : Int)) <| jn (fun (l25 : List Int) (x26 : Int) => gd ((0 : Int) ≤ x26 ∧ x26 ≤ (((List.length l25 : Nat) : Int)) ∧ (((List.length l25 : Nat) : Int)) ≤ ((List.length l25 : Nat) : Int)) <| lt (List.take (Int.toNat x26) l25 ++ List.replicate (List.length l25 - Int.toNat x26) 0) fun l71 => gd ((0 : Int) ≤ 0 ∧ 0 ≤ x26 ∧ x26 ≤ ((List.length l25 : Nat) : Int)) <| lt (List.take (Int.toNat x26) l71) fun l76 => some l76) fun K28 => g_sCmp_l2 l2 x8 K28 fuel fuel l2 x8 1) (K15)) (K7)
def g_sCmp (fuel : Nat) (l2 : List Int) : Option (List Int) :=
  lt (decide ((((List.length l2 : Nat) : Int)) < 2)) fun c5 => br c5 (some l2) (jn (some l2) fun K7 => g_sCmp_l1 l2 fuel K7 fuel 1)
theorem g_sCmp_w (fuel : Nat) (s1 : Value) (l2 : List Int) (r : List Int) (h : g_sCmp fuel l2 = some r) (w0 : World) (hm : (Own fU64 22 s1 l2).holds w0) :
 Ret Tryz.prog 54 #[s1] w0 (fun v w' => ∃ (q0 : Value), v = q0 ∧ St (Own fU64 22 s1 l2).fp w0 w' [Own fU64 22 q0 r]) := by
 unfold g_sCmp at h
 refine ret_of_wpS Tryz.func54 rfl 61 rfl [(0,s1)] (by kernel_rfl) (fun G=>?_)
 have H0:=St.start1 hm
 have sf4:=Own.isSl (St.get H0 0 rfl)
 refine zsg ?_
 refine zrd 1 1 [(2,vn)] ?_
 refine zs ?_
 refine zsg ?_
 refine zr 1 1 [(6,s1)] ?_
 refine zv (vi (((List.length l2 : Nat) : Int))) (lln sf4 22 1 8) ?_
 obtain ⟨c5,e,h⟩:=ls h
 refine zed 1 3 [(8,vb c5)] ?_
 cases c5
 rotate_left
 ·replace h:=bt h
  refine zT ?_
  refine zsg ?_
  refine zrd 2 2 [(2,s1),(9,s1)] ?_
  refine WP.ret ?_
  obtain rfl:=oi h
  exact then_r (post_r (s1) rfl (by kernel_rfl) ⟨s1,rfl,sl H0 [0]⟩)
 replace h:=bf h
 refine zFn ?_
 refine zs ?_
 refine zsg ?_
 refine zrd 1 1 [(3,vi 1)] ?_
 obtain ⟨K7,hK7,h⟩:=js h
 refine WP.blockJ (fun a w=>Y 61 [(0,s1)] [] (Own fU64 22 s1 l2).fp w0 [Own fU64 22 s1 l2] (K7 = some r) a w) ?_ ?_
 ·refine WP.loop (fun n a w=>∃ (x8 : Int),Y 61 [(0,s1),(3,vi x8)] [] (Own fU64 22 s1 l2).fp w0 [Own fU64 22 s1 l2] (g_sCmp_l1 l2 fuel K7 n x8 = some r) a w) fuel ⟨1,yy H0 [0] h⟩ ?_
  rintro n a w10 ⟨x8,G9,rfl,H11,h⟩
  obtain _ | n:=n
  ·rw [g_sCmp_l1] at h; cases h
  rw [g_sCmp_l1] at h
  have sf12:=Own.isSl (St.get H11 0 rfl)
  refine zs ?_
  refine zsg ?_
  refine zr 2 2 [(11,s1),(10,vi x8)] ?_
  refine zv (vi (((List.length l2 : Nat) : Int))) (lln sf12 22 1 8) ?_
  obtain ⟨c13,e,h⟩:=ls h
  refine zed 1 4 [(13,vb c13)] ?_
  cases c13
  ·replace h:=bf h
   refine zF ?_
   refine WP.exit ?_
   exact then_e (then_e (inb_e (then_n (yy H11 [0] h))))
  replace h:=bt h
  refine zTn ?_
  refine zs ?_
  obtain ⟨K15,hK15,h⟩:=js h
  refine WP.blockJ (fun a w=>Y 61 [(0,s1),(3,vi x8)] [] (Own fU64 22 s1 l2).fp w0 [Own fU64 22 s1 l2] (K15 = some r) a w) ?_ ?_
  ·refine zs ?_
   refine WP.quiet (by kernel_rfl) (by kernel_rfl) (by kernel_rfl) (fun w=>St (Own fU64 22 s1 l2).fp w0 w [Own fU64 22 s1 l2]) (St.drew H11) ?_
   obtain ⟨hg16,h⟩:=gs h
   refine qr 2 2 [(17,vi x8),(16,s1)] ?_
   refine qv (va (slAt s1 1 (Int.toNat x8))) (fun w H=>lli sf12 22 1 8 .i64 x8 hg16) ?_
   obtain ⟨x17,hx17,h⟩:=bs h
   refine qv (vu x17) (fun w H=>lle fU64 (St.rd H 0 rfl) (hp_no_le _) hx17 0) ?_
   obtain ⟨x18,e,h⟩:=ls h
   obtain ⟨hg19,h⟩:=gs h
   refine qe 3 7 [(22,vi x18),(21,vi x8),(20,s1)] ?_
   refine qv (va (slAt s1 1 (Int.toNat x18))) (fun w H=>lli sf12 22 1 8 .i64 x18 hg19) ?_
   obtain ⟨x20,hx20,h⟩:=bs h
   refine qv (vu x20) (fun w H=>lle fU64 (St.rd H 0 rfl) (hp_no_le _) hx20 0) ?_
   obtain ⟨c21,e,h⟩:=ls h
   refine qe 1 10 [(25,vb c21)] ?_
   refine qd fun w22 H23=>?_
   refine then_n ?_
   cases c21
   ·replace h:=bf h
    refine zF ?_
    refine WP.skip ?_
    exact inb_n (then_n (yy H23 [0] h))
   replace h:=bt h
   refine zT ?_
   refine zsg ?_
   obtain ⟨hg24,h⟩:=gs h
   refine zr 2 2 [(27,vi x8),(26,s1)] ?_
   refine WPI.valueS ((slSub s1 1 (Int.toNat x8) (Int.toNat (((List.length l2 : Nat) : Int))))) 28 rfl rfl (by kernel_rfl) (ev_slice sf12 41 (.tmp 26) (some (.tmp 27)) none 22 1 8 x8 (((List.length l2 : Nat) : Int)) rfl (by kernel_rfl) (by kernel_rfl) (.inr ⟨(.tmp 27),.i64,rfl,by kernel_rfl⟩) (.inl ⟨rfl,rfl⟩) hg24) ?_
   refine zrd 1 4 [(4,(slSub s1 1 (Int.toNat x8) (Int.toNat (((List.length l2 : Nat) : Int)))))] ?_
   refine zs ?_
   refine zsg ?_
   refine zrd 1 1 [(5,vi 1)] ?_
   obtain ⟨K28,hK28,h⟩:=js h
   refine WP.blockJ (fun a w=>∃ (l25 : List Int) (x26 : Int),Y 61 [(0,s1),(3,vi x26)] [] (Own fU64 22 s1 l2).fp w0 [Own fU64 22 s1 l25] (K28 l25 x26 = some r) a w) ?_ ?_
   ·refine WP.loop (fun n a w=>∃ (l29 : List Int) (x30 : Int) (x31 : Int),Y 61 [(0,s1),(3,vi x30),(4,(slSub s1 1 (Int.toNat x8) (Int.toNat (((List.length l2 : Nat) : Int))))),(5,vi x31)] [] (Own fU64 22 s1 l2).fp w0 [Own fU64 22 s1 l29] (g_sCmp_l2 l2 x8 K28 fuel n l29 x30 x31 = some r) a w) fuel ⟨l2,x8,1,yy H23 [0] h⟩ ?_
    rintro n a w33 ⟨l29,x30,x31,G32,rfl,H34,h⟩
    obtain _ | n:=n
    ·rw [g_sCmp_l2] at h; cases h
    rw [g_sCmp_l2] at h
    have sf35:=Own.isSl (St.get H34 0 rfl)
    refine zs ?_
    refine zsg ?_
    refine zr 2 2 [(30,(slSub s1 1 (Int.toNat x8) (Int.toNat (((List.length l2 : Nat) : Int))))),(29,vi x31)] ?_
    refine zv (vi ((((Int.toNat (((List.length l2 : Nat) : Int))) - (Int.toNat x8) : Nat) : Int))) (lln (IsSl.subN (sz:=1) (lo:=(Int.toNat x8)) (hi:=(Int.toNat (((List.length l2 : Nat) : Int)))) sf12 hg24) 22 1 8) ?_
    obtain ⟨c36,e,h⟩:=ls h
    refine zed 1 4 [(32,vb c36)] ?_
    cases c36
    ·replace h:=bf h
     refine zF ?_
     refine WP.exit ?_
     exact then_e (then_e (inb_e (then_n ⟨l29,x30,yy H34 [0] h⟩)))
    replace h:=bt h
    refine zTn ?_
    obtain ⟨K40,hK40,h⟩:=js h
    refine WP.seqJ (fun a w=>∃ (l37 : List Int) (x38 : Int),Y 61 [(0,s1),(3,vi x38),(4,(slSub s1 1 (Int.toNat x8) (Int.toNat (((List.length l2 : Nat) : Int))))),(5,vi x31)] [] (Own fU64 22 s1 l2).fp w0 [Own fU64 22 s1 l37] (K40 l37 x38 = some r) a w) ?_ ?_
    ·obtain ⟨K44,hK44,h⟩:=js h
     refine WP.blockJ (fun a w=>∃ (l41 : List Int) (x42 : Int),Y 61 [(0,s1),(3,vi x42),(4,(slSub s1 1 (Int.toNat x8) (Int.toNat (((List.length l2 : Nat) : Int))))),(5,vi x31)] [] (Own fU64 22 s1 l2).fp w0 [Own fU64 22 s1 l41] (K44 l41 x42 = some r) a w) ?_ ?_
     ·refine zs ?_
      refine WP.quiet (by kernel_rfl) (by kernel_rfl) (by kernel_rfl) (fun w=>St (Own fU64 22 s1 l2).fp w0 w [Own fU64 22 s1 l29]) (St.drew H34) ?_
      obtain ⟨hg45,h⟩:=gs h
      refine qr 2 2 [(36,vi x31),(35,(slSub s1 1 (Int.toNat x8) (Int.toNat (((List.length l2 : Nat) : Int)))))] ?_
      refine qv (va (slAt (slSub s1 1 (Int.toNat x8) (Int.toNat (((List.length l2 : Nat) : Int)))) 1 (Int.toNat x31))) (fun w H=>lli (IsSl.subN (sz:=1) (lo:=(Int.toNat x8)) (hi:=(Int.toNat (((List.length l2 : Nat) : Int)))) sf12 hg24) 22 1 8 .i64 x31 hg45) ?_
      obtain ⟨x46,hx46,h⟩:=bs h
      refine qv (vu x46) (fun w H=>lle fU64 (Rd.sub (lo:=(Int.toNat x8)) (hi:=(Int.toNat (((List.length l2 : Nat) : Int)))) (St.rd H 0 rfl) (piece_lo (IsSl.vg (lo:=x8) (hi:=(((List.length l2 : Nat) : Int))) sf12 (Own.isSl (St.get H 0 rfl)) hg24)) (piece_hi (IsSl.vg (lo:=x8) (hi:=(((List.length l2 : Nat) : Int))) sf12 (Own.isSl (St.get H 0 rfl)) hg24))) (hp_no_le _) hx46 0) ?_
      obtain ⟨x47,e,h⟩:=ls h
      obtain ⟨hg48,h⟩:=gs h
      refine qe 3 7 [(41,vi x47),(40,vi x31),(39,(slSub s1 1 (Int.toNat x8) (Int.toNat (((List.length l2 : Nat) : Int)))))] ?_
      refine qv (va (slAt (slSub s1 1 (Int.toNat x8) (Int.toNat (((List.length l2 : Nat) : Int)))) 1 (Int.toNat x47))) (fun w H=>lli (IsSl.subN (sz:=1) (lo:=(Int.toNat x8)) (hi:=(Int.toNat (((List.length l2 : Nat) : Int)))) sf12 hg24) 22 1 8 .i64 x47 hg48) ?_
      obtain ⟨x49,hx49,h⟩:=bs h
      refine qv (vu x49) (fun w H=>lle fU64 (Rd.sub (lo:=(Int.toNat x8)) (hi:=(Int.toNat (((List.length l2 : Nat) : Int)))) (St.rd H 0 rfl) (piece_lo (IsSl.vg (lo:=x8) (hi:=(((List.length l2 : Nat) : Int))) sf12 (Own.isSl (St.get H 0 rfl)) hg24)) (piece_hi (IsSl.vg (lo:=x8) (hi:=(((List.length l2 : Nat) : Int))) sf12 (Own.isSl (St.get H 0 rfl)) hg24))) (hp_no_le _) hx49 0) ?_
      obtain ⟨c50,e,h⟩:=ls h
      refine qe 1 10 [(44,vb c50)] ?_
      refine qd fun w51 H52=>?_
      refine then_n ?_
      cases c50
      ·replace h:=bf h
       refine zF ?_
       refine WP.skip ?_
       exact inb_n (then_n ⟨l29,x30,yy H52 [0] h⟩)
      replace h:=bt h
      refine zT ?_
      refine zsg ?_
      obtain ⟨hg53,h⟩:=gs h
      refine zr 4 4 [(48,vi x31),(47,(slSub s1 1 (Int.toNat x8) (Int.toNat (((List.length l2 : Nat) : Int))))),(46,vi x30),(45,s1)] ?_
      refine zv (va (slAt (slSub s1 1 (Int.toNat x8) (Int.toNat (((List.length l2 : Nat) : Int)))) 1 (Int.toNat x31))) (lli (IsSl.subN (sz:=1) (lo:=(Int.toNat x8)) (hi:=(Int.toNat (((List.length l2 : Nat) : Int)))) sf12 hg24) 22 1 8 .i64 x31 hg53) ?_
      obtain ⟨x54,hx54,h⟩:=bs h
      refine zv (vu x54) (lle fU64 (Rd.sub (lo:=(Int.toNat x8)) (hi:=(Int.toNat (((List.length l2 : Nat) : Int)))) (St.rd H52 0 rfl) (piece_lo (IsSl.vg (lo:=x8) (hi:=(((List.length l2 : Nat) : Int))) sf12 (Own.isSl (St.get H52 0 rfl)) hg24)) (piece_hi (IsSl.vg (lo:=x8) (hi:=(((List.length l2 : Nat) : Int))) sf12 (Own.isSl (St.get H52 0 rfl)) hg24))) (hp_no_le _) hx54 0) ?_
      obtain ⟨hg55,h⟩:=gs h
      refine zv (va (slAt s1 1 (Int.toNat x30))) (lli sf35 22 1 8 .i64 x30 hg55) ?_
      obtain ⟨l56,hl56,h⟩:=ls h
      refine zo (oow H52 0 (Int.toNat x30) x54 false (idx_lt hg55) (fun w57 H58=>?_))
      rw [← hl56] at H58
      clear H52
      refine z0 ?_
      refine zdn ?_
      refine zg ?_
      obtain ⟨x59,e,h⟩:=ls h
      refine ze 3 3 [(3,vi x59),(53,vi x59),(52,vi x30)] ?_
      refine zd ?_
      exact inb_n (then_n ⟨l56,x59,yy H58 [0] h⟩)
     rintro a w60 ⟨l41,x42,G43,rfl,H61,h⟩
     subst hK44
     exact then_n ⟨l41,x42,yy H61 [0] h⟩
    rintro a w63 ⟨l37,x38,G39,rfl,H64,h⟩
    subst hK40
    refine zg ?_
    obtain ⟨x66,e,h⟩:=ls h
    refine ze 3 3 [(5,vi x66),(34,vi x66),(33,vi x31)] ?_
    refine zd ?_
    exact then_n ⟨n,lS n,l37,x38,x66,yy H64 [0] h⟩
   rintro a w67 ⟨l25,x26,G27,rfl,H68,h⟩
   subst hK28
   have sf69:=Own.isSl (St.get H68 0 rfl)
   refine then_n ?_
   refine zsg ?_
   obtain ⟨hg70,h⟩:=gs h
   refine zr 2 2 [(55,vi x26),(54,s1)] ?_
   refine WPI.valueS ((slSub s1 1 (Int.toNat x26) (Int.toNat (((List.length l25 : Nat) : Int))))) 56 rfl rfl (by kernel_rfl) (ev_slice sf69 41 (.tmp 54) (some (.tmp 55)) none 22 1 8 x26 (((List.length l25 : Nat) : Int)) rfl (by kernel_rfl) (by kernel_rfl) (.inr ⟨(.tmp 55),.i64,rfl,by kernel_rfl⟩) (.inl ⟨rfl,rfl⟩) hg70) ?_
   obtain ⟨l71,hl71,h⟩:=ls h
   refine WPI.op rfl (Op1.clear (F:=fU64) (0 : Int) H68 0 rfl (by kernel_rfl) 41 (.tmp 56) 8 (vu 0) rfl (by kernel_rfl) rfl rfl (Int.toNat x26) (by have:=hg70; omega) (by kernel_rfl) (fun w72 H73=>?_))
   rw [← hl71] at H73
   clear H68
   have hlc_l71 : List.length l71 = List.length l25:=by rw [hl71]; have:=hg70; simp; omega
   refine z0 ?_
   refine zdn ?_
   refine zsg ?_
   obtain ⟨hg74,h⟩:=gs h
   refine zr 2 2 [(58,vi x26),(57,s1)] ?_
   refine WPI.valueS ((slSub s1 1 0 (Int.toNat x26))) 59 rfl rfl (by kernel_rfl) (ev_slice sf69 41 (.tmp 57) none (some (.tmp 58)) 22 1 8 0 x26 rfl (by kernel_rfl) (by kernel_rfl) (.inl ⟨rfl,rfl⟩) (.inr ⟨(.tmp 58),.i64,rfl,by kernel_rfl⟩) hg74) ?_
   refine zrd 1 4 [(2,(slSub s1 1 0 (Int.toNat x26)))] ?_
   refine WP.ret ?_
   obtain ⟨l76,hl76,h⟩:=ls h
   have H75:=St.cut H73 0 rfl (Int.toNat x26) (piece_hi (IsSl.vg (lo:=0) (hi:=x26) sf69 (Own.isSl (St.get H73 0 rfl)) hg74))
   rw [← hl76] at H75
   obtain rfl:=oi h
   exact inb_r (then_r (then_r (then_r (inb_r (then_r (then_r (post_r ((slSub s1 1 0 (Int.toNat x26))) rfl (by kernel_rfl) ⟨(slSub s1 1 0 (Int.toNat x26)),rfl,sl H75 [0]⟩)))))))
  rintro a w78 ⟨G14,rfl,H79,h⟩
  subst hK15
  refine then_n ?_
  refine zg ?_
  obtain ⟨x81,e,h⟩:=ls h
  refine ze 3 3 [(3,vi x81),(15,vi x81),(14,vi x8)] ?_
  refine zd ?_
  exact then_n ⟨n,lS n,x81,yy H79 [0] h⟩
 rintro a w82 ⟨G6,rfl,H83,h⟩
 subst hK7
 refine then_n ?_
 refine zsg ?_
 refine zrd 2 2 [(2,s1),(60,s1)] ?_
 refine WP.ret ?_
 obtain rfl:=oi h
 exact post_r (s1) rfl (by kernel_rfl) ⟨s1,rfl,sl H83 [0]⟩
/- tarn/pool.Wide -/
def g_pool_Wide_l1 (p1 : TBook) (fuel : Nat) (K138 : (List Int) → Option Bool) : Nat → (List Int) → Int → Option Bool
  | 0, _, _ => none
  | n + 1, l139, x141 => lt (decide (x141 < (((List.length p1.Limbo : Nat) : Int)))) fun c146 => br c146 (gd ((0 : Int) ≤ x141 ∧ x141 < ((List.length p1.Limbo : Nat) : Int)) <| bd (p1.Limbo[Int.toNat x141]?) fun x148 => bd (g_tx_ID fuel x148.Tx) fun t162 => gd ((List.length l139 + List.length (([t162.1] : List Int))) * 8 ≤ 140737488355328) <| lt (l139 ++ (([t162.1] : List Int))) fun l172 => lt (wr .i64 (x141 + 1)) fun x177 => g_pool_Wide_l1 p1 fuel K138 n l172 x177) (K138 l139)
def g_pool_Wide (fuel : Nat) (p1 : TBook) : Option Bool :=
  jn (fun (c16 : Bool) => br c16 (some false) (bd (g_pool_chains fuel p1.Txs) fun t37 => jn (bd (g_pool_IDs fuel p1.Txs) fun t128 => jn (fun (l135 : List Int) => bd (g_sSrt fuel l135) fun t181 => jn (fun (c186 : Bool) => some c186) fun K188 => lt (wr .i64 ((((List.length p1.Txs : Nat) : Int)) + (((List.length p1.Limbo : Nat) : Int)))) fun x190 => bd (g_sCmp fuel t181) fun t191 => lt ((((List.length t191 : Nat) : Int)) == x190) fun c199 => K188 c199) fun K138 => g_pool_Wide_l1 p1 fuel K138 fuel t128 0) fun K50 => bd2 (It_pool_chains.ap fuel t37 (Unit × Nat) (rq (fun (x59 : Int × (List TTx)) (_s : Unit) => lt (decide (x59.1 < 0)) fun c76 => br c76 (some (((), 1), false)) (bd (g_chain_Spent fuel x59.2) fun t77 => jn (fun (c87 : Bool) => br c87 (some (((), 1), false)) (some (((), 0), true))) fun K89 => lt (t77.2 != 0) fun c90 => br c90 (K89 true) (gd ((0 : Int) ≤ 0 ∧ 0 < ((List.length x59.2 : Nat) : Int)) <| bd (x59.2[Int.toNat 0]?) fun x92 => gd ((0 : Int) ≤ x59.1 ∧ x59.1 < ((List.length p1.Accts : Nat) : Int)) <| bd (p1.Accts[Int.toNat x59.1]?) fun x101 => lt (x92.Nonce != x101.Nonce) fun c102 => br c102 (K89 true) (gd ((0 : Int) ≤ x59.1 ∧ x59.1 < ((List.length p1.Accts : Nat) : Int)) <| bd (p1.Accts[Int.toNat x59.1]?) fun x104 => bd (g_u256_Cmp fuel t77.1 x104.Balance) fun t105 => lt (decide (t105 > 0)) fun c106 => K89 c106))))) ((), 0)) fun z54 j55 => sw j55 0 (K50) (sw j55 1 (some false) (none)))) fun K18 => bd (g_pool_Head fuel p1.Head) fun t19 => lt (!t19) fun c23 => br c23 (K18 true) (bd (g_pool_Accts fuel p1.Accts) fun t24 => lt (!t24) fun c28 => br c28 (K18 true) (bd (g_pool_Limbo fuel p1.Limbo) fun t29 => lt (!t29) fun c33 => br c33 (K18 true) (lt (decide ((((List.length p1.Txs : Nat) : Int)) > 48)) fun c34 => K18 c34)))
theorem g_pool_Wide_w (fuel : Nat) (s2 s4 s6 : Value) (p1 : TBook) (r : Bool) (h : g_pool_Wide fuel p1 = some r) (w0 : World) (hs3 : Rd fTAcct (hp no w0) s2 p1.Accts) (hs5 : RdD dTTx (hp no w0) s4 p1.Txs) (hs7 : RdD dTHeld (hp no w0) s6 p1.Limbo) :
 Ret Tryz.prog 23 #[.agg #[vi p1.Room, vi p1.Head.Number, vu p1.Head.Base.e0, vu p1.Head.Base.e1, vu p1.Head.Base.e2, vu p1.Head.Base.e3, vi p1.Head.Excess, s2, s4, s6]] w0 (fun v w' => v = vb r ∧ St no w0 w' []) := by
 unfold g_pool_Wide at h
 refine ret_of_wpMS Tryz.func23 rfl 106 rfl [(0,.agg #[vi p1.Room,vi p1.Head.Number,vu p1.Head.Base.e0,vu p1.Head.Base.e1,vu p1.Head.Base.e2,vu p1.Head.Base.e3,vi p1.Head.Excess,s2,s4,s6])] (by kernel_rfl) (fun G=>?_)
 have H0:=St.start w0
 refine zsg ?_
 refine zo (obx H0 #[vi p1.Room,vi p1.Head.Number,vu p1.Head.Base.e0,vu p1.Head.Base.e1,vu p1.Head.Base.e2,vu p1.Head.Base.e3,vi p1.Head.Excess,s2,s4,s6] 31 (fun b8 w10 H11=>?_))
 refine zn ?_
 refine zo (oal H11 #[vb false] 4 (fun b12 w14 H15=>?_))
 clear H11
 refine zn ?_
 refine zdn ?_
 refine zs ?_
 refine zs ?_
 obtain ⟨K18,hK18,h⟩:=js h
 refine WP.onlyN (fun a w=>∃ (c16 : Bool),Y 106 [(1,vp b8 0),(2,vp b12 0),(33,vb c16)] [] no w0 [Box b12 #[vb false] 4,Box b8 #[vi p1.Room,vi p1.Head.Number,vu p1.Head.Base.e0,vu p1.Head.Base.e1,vu p1.Head.Base.e2,vu p1.Head.Base.e3,vi p1.Head.Excess,s2,s4,s6] 31] (K18 c16 = some r) a w) ?_ ?_
 ·refine zg ?_
  refine zr 1 1 [(12,vp b8 1)] ?_
  refine zv (THead.val p1.Head) (llb H15 1 1) ?_
  obtain ⟨t19,ht19,h⟩:=bs h
  refine zo (oca (g_pool_Head_w fuel p1.Head t19 ht19 _) ?_)
  rintro _ w20 ⟨rfl,Hc21⟩
  have H22:=St.call0' H15 Hc21
  clear H15 Hc21
  obtain ⟨c23,e,h⟩:=ls h
  refine zn ?_
  refine ze 2 5 [(16,vb c23),(15,vb c23)] ?_
  cases c23
  rotate_left
  ·replace h:=bt h
   refine zr 17 22 [(33,vb true),(32,Z),(31,Z),(30,Z),(29,Z),(28,vb true),(27,vb true),(26,Z),(25,Z),(24,Z),(23,Z),(22,vb true),(21,vb true),(20,Z),(19,Z),(18,Z),(17,Z)] ?_
   refine zd ?_
   exact ⟨true,yy H22 [0,1] h⟩
  replace h:=bf h
  refine zr 1 6 [(17,vp b8 7)] ?_
  refine zv (s2) (llb H22 1 7) ?_
  obtain ⟨t24,ht24,h⟩:=bs h
  refine zo (oca (g_pool_Accts_w fuel s2 p1.Accts t24 ht24 _ (Rd.arg0 hs3 H22)) ?_)
  rintro _ w25 ⟨rfl,Hc26⟩
  have H27:=St.call0' H22 Hc26
  clear H22 Hc26
  obtain ⟨c28,e,h⟩:=ls h
  refine zn ?_
  refine ze 3 11 [(22,vb c28),(21,vb c28),(20,vb c28)] ?_
  cases c28
  rotate_left
  ·replace h:=bt h
   refine zr 11 22 [(33,vb true),(32,Z),(31,Z),(30,Z),(29,Z),(28,vb true),(27,vb true),(26,Z),(25,Z),(24,Z),(23,Z)] ?_
   refine zd ?_
   exact ⟨true,yy H27 [0,1] h⟩
  replace h:=bf h
  refine zr 1 12 [(23,vp b8 9)] ?_
  refine zv (s6) (llb H27 1 9) ?_
  obtain ⟨t29,ht29,h⟩:=bs h
  refine zo (oca (g_pool_Limbo_w fuel s6 p1.Limbo t29 ht29 _ (RdD.mono (sub_hp (St.hp_le H27)) hs7)) ?_)
  rintro _ w30 ⟨rfl,Hc31⟩
  have H32:=St.call0' H27 Hc31
  clear H27 Hc31
  obtain ⟨c33,e,h⟩:=ls h
  refine zn ?_
  refine ze 3 17 [(28,vb c33),(27,vb c33),(26,vb c33)] ?_
  cases c33
  rotate_left
  ·replace h:=bt h
   refine zr 5 22 [(33,vb true),(32,Z),(31,Z),(30,Z),(29,Z)] ?_
   refine zd ?_
   exact ⟨true,yy H32 [0,1] h⟩
  replace h:=bf h
  refine zr 1 18 [(29,vp b8 8)] ?_
  refine zv (s4) (llb H32 1 8) ?_
  refine zv (vi (((List.length p1.Txs : Nat) : Int))) (lln (RdD.sl hs5) 44 21 200) ?_
  obtain ⟨c34,e,h⟩:=ls h
  refine ze 2 22 [(33,vb c34),(32,vb c34)] ?_
  refine zd ?_
  exact ⟨c34,yy H32 [0,1] h⟩
 rintro a w35 ⟨c16,G17,rfl,H36,h⟩
 subst hK18
 refine then_n ?_
 cases c16
 rotate_left
 ·replace h:=bt h
  refine zT ?_
  refine zsg ?_
  refine zo (osb H36 0 0 (vb false) #[vb false] false (flat_one1 fBool false) (fun w206 H207=>?_))
  clear H36
  refine z0 ?_
  refine zdn ?_
  refine WP.ret ?_
  refine then_r ((postM (.inl rfl) [] rfl ?_))
  obtain rfl:=oi h
  exact ⟨vb false,(results_cell rfl (by kernel_rfl) (run_loadAt (ad:=(⟨b12,0,none⟩ : Addr)) (off:=0) (St.boxAt H207 0 rfl) (le_self _) (by kernel_rfl))),⟨rfl,sl H207 []⟩⟩
 replace h:=bf h
 refine zFn ?_
 refine zs ?_
 refine zsg ?_
 refine zr 1 1 [(34,vp b8 8)] ?_
 refine zv (s4) (llb H36 1 8) ?_
 obtain ⟨t37,ht37,h⟩:=bs h
 refine zo (oca (g_pool_chains_w fuel s4 p1.Txs t37 ht37 _ (hp no w0) (St.hp_le H36) hs5) ?_)
 rintro _ w42 ⟨q38,C39,rfl,hit41,Hc43⟩
 have H44:=St.call0 H36 Hc43
 clear H36 Hc43
 obtain ⟨k45,cap46,rfl⟩:=IW.form hit41
 refine zn ?_
 refine zdn ?_
 obtain ⟨K50,hK50,h⟩:=js h
 refine WP.blockJ (fun a w=>∃ (D47 : Nat),Y 106 [(1,vp b8 0),(2,vp b12 0)] [mk D47] no w0 [DMark D47,Box b12 #[vb false] 4,Box b8 #[vi p1.Room,vi p1.Head.Number,vu p1.Head.Base.e0,vu p1.Head.Base.e1,vu p1.Head.Base.e2,vu p1.Head.Base.e3,vi p1.Head.Excess,s2,s4,s6] 31] (K50 = some r) a w) ?_ ?_
 ·have H52:=St.sel (Rs':=[C39,Box b12 #[vb false] 4,Box b8 #[vi p1.Room,vi p1.Head.Number,vu p1.Head.Base.e0,vu p1.Head.Base.e1,vu p1.Head.Base.e2,vu p1.Head.Base.e3,vi p1.Head.Excess,s2,s4,s6] 31]) H44 [0,1,2] (by decide) rfl
  have hO53:=St.outer H52
  obtain ⟨z54,j55,hz56,h⟩:=bd2_some h
  refine WP.rangeW H52 hit41 (by kernel_rfl) (outer no w42 [C39,Box b12 #[vb false] 4,Box b8 #[vi p1.Room,vi p1.Head.Number,vu p1.Head.Base.e0,vu p1.Head.Base.e1,vu p1.Head.Base.e2,vu p1.Head.Base.e3,vi p1.Head.Excess,s2,s4,s6] 31]) hO53 outer_disC outer_le outer_disT (fun (s : Unit) (t : Unit)=>[Box b12 #[vb false] 4,Box b8 #[vi p1.Room,vi p1.Head.Number,vu p1.Head.Base.e0,vu p1.Head.Base.e1,vu p1.Head.Base.e2,vu p1.Head.Base.e3,vi p1.Head.Excess,s2,s4,s6] 31]) (jmp [.ret]) _ () () rfl rfl (z54,j55) hz56 ?_ ?_ (rq_stop _ _) (jmp_none _) ?_
  ·rintro _ _ _ _ ⟨_,rfl,_⟩; rfl
  ·rintro L57 rc58 _ x59 _ _ z69 M61 w60 hr62 hp63 ⟨s70,rfl,hs71⟩ hq65 hL66 hD67 H68
   have h:=rq_get hq65
   try dsimp only at h
   have H72 : St M61 w60 w60 [Thing L57 (.loop rc58),Box b12 #[vb false] 4,Box b8 #[vi p1.Room,vi p1.Head.Number,vu p1.Head.Base.e0,vu p1.Head.Base.e1,vu p1.Head.Base.e2,vu p1.Head.Base.e3,vi p1.Head.Excess,s2,s4,s6] 31]:=H68
   clear H68
   refine WP.roundS2 [(1,vp b8 0),(2,vp b12 0),(33,vb false),(34,vp b8 8),(35,s4),(36,Value.func (.func k45) #[] cap46),(37,vi x59.1),(38,s70)] (by kernel_rfl) (fun G73=>?_)
   refine zsg ?_
   refine zrd 1 1 [(3,vi x59.1)] ?_
   refine zg ?_
   refine zr 1 1 [(4,s70)] ?_
   refine zd ?_
   refine (rbegun H72 0 rfl hr62 hp63 (fun w74 H75=>?_))
   clear H72
   refine WP.block ?_
   refine zs ?_
   refine zsg ?_
   obtain ⟨c76,e,h⟩:=ls h
   refine zed 2 2 [(40,vb c76),(39,vi x59.1)] ?_
   cases c76
   rotate_left
   ·replace h:=bt h
    refine zT ?_
    refine zsg ?_
    refine zo (osb H75 1 0 (vb false) #[vb false] false (flat_one1 fBool false) (fun w117 H118=>?_))
    clear H75
    refine z0 ?_
    refine zdn ?_
    refine WP.ret ?_
    exact then_r (inb_r ⟨1,rfl,(),(),(oi h).symm,sl H118 [1,0,2]⟩)
   replace h:=bf h
   refine zFn ?_
   refine zsg ?_
   obtain ⟨t77,ht77,h⟩:=bs h
   refine zr 1 1 [(42,s70)] ?_
   refine zo (oca (g_chain_Spent_w fuel s70 x59.2 t77 ht77 _ (RdD.mono (sub_hp (St.hp_le H75)) hs71)) ?_)
   rintro _ w78 ⟨rfl,Hc79⟩
   have H80:=St.call0' H75 Hc79
   clear H75 Hc79
   refine zn ?_
   refine zr 3 5 [(45,vi t77.2),(44,TU256.val t77.1),(41,.tuple #[TU256.val t77.1,vi t77.2])] ?_
   refine zo (oal H80 #[vu 0,vu 0,vu 0,vu 0] 24 (fun b81 w83 H84=>?_))
   clear H80
   refine zn ?_
   refine zo (osb H84 0 0 (TU256.val t77.1) (TU256.cs t77.1).toArray true (flat_one1 fTU256 t77.1) (fun w85 H86=>?_))
   clear H84
   refine z0 ?_
   refine zrd 1 8 [(6,vi t77.2)] ?_
   refine zs ?_
   obtain ⟨K89,hK89,h⟩:=js h
   refine WP.onlyN (fun a w=>∃ (c87 : Bool),Y 106 [(2,vp b12 0),(71,vb c87)] [] M61 w60 [Thing L57 (.loop (busy rc58)),Box b81 (TU256.cs t77.1).toArray 24,Box b12 #[vb false] 4,Box b8 #[vi p1.Room,vi p1.Head.Number,vu p1.Head.Base.e0,vu p1.Head.Base.e1,vu p1.Head.Base.e2,vu p1.Head.Base.e3,vi p1.Head.Excess,s2,s4,s6] 31] (K89 c87 = some z69) a w) ?_ ?_
   ·refine WP.quiet (by kernel_rfl) (by kernel_rfl) (by kernel_rfl) (fun w=>St M61 w60 w [Box b81 (TU256.cs t77.1).toArray 24,Thing L57 (.loop (busy rc58)),Box b12 #[vb false] 4,Box b8 #[vi p1.Room,vi p1.Head.Number,vu p1.Head.Base.e0,vu p1.Head.Base.e1,vu p1.Head.Base.e2,vu p1.Head.Base.e3,vi p1.Head.Excess,s2,s4,s6] 31]) (St.drew H86) ?_
    obtain ⟨c90,e,h⟩:=ls h
    refine qe 3 3 [(48,vb c90),(47,vb c90),(46,vi t77.2)] ?_
    cases c90
    rotate_left
    ·replace h:=bt h
     refine qr 23 26 [(71,vb true),(70,Z),(69,Z),(68,Z),(67,Z),(66,Z),(65,Z),(64,Z),(63,Z),(62,Z),(61,vb true),(60,vb true),(59,Z),(58,Z),(57,Z),(56,Z),(55,Z),(54,Z),(53,Z),(52,Z),(51,Z),(50,Z),(49,Z)] ?_
     refine qd fun w111 H112=>?_
     exact ⟨true,yy H112 [1,0,2,3] h⟩
    replace h:=bf h
    obtain ⟨hg91,h⟩:=gs h
    refine qr 1 4 [(49,s70)] ?_
    refine qv (va (slAt s70 21 (Int.toNat 0))) (fun w H=>lli (RdD.sl hs71) 44 21 200 .i64 0 hg91) ?_
    obtain ⟨x92,hx92,h⟩:=bs h
    obtain ⟨c97,hr98,hc99⟩:=RdD.at_ hs71 _ _ hx92
    obtain ⟨s93,s95,rfl,hs94,hs96⟩:=hr98
    refine qr 1 6 [(51,va ((slAt s70 21 (Int.toNat 0)).add 1))] ?_
    refine qv (vi x92.Nonce) (fun w H=>lld 1 hc99 (St.hp_le H)) ?_
    refine qr 1 8 [(53,vp b8 7)] ?_
    refine qv (s2) (fun w H=>llb H 3 7) ?_
    obtain ⟨hg100,h⟩:=gs h
    refine qr 1 10 [(55,vi x59.1)] ?_
    refine qv (va (slAt s2 5 (Int.toNat x59.1))) (fun w H=>lli (Rd.sl hs3) 71 5 40 .i64 x59.1 hg100) ?_
    obtain ⟨x101,hx101,h⟩:=bs h
    refine qr 1 12 [(57,va (slAt s2 5 (Int.toNat x59.1)))] ?_
    refine qv (vi x101.Nonce) (fun w H=>lle fTAcct (Rd.mono hO53 hs3) (St.hle H hL66 hD67) hx101 0) ?_
    obtain ⟨c102,e,h⟩:=ls h
    refine qe 3 16 [(61,vb c102),(60,vb c102),(59,vb c102)] ?_
    cases c102
    rotate_left
    ·replace h:=bt h
     refine qr 10 26 [(71,vb true),(70,Z),(69,Z),(68,Z),(67,Z),(66,Z),(65,Z),(64,Z),(63,Z),(62,Z)] ?_
     refine qd fun w109 H110=>?_
     exact ⟨true,yy H110 [1,0,2,3] h⟩
    replace h:=bf h
    refine qv (TU256.val t77.1) (fun w H=>llb H 0 0) ?_
    refine qr 1 18 [(63,vp b8 7)] ?_
    refine qv (s2) (fun w H=>llb H 3 7) ?_
    obtain ⟨hg103,h⟩:=gs h
    refine qr 1 20 [(65,vi x59.1)] ?_
    refine qv (va (slAt s2 5 (Int.toNat x59.1))) (fun w H=>lli (Rd.sl hs3) 71 5 40 .i64 x59.1 hg103) ?_
    obtain ⟨x104,hx104,h⟩:=bs h
    refine qr 1 22 [(67,va ((slAt s2 5 (Int.toNat x59.1)).add 1))] ?_
    refine qv (TU256.val x104.Balance) (fun w H=>lle fTAcct (Rd.mono hO53 hs3) (St.hle H hL66 hD67) hx104 1) ?_
    obtain ⟨t105,ht105,h⟩:=bs h
    refine qc (vi t105) (fun w H=>Ret.mono (g_u256_Cmp_w fuel t77.1 x104.Balance t105 ht105 _) fun u w1 hu=>⟨hu.1,St.call0' H hu.2⟩) ?_
    obtain ⟨c106,e,h⟩:=ls h
    refine qe 2 26 [(71,vb c106),(70,vb c106)] ?_
    refine qd fun w107 H108=>?_
    exact ⟨c106,yy H108 [1,0,2,3] h⟩
   rintro a w113 ⟨c87,G88,rfl,H114,h⟩
   subst hK89
   refine then_n ?_
   cases c87
   ·replace h:=bf h
    refine zF ?_
    refine WP.skip ?_
    exact inb_n ⟨0,rfl,(),(),(oi h).symm,sl H114 [0,2,3]⟩
   replace h:=bt h
   refine zT ?_
   refine zsg ?_
   refine zo (osb H114 2 0 (vb false) #[vb false] false (flat_one1 fBool false) (fun w115 H116=>?_))
   clear H114
   refine z0 ?_
   refine zdn ?_
   refine WP.ret ?_
   exact inb_r ⟨1,rfl,(),(),(oi h).symm,sl H116 [1,0,3]⟩
  rintro D119 _ w120 H121
  have H123 : St no w0 w120 [DMark D119,Box b12 #[vb false] 4,Box b8 #[vi p1.Room,vi p1.Head.Number,vu p1.Head.Base.e0,vu p1.Head.Base.e1,vu p1.Head.Base.e2,vu p1.Head.Base.e3,vi p1.Head.Excess,s2,s4,s6] 31]:=H121
  clear H121
  refine aftS ?_
  obtain _ | j55:=j55
  ·replace h:=sw_t h
   refine aft_n rfl ?_
   exact inb_n (then_n ⟨D119,yy H123 [0,1,2] h⟩)
  replace h:=sw_f rfl h
  obtain _ | j55:=j55
  ·replace h:=sw_t h
   refine aft_c (.ret) rfl ?_
   refine WP.ret ?_
   refine inb_r (then_r (then_r ((postM (.inl rfl) [D119] rfl ?_))))
   refine Unw.mark H123 0 rfl (fun w124 H125=>?_)
   obtain rfl:=oi h
   exact ⟨vb false,(results_cell rfl (by kernel_rfl) (run_loadAt (ad:=(⟨b12,0,none⟩ : Addr)) (off:=0) (St.boxAt H125 0 rfl) (le_self _) (by kernel_rfl))),⟨rfl,sl H125 []⟩⟩
  replace h:=sw_f rfl h
  cases h
 rintro a w126 ⟨D47,G49,rfl,H127,h⟩
 subst hK50
 refine then_n ?_
 refine zsg ?_
 refine zr 1 1 [(72,vp b8 8)] ?_
 refine zv (s4) (llb H127 2 8) ?_
 obtain ⟨t128,ht128,h⟩:=bs h
 refine zo (oca (g_pool_IDs_w fuel s4 p1.Txs t128 ht128 _ (RdD.mono (sub_hp (St.hp_le H127)) hs5)) ?_)
 rintro s129 w132 ⟨_,rfl,Hc133⟩
 have H134:=St.call0 H127 Hc133
 clear H127 Hc133
 refine zn ?_
 refine zrd 1 4 [(7,s129)] ?_
 refine zs ?_
 refine zsg ?_
 refine zr 1 1 [(75,vp b8 9)] ?_
 refine zv (s6) (llb H134 3 9) ?_
 refine zv (vi (((List.length p1.Limbo : Nat) : Int))) (lln (RdD.sl hs7) 46 22 208) ?_
 refine zrd 1 4 [(78,vi 0)] ?_
 obtain ⟨K138,hK138,h⟩:=js h
 refine WP.blockJ (fun a w=>∃ (l135 : List Int) (s136 : Value),Y 106 [(1,vp b8 0),(2,vp b12 0),(7,s136)] [mk D47] no w0 [DMark D47,Box b12 #[vb false] 4,Box b8 #[vi p1.Room,vi p1.Head.Number,vu p1.Head.Base.e0,vu p1.Head.Base.e1,vu p1.Head.Base.e2,vu p1.Head.Base.e3,vi p1.Head.Excess,s2,s4,s6] 31,Own fU64 22 s136 l135] (K138 l135 = some r) a w) ?_ ?_
 ·refine WP.loop (fun n a w=>∃ (l139 : List Int) (x141 : Int) (s140 : Value),Y 106 [(1,vp b8 0),(2,vp b12 0),(7,s140),(76,s6),(77,vi (((List.length p1.Limbo : Nat) : Int))),(78,vi x141)] [mk D47] no w0 [DMark D47,Box b12 #[vb false] 4,Box b8 #[vi p1.Room,vi p1.Head.Number,vu p1.Head.Base.e0,vu p1.Head.Base.e1,vu p1.Head.Base.e2,vu p1.Head.Base.e3,vi p1.Head.Excess,s2,s4,s6] 31,Own fU64 22 s140 l139] (g_pool_Wide_l1 p1 fuel K138 n l139 x141 = some r) a w) fuel ⟨t128,0,s129,yy H134 [1,2,3,0] h⟩ ?_
  rintro n a w143 ⟨l139,x141,s140,G142,rfl,H144,h⟩
  obtain _ | n:=n
  ·rw [g_pool_Wide_l1] at h; cases h
  rw [g_pool_Wide_l1] at h
  refine zsg ?_
  obtain ⟨c146,e,h⟩:=ls h
  refine zed 1 1 [(79,vb c146)] ?_
  refine zs ?_
  cases c146
  ·replace h:=bf h
   refine zF ?_
   refine WP.exit ?_
   exact then_e (then_e (inb_e (then_n ⟨l139,s140,yy H144 [0,1,2,3] h⟩)))
  replace h:=bt h
  refine zTn ?_
  refine zs ?_
  refine WP.block ?_
  refine zsg ?_
  obtain ⟨hg147,h⟩:=gs h
  refine zv (va (slAt s6 22 (Int.toNat x141))) (lli (RdD.sl hs7) 46 22 208 .i64 x141 hg147) ?_
  obtain ⟨x148,hx148,h⟩:=bs h
  obtain ⟨c153,hr154,hc155⟩:=RdD.at_ hs7 _ _ hx148
  obtain ⟨s149,s151,rfl,hs150,hs152⟩:=hr154
  refine zv ((gHd x148 s149 s151)) (lld 0 hc155 (St.hp_le H144)) ?_
  refine zo (oal H144 #[vi 0,vi 0,vu 0,vu 0,vu 0,vu 0,vu 0,vu 0,vu 0,vu 0,vu 0,vu 0,vu 0,vu 0,vu 0,vu 0,vu 0,vu 0,vi 0,vn,vn,vi 0] 46 (fun b156 w158 H159=>?_))
  clear H144
  refine zn ?_
  refine zo (osb H159 0 0 ((gHd x148 s149 s151)) #[vi x148.Tx.From,vi x148.Tx.Nonce,vu x148.Tx.Tip.e0,vu x148.Tx.Tip.e1,vu x148.Tx.Tip.e2,vu x148.Tx.Tip.e3,vu x148.Tx.Cap.e0,vu x148.Tx.Cap.e1,vu x148.Tx.Cap.e2,vu x148.Tx.Cap.e3,vu x148.Tx.BlobCap.e0,vu x148.Tx.BlobCap.e1,vu x148.Tx.BlobCap.e2,vu x148.Tx.BlobCap.e3,vu x148.Tx.Value_.e0,vu x148.Tx.Value_.e1,vu x148.Tx.Value_.e2,vu x148.Tx.Value_.e3,vi x148.Tx.Gas,s149,s151,vi x148.Block] true (oc1 rfl (oc1 rfl (oc1 rfl (oc1 rfl (oc1 rfl (oc1 rfl (oc1 rfl (oc1 rfl (oc1 rfl (oc1 rfl (oc1 rfl (oc1 rfl (oc1 rfl (oc1 rfl (oc1 rfl (oc1 rfl (oc1 rfl (oc1 rfl (oc1 rfl (oc1 (IsSl.one (Rd.sl hs150)) (oc1 (IsSl.one (Rd.sl hs152)) (oc1 rfl oc0)))))))))))))))))))))) (fun w160 H161=>?_))
  clear H159
  refine z0 ?_
  refine zdn ?_
  refine zsg ?_
  refine zr 1 1 [(83,vp b156 0)] ?_
  refine zv ((gTx x148.Tx s149 s151)) (llb H161 0 0) ?_
  obtain ⟨t162,ht162,h⟩:=bs h
  refine zo (oca (g_tx_ID_w fuel s149 s151 x148.Tx t162 ht162 _ (Rd.arg0 hs150 H161) (Rd.arg0 hs152 H161)) ?_)
  rintro _ w163 ⟨rfl,Hc164⟩
  have H165:=St.call0' H161 Hc164
  clear H161 Hc164
  refine zn ?_
  refine zrd 5 8 [(11,vi t162.2),(10,vu t162.1),(87,vi t162.2),(86,vu t162.1),(82,.tuple #[vu t162.1,vi t162.2])] ?_
  refine zg ?_
  refine zr 2 2 [(89,vu t162.1),(88,s140)] ?_
  refine WPI.op rfl (Op1.lit (F:=fU64) (E:=22) H165 (by kernel_rfl) ([t162.1] : List Int) (fun w=>by kernel_rfl) (by simp [maxLen]) (fun s167 w169 H170=>?_))
  clear H165
  obtain ⟨hg171,h⟩:=gs h
  obtain ⟨l172,hl172,h⟩:=ls h
  refine zn ?_
  refine WPI.op rfl (Op1.append (F:=fU64) H170 5 rfl (by kernel_rfl) 41 (.tmp 88) (.tmp 90) 8 rfl (by kernel_rfl) (by kernel_rfl) s167 (([t162.1] : List Int)) (St.rd H170 0 rfl) (hp_no_le _) (by kernel_rfl) (app_len hg171 (by decide)) (fun s173 w175 H176=>?_))
  rw [← hl172] at H176
  clear H170
  refine zn ?_
  refine zr 1 5 [(7,s173)] ?_
  refine zd ?_
  refine inb_n (then_n ?_)
  refine zg ?_
  obtain ⟨x177,e,h⟩:=ls h
  refine ze 2 2 [(78,vi x177),(92,vi x177)] ?_
  refine zd ?_
  exact then_n ⟨n,lS n,l172,x177,s173,yy H176 [3,4,5,0] h⟩
 rintro a w178 ⟨l135,s136,G137,rfl,H179,h⟩
 subst hK138
 refine then_n ?_
 refine zsg ?_
 obtain ⟨t181,ht181,h⟩:=bs h
 refine zr 1 1 [(93,s136)] ?_
 refine zo (oca (g_sSrt_w fuel s136 l135 t181 ht181 _ (St.get H179 3 rfl)) ?_)
 rintro _ w183 ⟨rfl,Hc184⟩
 have H185:=St.call1 H179 3 rfl Hc184
 clear H179 Hc184
 refine zn ?_
 refine zdn ?_
 refine zs ?_
 obtain ⟨K188,hK188,h⟩:=js h
 refine WP.drawI (by kernel_rfl) (by kernel_rfl) (fun w=>St no w0 w [Box b8 #[vi p1.Room,vi p1.Head.Number,vu p1.Head.Base.e0,vu p1.Head.Base.e1,vu p1.Head.Base.e2,vu p1.Head.Base.e3,vi p1.Head.Excess,s2,s4,s6] 31]) [1,11] (fun w=>St no w0 w [Own fU64 22 s136 t181,DMark D47,Box b12 #[vb false] 4,Box b8 #[vi p1.Room,vi p1.Head.Number,vu p1.Head.Base.e0,vu p1.Head.Base.e1,vu p1.Head.Base.e2,vu p1.Head.Base.e3,vi p1.Head.Excess,s2,s4,s6] 31]) (fun a w=>∃ (c186 : Bool),Y 106 [(2,vp b12 0)] [mk D47] no w0 [DMark D47,Box b12 #[vb c186] 4,Box b8 #[vi p1.Room,vi p1.Head.Number,vu p1.Head.Base.e0,vu p1.Head.Base.e1,vu p1.Head.Base.e2,vu p1.Head.Base.e3,vi p1.Head.Excess,s2,s4,s6] 31] (K188 c186 = some r) a w) 12 #[F,F,F,F,F,F,F,F,F,F,F,F] (by kernel_rfl) (by kernel_rfl) ?_ ?_
 ·have H189:=St.drew H185
  refine WI.runS [0,3] 10 _ #[T,F,F,T,F,F,F,F,F,F,F,F] [(98,vp b8 8),(95,s136)] rfl (fun K=>by kernel_rfl) ?_
  refine WI.takeS 4 (s4) 99 rfl rfl (by kernel_rfl) (by kernel_rfl) (fun w H=>ev_loadBox H 0 rfl 28 (.tmp 98) 8 (s4) rfl (by kernel_rfl) (by kernel_rfl)) (li':=#[T,F,F,T,T,F,F,F,F,F,F,F]) (by kernel_rfl) ?_
  refine WI.takeS 5 (vi (((List.length p1.Txs : Nat) : Int))) 100 rfl rfl (by kernel_rfl) (by kernel_rfl) (fun w H=>ev_len (RdD.sl hs5) 28 (.tmp 99) 44 21 200 rfl (by kernel_rfl) (by kernel_rfl)) (li':=#[T,F,F,T,T,T,F,F,F,F,F,F]) (by kernel_rfl) ?_
  refine WI.runS [6] 7 _ #[T,F,F,T,T,T,T,F,F,F,F,F] [(101,vp b8 9)] rfl (fun K=>by kernel_rfl) ?_
  refine WI.takeS 7 (s6) 102 rfl rfl (by kernel_rfl) (by kernel_rfl) (fun w H=>ev_loadBox H 0 rfl 29 (.tmp 101) 9 (s6) rfl (by kernel_rfl) (by kernel_rfl)) (li':=#[T,F,F,T,T,T,T,T,F,F,F,F]) (by kernel_rfl) ?_
  refine WI.takeS 8 (vi (((List.length p1.Limbo : Nat) : Int))) 103 rfl rfl (by kernel_rfl) (by kernel_rfl) (fun w H=>ev_len (RdD.sl hs7) 29 (.tmp 102) 46 22 208 rfl (by kernel_rfl) (by kernel_rfl)) (li':=#[T,F,F,T,T,T,T,T,T,F,F,F]) (by kernel_rfl) ?_
  obtain ⟨x190,hx190,h⟩:=ls h
  refine WI.runS [9] 4 _ #[T,F,F,T,T,T,T,T,T,T,F,F] [(104,vi x190)] rfl (fun K=>by subst hx190; kernel_rfl) ?_
  obtain ⟨t191,ht191,h⟩:=bs h
  refine WI.one 1 (by kernel_rfl) (nod (sl H189 [3]) (sl H189 [0,1,2,3])) rfl (Op1.call (by kernel_rfl) (by kernel_rfl) (g_sCmp_w fuel s136 t181 t191 ht191 _ (St.get H189 0 rfl)) ?_)
  rintro s192 w196 ⟨_,rfl,Hc197⟩
  have H198:=St.call1 H189 0 rfl Hc197
  clear H189 Hc197
  have sf194:=Own.isSl (St.get H198 0 rfl)
  refine WI.nS 96 #[T,T,F,T,T,T,T,T,T,T,F,F] (by kernel_rfl) rfl ?_
  refine WI.takeS 2 (vi (((List.length t191 : Nat) : Int))) 97 rfl rfl (by kernel_rfl) (by kernel_rfl) (fun w H=>ev_len sf194 41 (.tmp 96) 22 1 8 rfl (by kernel_rfl) (by kernel_rfl)) (li':=#[T,T,T,T,T,T,T,T,T,T,F,F]) (by kernel_rfl) ?_
  obtain ⟨c199,hc199,h⟩:=ls h
  refine WI.runS [10] 1 _ #[T,T,T,T,T,T,T,T,T,T,T,F] [(105,vb c199)] rfl (fun K=>by subst hc199; kernel_rfl) ?_
  refine WI.one 11 (by kernel_rfl) (nod0 (sl H198 [3]) 1 (by decide) (by kernel_rfl)) rfl (Op1.storeBox H198 2 rfl (by kernel_rfl) 4 (.tmp 2) (.tmp 105) 0 (vb c199) #[vb c199] false rfl (by kernel_rfl) (by kernel_rfl) (by kernel_rfl) (by kernel_rfl) (by kernel_rfl) (flat_one1 fBool c199) (fun w200 H201=>?_))
  clear H198
  refine WI.nS0 #[T,T,T,T,T,T,T,T,T,T,T,T] (by kernel_rfl) rfl ?_
  refine WI.done (by kernel_rfl) (nod0 (sl H201 [3]) 1 (by decide) (by kernel_rfl)) ?_
  exact ⟨c199,yy H201 [2,0,3] h⟩
 rintro a w202 ⟨c186,G187,rfl,H203,h⟩
 subst hK188
 refine then_n ?_
 refine WP.ret ?_
 refine (postM (.inl rfl) [D47] rfl ?_)
 refine Unw.mark H203 0 rfl (fun w204 H205=>?_)
 obtain rfl:=oi h
 exact ⟨vb c186,(results_cell rfl (by kernel_rfl) (run_loadAt (ad:=(⟨b12,0,none⟩ : Addr)) (off:=0) (St.boxAt H205 0 rfl) (le_self _) (by kernel_rfl))),⟨rfl,sl H205 []⟩⟩
/- tarn/size.Shelf -/
def g_size_Shelf_l1 (p1 : Int) (K4 : Option (Int × Int)) (fuel : Nat) : Nat → Int → Option (Int × Int)
  | 0, _ => none
  | n + 1, x5 => lt (decide (x5 < 4)) fun c9 => br c9 (gd ((0 : Int) ≤ x5) <| lt (ishl .i64 128 x5) fun x11 => lt (wr .i64 (x11 - 16)) fun x12 => lt (decide (p1 ≤ x12)) fun c13 => br c13 (some (x5, 0)) (lt (wr .i64 (x5 + 1)) fun x14 => g_size_Shelf_l1 p1 K4 fuel n x14)) (K4)
def g_size_Shelf (fuel : Nat) (p1 : Int) : Option (Int × Int) :=
  lt (decide (p1 < 0)) fun c2 => br c2 (some (0, 1)) (jn (some (0, 2)) fun K4 => g_size_Shelf_l1 p1 K4 fuel fuel 0)
theorem g_size_Shelf_w (fuel : Nat) (p1 : Int) (r : Int × Int) (h : g_size_Shelf fuel p1 = some r) (w0 : World) :
 Ret Tryz.prog 26 #[vi p1] w0 (fun v w' => v = .tuple #[vi r.1, vi r.2] ∧ St no w0 w' []) := by
 unfold g_size_Shelf at h
 refine ret_of_wpS Tryz.func26 rfl 17 rfl [(0,vi p1)] (by kernel_rfl) (fun G=>?_)
 have H0:=St.start w0
 refine zsg ?_
 refine zrd 2 2 [(3,vi 0),(2,vi 0)] ?_
 refine zs ?_
 refine zsg ?_
 obtain ⟨c2,e,h⟩:=ls h
 refine zed 2 2 [(6,vb c2),(5,vi p1)] ?_
 cases c2
 rotate_left
 ·replace h:=bt h
  refine zT ?_
  refine zsg ?_
  refine zrd 2 2 [(3,vi 1),(2,vi 0)] ?_
  refine WP.ret ?_
  obtain rfl:=oi h
  exact then_r (post_r (.tuple #[vi 0,vi 1]) rfl (by kernel_rfl) ⟨rfl,sl H0 []⟩)
 replace h:=bf h
 refine zFn ?_
 refine zs ?_
 refine zsg ?_
 refine zrd 1 1 [(7,vi 0)] ?_
 obtain ⟨K4,hK4,h⟩:=js h
 refine WP.blockJ (fun a w=>Y 17 [] [] no w0 [] (K4 = some r) a w) ?_ ?_
 ·refine WP.loop (fun n a w=>∃ (x5 : Int),Y 17 [(0,vi p1),(7,vi x5)] [] no w0 [] (g_size_Shelf_l1 p1 K4 fuel n x5 = some r) a w) fuel ⟨0,yy H0 [] h⟩ ?_
  rintro n a w7 ⟨x5,G6,rfl,H8,h⟩
  obtain _ | n:=n
  ·rw [g_size_Shelf_l1] at h; cases h
  rw [g_size_Shelf_l1] at h
  refine zsg ?_
  obtain ⟨c9,e,h⟩:=ls h
  refine zed 1 1 [(8,vb c9)] ?_
  refine zs ?_
  cases c9
  ·replace h:=bf h
   refine zF ?_
   refine WP.exit ?_
   exact then_e (then_e (inb_e (then_n (yy H8 [] h))))
  replace h:=bt h
  refine zTn ?_
  refine zs ?_
  refine WP.block ?_
  refine zsg ?_
  refine zrd 2 2 [(4,vi x5),(9,vi x5)] ?_
  refine zsg ?_
  obtain ⟨hg10,h⟩:=gs h
  obtain ⟨x11,hx11,h⟩:=ls h
  refine zr 2 2 [(11,vi x5),(10,vi p1)] ?_
  refine WPI.valueS (vi x11) 12 rfl rfl (by kernel_rfl) (Eq.trans (ev_shl .i64 .i64 128 x5 3 3 (.const (vi 128)) (.tmp 11) rfl (by kernel_rfl) (by kernel_rfl) hg10) (by rw [← hx11])) ?_
  obtain ⟨x12,hx12,h⟩:=ls h
  obtain ⟨c13,hc13,h⟩:=ls h
  refine zr 2 5 [(14,vb c13),(13,vi x12)] ?_ rfl (fun K=>by subst hc13 hx12; kernel_rfl)
  refine zdn ?_
  cases c13
  ·replace h:=bf h
   refine zF ?_
   refine WP.skip ?_
   refine inb_n (then_n ?_)
   refine zg ?_
   obtain ⟨x14,e,h⟩:=ls h
   refine ze 2 2 [(7,vi x14),(16,vi x14)] ?_
   refine zd ?_
   exact then_n ⟨n,lS n,x14,yy H8 [] h⟩
  replace h:=bt h
  refine zT ?_
  refine zsg ?_
  refine zrd 3 3 [(3,vi 0),(2,vi x5),(15,vi x5)] ?_
  refine WP.ret ?_
  obtain rfl:=oi h
  exact inb_r (then_r (then_r (inb_r (then_r (then_r (post_r (.tuple #[vi x5,vi 0]) rfl (by kernel_rfl) ⟨rfl,sl H8 []⟩))))))
 rintro a w15 ⟨G3,rfl,H16,h⟩
 subst hK4
 refine then_n ?_
 refine zsg ?_
 refine zrd 2 2 [(3,vi 2),(2,vi 0)] ?_
 refine WP.ret ?_
 obtain rfl:=oi h
 exact post_r (.tuple #[vi 0,vi 2]) rfl (by kernel_rfl) ⟨rfl,sl H16 []⟩
/- tarn/size.Of -/
def g_size_Of (fuel : Nat) (p1 : TTx) : Option (Int × Int × Int × Int) :=
  bd (g_tx_Bytes fuel p1) fun t10 => lt (t10.2 != 0) fun c14 => br c14 (some (0, 0, 0, t10.2)) (bd (g_size_Shelf fuel ((slen t10.1))) fun t15 => lt (t15.2 != 0) fun c19 => br c19 (some (0, 0, 0, t15.2)) (gd ((0 : Int) ≤ t15.1) <| lt (ishl .i64 128 t15.1) fun x21 => some ((slen t10.1), t15.1, x21, 0)))
theorem g_size_Of_w (fuel : Nat) (s2 s4 : Value) (p1 : TTx) (r : Int × Int × Int × Int) (h : g_size_Of fuel p1 = some r) (w0 : World) (hs3 : Rd fU64 (hp no w0) s2 p1.Hashes) (hs5 : Rd fStr (hp no w0) s4 p1.Blobs) :
 Ret Tryz.prog 13 #[(gTx p1 s2 s4)] w0 (fun v w' => v = .tuple #[vi r.1, vi r.2.1, vi r.2.2.1, vi r.2.2.2] ∧ St no w0 w' []) := by
 unfold g_size_Of at h
 refine ret_of_wpS Tryz.func13 rfl 29 rfl [(0,(gTx p1 s2 s4))] (by kernel_rfl) (fun G=>?_)
 have H0:=St.start w0
 refine zsg ?_
 refine zo (obx H0 #[vi p1.From,vi p1.Nonce,vu p1.Tip.e0,vu p1.Tip.e1,vu p1.Tip.e2,vu p1.Tip.e3,vu p1.Cap.e0,vu p1.Cap.e1,vu p1.Cap.e2,vu p1.Cap.e3,vu p1.BlobCap.e0,vu p1.BlobCap.e1,vu p1.BlobCap.e2,vu p1.BlobCap.e3,vu p1.Value_.e0,vu p1.Value_.e1,vu p1.Value_.e2,vu p1.Value_.e3,vi p1.Gas,s2,s4] 44 (fun b6 w8 H9=>?_))
 refine zn ?_
 refine zrd 4 5 [(5,vi 0),(4,vi 0),(3,vi 0),(2,vi 0)] ?_
 refine zsg ?_
 refine zv ((gTx p1 s2 s4)) (llb H9 0 0) ?_
 obtain ⟨t10,ht10,h⟩:=bs h
 refine zo (oca (g_tx_Bytes_w fuel s2 s4 p1 t10 ht10 _ (Rd.arg0 hs3 H9) (Rd.arg0 hs5 H9)) ?_)
 rintro _ w11 ⟨rfl,Hc12⟩
 have H13:=St.call0' H9 Hc12
 clear H9 Hc12
 refine zn ?_
 refine zrd 5 7 [(5,vi t10.2),(6,.string t10.1),(11,vi t10.2),(10,.string t10.1),(7,.tuple #[.string t10.1,vi t10.2])] ?_
 refine zs ?_
 refine zsg ?_
 obtain ⟨c14,e,h⟩:=ls h
 refine zed 2 2 [(13,vb c14),(12,vi t10.2)] ?_
 cases c14
 rotate_left
 ·replace h:=bt h
  refine zT ?_
  refine zsg ?_
  refine zrd 5 5 [(5,vi t10.2),(4,vi 0),(3,vi 0),(2,vi 0),(14,vi t10.2)] ?_
  refine WP.ret ?_
  obtain rfl:=oi h
  exact then_r (post_r (.tuple #[vi 0,vi 0,vi 0,vi t10.2]) rfl (by kernel_rfl) ⟨rfl,sl H13 []⟩)
 replace h:=bf h
 refine zFn ?_
 refine zsg ?_
 refine zr 1 1 [(16,.string t10.1)] ?_
 refine WPI.valueS (vi ((slen t10.1))) 17 rfl rfl (by kernel_rfl) (ev_slen t10.1 9 (.tmp 16) rfl (by kernel_rfl) (by kernel_rfl)) ?_
 obtain ⟨t15,ht15,h⟩:=bs h
 refine zo (oca (g_size_Shelf_w fuel ((slen t10.1)) t15 ht15 _) ?_)
 rintro _ w16 ⟨rfl,Hc17⟩
 have H18:=St.call0' H13 Hc17
 clear H13 Hc17
 refine zn ?_
 refine zrd 5 8 [(5,vi t15.2),(3,vi t15.1),(20,vi t15.2),(19,vi t15.1),(15,.tuple #[vi t15.1,vi t15.2])] ?_
 refine zs ?_
 refine zsg ?_
 obtain ⟨c19,e,h⟩:=ls h
 refine zed 2 2 [(22,vb c19),(21,vi t15.2)] ?_
 cases c19
 rotate_left
 ·replace h:=bt h
  refine zT ?_
  refine zsg ?_
  refine zrd 5 5 [(5,vi t15.2),(4,vi 0),(3,vi 0),(2,vi 0),(23,vi t15.2)] ?_
  refine WP.ret ?_
  obtain rfl:=oi h
  exact then_r (post_r (.tuple #[vi 0,vi 0,vi 0,vi t15.2]) rfl (by kernel_rfl) ⟨rfl,sl H18 []⟩)
 replace h:=bf h
 refine zFn ?_
 refine zs ?_
 refine WP.quiet (by kernel_rfl) (by kernel_rfl) (by kernel_rfl) (fun w=>St no w0 w [Box b6 #[vi p1.From,vi p1.Nonce,vu p1.Tip.e0,vu p1.Tip.e1,vu p1.Tip.e2,vu p1.Tip.e3,vu p1.Cap.e0,vu p1.Cap.e1,vu p1.Cap.e2,vu p1.Cap.e3,vu p1.BlobCap.e0,vu p1.BlobCap.e1,vu p1.BlobCap.e2,vu p1.BlobCap.e3,vu p1.Value_.e0,vu p1.Value_.e1,vu p1.Value_.e2,vu p1.Value_.e3,vi p1.Gas,s2,s4] 44]) (St.drew H18) ?_
 refine qr 1 1 [(24,.string t10.1)] ?_
 refine WQ.valueS (vi ((slen t10.1))) 25 rfl rfl (by kernel_rfl) (fun w H=>ev_slen t10.1 9 (.tmp 24) rfl (by kernel_rfl) (by kernel_rfl)) ?_
 obtain ⟨hg20,h⟩:=gs h
 obtain ⟨x21,hx21,h⟩:=ls h
 refine qr 2 4 [(27,vi t15.1),(26,vi t15.1)] ?_
 refine WQ.valueS (vi x21) 28 rfl rfl (by kernel_rfl) (fun w H=>Eq.trans (ev_shl .i64 .i64 128 t15.1 3 3 (.const (vi 128)) (.tmp 27) rfl (by kernel_rfl) (by kernel_rfl) hg20) (by rw [← hx21])) ?_
 refine qr 4 9 [(5,vi 0),(4,vi x21),(3,vi t15.1),(2,vi ((slen t10.1)))] ?_
 refine qd fun w22 H23=>?_
 refine then_n ?_
 refine WP.ret ?_
 obtain rfl:=oi h
 exact post_r (.tuple #[vi ((slen t10.1)),vi t15.1,vi x21,vi 0]) rfl (by kernel_rfl) ⟨rfl,sl H23 []⟩
/- tarn/pool.Slots -/
def g_pool_Slots_l1 (l2 : List TTx) (fuel : Nat) (K5 : Int → Option Int) : Nat → Int → Int → Option Int
  | 0, _, _ => none
  | n + 1, x6, x7 => lt (decide (x7 < (((List.length l2 : Nat) : Int)))) fun c11 => br c11 (gd ((0 : Int) ≤ x7 ∧ x7 < ((List.length l2 : Nat) : Int)) <| bd (l2[Int.toNat x7]?) fun x13 => bd (g_size_Of fuel x13) fun t27 => lt (wr .i64 (x6 + t27.2.2.1)) fun x31 => lt (wr .i64 (x7 + 1)) fun x32 => g_pool_Slots_l1 l2 fuel K5 n x31 x32) (K5 x6)
def g_pool_Slots (fuel : Nat) (l2 : List TTx) : Option Int :=
  jn (fun (x3 : Int) => some x3) fun K5 => g_pool_Slots_l1 l2 fuel K5 fuel 0 0
theorem g_pool_Slots_w (fuel : Nat) (s1 : Value) (l2 : List TTx) (r : Int) (h : g_pool_Slots fuel l2 = some r) (w0 : World) (hs1 : RdD dTTx (hp no w0) s1 l2) :
 Ret Tryz.prog 24 #[s1] w0 (fun v w' => v = vi r ∧ St no w0 w' []) := by
 unfold g_pool_Slots at h
 refine ret_of_wpS Tryz.func24 rfl 28 rfl [(0,s1)] (by kernel_rfl) (fun G=>?_)
 have H0:=St.start w0
 refine zsg ?_
 refine zrd 1 1 [(2,vi 0)] ?_
 refine zsg ?_
 refine zrd 1 1 [(3,vi 0)] ?_
 refine zs ?_
 refine zsg ?_
 refine zr 1 1 [(10,s1)] ?_
 refine zv (vi (((List.length l2 : Nat) : Int))) (lln (RdD.sl hs1) 44 21 200) ?_
 refine zrd 1 3 [(12,vi 0)] ?_
 obtain ⟨K5,hK5,h⟩:=js h
 refine WP.blockJ (fun a w=>∃ (x3 : Int),Y 28 [(3,vi x3)] [] no w0 [] (K5 x3 = some r) a w) ?_ ?_
 ·refine WP.loop (fun n a w=>∃ (x6 : Int) (x7 : Int),Y 28 [(3,vi x6),(10,s1),(11,vi (((List.length l2 : Nat) : Int))),(12,vi x7)] [] no w0 [] (g_pool_Slots_l1 l2 fuel K5 n x6 x7 = some r) a w) fuel ⟨0,0,yy H0 [] h⟩ ?_
  rintro n a w9 ⟨x6,x7,G8,rfl,H10,h⟩
  obtain _ | n:=n
  ·rw [g_pool_Slots_l1] at h; cases h
  rw [g_pool_Slots_l1] at h
  refine zsg ?_
  obtain ⟨c11,e,h⟩:=ls h
  refine zed 1 1 [(13,vb c11)] ?_
  refine zs ?_
  cases c11
  ·replace h:=bf h
   refine zF ?_
   refine WP.exit ?_
   exact then_e (then_e (inb_e (then_n ⟨x6,yy H10 [] h⟩)))
  replace h:=bt h
  refine zTn ?_
  refine zs ?_
  refine WP.block ?_
  refine zsg ?_
  obtain ⟨hg12,h⟩:=gs h
  refine zv (va (slAt s1 21 (Int.toNat x7))) (lli (RdD.sl hs1) 44 21 200 .i64 x7 hg12) ?_
  obtain ⟨x13,hx13,h⟩:=bs h
  obtain ⟨c18,hr19,hc20⟩:=RdD.at_ hs1 _ _ hx13
  obtain ⟨s14,s16,rfl,hs15,hs17⟩:=hr19
  refine zv ((gTx x13 s14 s16)) (lld 0 hc20 (St.hp_le H10)) ?_
  refine zo (oal H10 #[vi 0,vi 0,vu 0,vu 0,vu 0,vu 0,vu 0,vu 0,vu 0,vu 0,vu 0,vu 0,vu 0,vu 0,vu 0,vu 0,vu 0,vu 0,vi 0,vn,vn] 44 (fun b21 w23 H24=>?_))
  clear H10
  refine zn ?_
  refine zo (osb H24 0 0 ((gTx x13 s14 s16)) #[vi x13.From,vi x13.Nonce,vu x13.Tip.e0,vu x13.Tip.e1,vu x13.Tip.e2,vu x13.Tip.e3,vu x13.Cap.e0,vu x13.Cap.e1,vu x13.Cap.e2,vu x13.Cap.e3,vu x13.BlobCap.e0,vu x13.BlobCap.e1,vu x13.BlobCap.e2,vu x13.BlobCap.e3,vu x13.Value_.e0,vu x13.Value_.e1,vu x13.Value_.e2,vu x13.Value_.e3,vi x13.Gas,s14,s16] true (oc1 rfl (oc1 rfl (oc1 rfl (oc1 rfl (oc1 rfl (oc1 rfl (oc1 rfl (oc1 rfl (oc1 rfl (oc1 rfl (oc1 rfl (oc1 rfl (oc1 rfl (oc1 rfl (oc1 rfl (oc1 rfl (oc1 rfl (oc1 rfl (oc1 rfl (oc1 (IsSl.one (Rd.sl hs15)) (oc1 (IsSl.one (Rd.sl hs17)) oc0))))))))))))))))))))) (fun w25 H26=>?_))
  clear H24
  refine z0 ?_
  refine zdn ?_
  refine zsg ?_
  refine zv ((gTx x13 s14 s16)) (llb H26 0 0) ?_
  obtain ⟨t27,ht27,h⟩:=bs h
  refine zo (oca (g_size_Of_w fuel s14 s16 x13 t27 ht27 _ (Rd.arg0 hs15 H26) (Rd.arg0 hs17 H26)) ?_)
  rintro _ w28 ⟨rfl,Hc29⟩
  have H30:=St.call0' H26 Hc29
  clear H26 Hc29
  refine zn ?_
  refine zrd 9 11 [(9,vi t27.2.2.2),(8,vi t27.2.2.1),(7,vi t27.2.1),(6,vi t27.1),(22,vi t27.2.2.2),(21,vi t27.2.2.1),(20,vi t27.2.1),(19,vi t27.1),(16,.tuple #[vi t27.1,vi t27.2.1,vi t27.2.2.1,vi t27.2.2.2])] ?_
  refine zg ?_
  obtain ⟨x31,e,h⟩:=ls h
  refine ze 4 4 [(3,vi x31),(25,vi x31),(24,vi t27.2.2.1),(23,vi x6)] ?_
  refine zd ?_
  refine inb_n (then_n ?_)
  refine zg ?_
  obtain ⟨x32,e,h⟩:=ls h
  refine ze 2 2 [(12,vi x32),(26,vi x32)] ?_
  refine zd ?_
  exact then_n ⟨n,lS n,x31,x32,yy H30 [] h⟩
 rintro a w33 ⟨x3,G4,rfl,H34,h⟩
 subst hK5
 refine then_n ?_
 refine zsg ?_
 refine zrd 2 2 [(2,vi x3),(27,vi x3)] ?_
 refine WP.ret ?_
 obtain rfl:=oi h
 exact post_r (vi x3) rfl (by kernel_rfl) ⟨rfl,sl H34 []⟩
/- tarn/pool.Check -/
def g_pool_Check (fuel : Nat) (p1 : TBook) : Option Int :=
  jn (fun (c12 : Bool) => br c12 (some 1) (some 0)) fun K14 => bd (g_pool_roomy fuel p1.Room) fun t15 => lt (!t15) fun c16 => br c16 (K14 true) (bd (g_pool_Wide fuel p1) fun t17 => lt (!t17) fun c18 => br c18 (K14 true) (bd (g_pool_Slots fuel p1.Txs) fun t19 => lt (decide (t19 > p1.Room)) fun c20 => K14 c20))
theorem g_pool_Check_w (fuel : Nat) (s2 s4 s6 : Value) (p1 : TBook) (r : Int) (h : g_pool_Check fuel p1 = some r) (w0 : World) (hs3 : Rd fTAcct (hp no w0) s2 p1.Accts) (hs5 : RdD dTTx (hp no w0) s4 p1.Txs) (hs7 : RdD dTHeld (hp no w0) s6 p1.Limbo) :
 Ret Tryz.prog 12 #[.agg #[vi p1.Room, vi p1.Head.Number, vu p1.Head.Base.e0, vu p1.Head.Base.e1, vu p1.Head.Base.e2, vu p1.Head.Base.e3, vi p1.Head.Excess, s2, s4, s6]] w0 (fun v w' => v = vi r ∧ St no w0 w' []) := by
 unfold g_pool_Check at h
 refine ret_of_wpS Tryz.func12 rfl 20 rfl [(0,.agg #[vi p1.Room,vi p1.Head.Number,vu p1.Head.Base.e0,vu p1.Head.Base.e1,vu p1.Head.Base.e2,vu p1.Head.Base.e3,vi p1.Head.Excess,s2,s4,s6])] (by kernel_rfl) (fun G=>?_)
 have H0:=St.start w0
 refine zsg ?_
 refine zo (obx H0 #[vi p1.Room,vi p1.Head.Number,vu p1.Head.Base.e0,vu p1.Head.Base.e1,vu p1.Head.Base.e2,vu p1.Head.Base.e3,vi p1.Head.Excess,s2,s4,s6] 31 (fun b8 w10 H11=>?_))
 refine zn ?_
 refine zrd 1 2 [(2,vi 0)] ?_
 refine zs ?_
 refine zs ?_
 obtain ⟨K14,hK14,h⟩:=js h
 refine WP.onlyN (fun a w=>∃ (c12 : Bool),Y 20 [(19,vb c12)] [] no w0 [Box b8 #[vi p1.Room,vi p1.Head.Number,vu p1.Head.Base.e0,vu p1.Head.Base.e1,vu p1.Head.Base.e2,vu p1.Head.Base.e3,vi p1.Head.Excess,s2,s4,s6] 31] (K14 c12 = some r) a w) ?_ ?_
 ·refine WP.quiet (by kernel_rfl) (by kernel_rfl) (by kernel_rfl) (fun w=>St no w0 w [Box b8 #[vi p1.Room,vi p1.Head.Number,vu p1.Head.Base.e0,vu p1.Head.Base.e1,vu p1.Head.Base.e2,vu p1.Head.Base.e3,vi p1.Head.Excess,s2,s4,s6] 31]) (St.drew H11) ?_
  refine qr 1 1 [(3,vp b8 0)] ?_
  refine qv (vi p1.Room) (fun w H=>llb H 0 0) ?_
  obtain ⟨t15,ht15,h⟩:=bs h
  refine qc (vb t15) (fun w H=>Ret.mono (g_pool_roomy_w fuel p1.Room t15 ht15 _) fun u w1 hu=>⟨hu.1,St.call0' H hu.2⟩) ?_
  obtain ⟨c16,e,h⟩:=ls h
  refine qe 2 5 [(7,vb c16),(6,vb c16)] ?_
  cases c16
  rotate_left
  ·replace h:=bt h
   refine qr 12 17 [(19,vb true),(18,Z),(17,Z),(16,Z),(15,Z),(14,Z),(13,Z),(12,vb true),(11,vb true),(10,Z),(9,Z),(8,Z)] ?_
   refine qd fun w25 H26=>?_
   exact ⟨true,yy H26 [0] h⟩
  replace h:=bf h
  refine qv (.agg #[vi p1.Room,vi p1.Head.Number,vu p1.Head.Base.e0,vu p1.Head.Base.e1,vu p1.Head.Base.e2,vu p1.Head.Base.e3,vi p1.Head.Excess,s2,s4,s6]) (fun w H=>llb H 0 0) ?_
  obtain ⟨t17,ht17,h⟩:=bs h
  refine qc (vb t17) (fun w H=>Ret.mono (g_pool_Wide_w fuel s2 s4 s6 p1 t17 ht17 _ (Rd.arg0 hs3 H) (RdD.mono (sub_hp (St.hp_le H)) hs5) (RdD.mono (sub_hp (St.hp_le H)) hs7)) fun u w1 hu=>⟨hu.1,St.call0' H hu.2⟩) ?_
  obtain ⟨c18,e,h⟩:=ls h
  refine qe 3 10 [(12,vb c18),(11,vb c18),(10,vb c18)] ?_
  cases c18
  rotate_left
  ·replace h:=bt h
   refine qr 7 17 [(19,vb true),(18,Z),(17,Z),(16,Z),(15,Z),(14,Z),(13,Z)] ?_
   refine qd fun w23 H24=>?_
   exact ⟨true,yy H24 [0] h⟩
  replace h:=bf h
  refine qr 1 11 [(13,vp b8 8)] ?_
  refine qv (s4) (fun w H=>llb H 0 8) ?_
  obtain ⟨t19,ht19,h⟩:=bs h
  refine qc (vi t19) (fun w H=>Ret.mono (g_pool_Slots_w fuel s4 p1.Txs t19 ht19 _ (RdD.mono (sub_hp (St.hp_le H)) hs5)) fun u w1 hu=>⟨hu.1,St.call0' H hu.2⟩) ?_
  refine qr 1 14 [(16,vp b8 0)] ?_
  refine qv (vi p1.Room) (fun w H=>llb H 0 0) ?_
  obtain ⟨c20,e,h⟩:=ls h
  refine qe 2 17 [(19,vb c20),(18,vb c20)] ?_
  refine qd fun w21 H22=>?_
  exact ⟨c20,yy H22 [0] h⟩
 rintro a w27 ⟨c12,G13,rfl,H28,h⟩
 subst hK14
 refine then_n ?_
 cases c12
 ·replace h:=bf h
  refine zFn ?_
  refine zsg ?_
  refine zrd 1 1 [(2,vi 0)] ?_
  refine WP.ret ?_
  obtain rfl:=oi h
  exact post_r (vi 0) rfl (by kernel_rfl) ⟨rfl,sl H28 []⟩
 replace h:=bt h
 refine zT ?_
 refine zsg ?_
 refine zrd 1 1 [(2,vi 1)] ?_
 refine WP.ret ?_
 obtain rfl:=oi h
 exact then_r (post_r (vi 1) rfl (by kernel_rfl) ⟨rfl,sl H28 []⟩)
end Go.Proofs
