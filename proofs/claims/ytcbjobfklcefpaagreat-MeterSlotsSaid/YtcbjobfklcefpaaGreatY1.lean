import Derived.Test.YtcbjobfklcefpaaGreatGwz
import Derived.Test.YtcbjobfklcefpaaGreatProg
import Derived.Test.YtcbjobfklcefpaaGreatT
set_option linter.unusedVariables false
set_option linter.unusedSimpArgs false
set_option maxRecDepth 100000
set_option maxHeartbeats 4000000
namespace Go.Proofs
open Gw Go.RowKit
attribute [local irreducible] Gw.WP Gw.WPI Gw.WPL Gw.WA Gw.WQ Gw.PX Gw.PY Gw.WI Gw.PZ Gw.Op1 Gw.Ret Go.Exit.then Go.Exit.inBlock Go.wpOpIn Gw.Rnd Gw.Aft Gw.Begun
/- tarn/tarnlaw0.TxWeight -/
def g_tarnlaw0_TxWeight_l1 (p1 : TTx) (K14 : Int → Option Int) (fuel : Nat) : Nat → Int → Int → Option Int
  | 0, _, _ => none
  | n + 1, x15, x16 => jn (fun (c20 : Bool) => br c20 (gd ((0 : Int) ≤ x16 ∧ x16 < ((List.length p1.Blobs : Nat) : Int)) <| bd (p1.Blobs[Int.toNat x16]?) fun x28 => lt (wr .i64 (x15 + ((slen x28)))) fun x29 => lt (wr .i64 (x16 + 1)) fun x30 => g_tarnlaw0_TxWeight_l1 p1 K14 fuel n x29 x30) (K14 x15)) fun K22 => lt (decide (x16 < (((List.length p1.Blobs : Nat) : Int)))) fun c23 => br c23 (lt (decide (x15 < 1048576)) fun c24 => K22 c24) (K22 false)
def g_tarnlaw0_TxWeight (fuel : Nat) (p1 : TTx) : Option Int :=
  lt (wr .i64 (1 + (((List.length p1.Hashes : Nat) : Int)))) fun x10 => lt (wr .i64 (x10 + (((List.length p1.Blobs : Nat) : Int)))) fun x11 => jn (fun (x12 : Int) => some x12) fun K14 => g_tarnlaw0_TxWeight_l1 p1 K14 fuel fuel x11 0
theorem g_tarnlaw0_TxWeight_w (fuel : Nat) (s2 s4 : Value) (p1 : TTx) (r : Int) (h : g_tarnlaw0_TxWeight fuel p1 = some r) (w0 : World) (hs3 : Rd fU64 (hp no w0) s2 p1.Hashes) (hs5 : Rd fStr (hp no w0) s4 p1.Blobs) :
 Ret Tryz.prog 43 #[(gTx p1 s2 s4)] w0 (fun v w' => v = vi r ∧ St no w0 w' []) := by
 unfold g_tarnlaw0_TxWeight at h
 refine ret_of_wpS Tryz.func43 rfl 33 rfl [(0,(gTx p1 s2 s4))] (by kernel_rfl) (fun G=>?_)
 have H0:=St.start w0
 refine zsg ?_
 refine zo (obx H0 #[vi p1.From,vi p1.Nonce,vu p1.Tip.e0,vu p1.Tip.e1,vu p1.Tip.e2,vu p1.Tip.e3,vu p1.Cap.e0,vu p1.Cap.e1,vu p1.Cap.e2,vu p1.Cap.e3,vu p1.BlobCap.e0,vu p1.BlobCap.e1,vu p1.BlobCap.e2,vu p1.BlobCap.e3,vu p1.Value_.e0,vu p1.Value_.e1,vu p1.Value_.e2,vu p1.Value_.e3,vi p1.Gas,s2,s4] 44 (fun b6 w8 H9=>?_))
 refine zn ?_
 refine zrd 1 2 [(2,vi 0)] ?_
 refine zsg ?_
 refine zr 1 1 [(5,vp b6 19)] ?_
 refine zv (s2) (llb H9 0 19) ?_
 refine zv (vi (((List.length p1.Hashes : Nat) : Int))) (lln (Rd.sl hs3) 22 1 8) ?_
 obtain ⟨x10,e,h⟩:=ls h
 refine ze 2 5 [(9,vp b6 20),(8,vi x10)] ?_
 refine zv (s4) (llb H9 0 20) ?_
 refine zv (vi (((List.length p1.Blobs : Nat) : Int))) (lln (Rd.sl hs5) 9 1 16) ?_
 obtain ⟨x11,e,h⟩:=ls h
 refine zed 2 9 [(3,vi x11),(12,vi x11)] ?_
 refine zs ?_
 refine zsg ?_
 refine zrd 1 1 [(4,vi 0)] ?_
 obtain ⟨K14,hK14,h⟩:=js h
 refine WP.blockJ (fun a w=>∃ (x12 : Int),Y 33 [(3,vi x12)] [] no w0 [Box b6 #[vi p1.From,vi p1.Nonce,vu p1.Tip.e0,vu p1.Tip.e1,vu p1.Tip.e2,vu p1.Tip.e3,vu p1.Cap.e0,vu p1.Cap.e1,vu p1.Cap.e2,vu p1.Cap.e3,vu p1.BlobCap.e0,vu p1.BlobCap.e1,vu p1.BlobCap.e2,vu p1.BlobCap.e3,vu p1.Value_.e0,vu p1.Value_.e1,vu p1.Value_.e2,vu p1.Value_.e3,vi p1.Gas,s2,s4] 44] (K14 x12 = some r) a w) ?_ ?_
 ·refine WP.loop (fun n a w=>∃ (x15 : Int) (x16 : Int),Y 33 [(1,vp b6 0),(3,vi x15),(4,vi x16)] [] no w0 [Box b6 #[vi p1.From,vi p1.Nonce,vu p1.Tip.e0,vu p1.Tip.e1,vu p1.Tip.e2,vu p1.Tip.e3,vu p1.Cap.e0,vu p1.Cap.e1,vu p1.Cap.e2,vu p1.Cap.e3,vu p1.BlobCap.e0,vu p1.BlobCap.e1,vu p1.BlobCap.e2,vu p1.BlobCap.e3,vu p1.Value_.e0,vu p1.Value_.e1,vu p1.Value_.e2,vu p1.Value_.e3,vi p1.Gas,s2,s4] 44] (g_tarnlaw0_TxWeight_l1 p1 K14 fuel n x15 x16 = some r) a w) fuel ⟨x11,0,yy H9 [0] h⟩ ?_
  rintro n a w18 ⟨x15,x16,G17,rfl,H19,h⟩
  obtain _ | n:=n
  ·rw [g_tarnlaw0_TxWeight_l1] at h; cases h
  rw [g_tarnlaw0_TxWeight_l1] at h
  refine zs ?_
  refine zs ?_
  obtain ⟨K22,hK22,h⟩:=js h
  refine WP.onlyN (fun a w=>∃ (c20 : Bool),Y 33 [(1,vp b6 0),(3,vi x15),(4,vi x16),(21,vb c20)] [] no w0 [Box b6 #[vi p1.From,vi p1.Nonce,vu p1.Tip.e0,vu p1.Tip.e1,vu p1.Tip.e2,vu p1.Tip.e3,vu p1.Cap.e0,vu p1.Cap.e1,vu p1.Cap.e2,vu p1.Cap.e3,vu p1.BlobCap.e0,vu p1.BlobCap.e1,vu p1.BlobCap.e2,vu p1.BlobCap.e3,vu p1.Value_.e0,vu p1.Value_.e1,vu p1.Value_.e2,vu p1.Value_.e3,vi p1.Gas,s2,s4] 44] (K22 c20 = some r) a w) ?_ ?_
  ·refine zg ?_
   refine zr 2 2 [(14,vp b6 20),(13,vi x16)] ?_
   refine zv (s4) (llb H19 0 20) ?_
   refine zv (vi (((List.length p1.Blobs : Nat) : Int))) (lln (Rd.sl hs5) 9 1 16) ?_
   obtain ⟨c23,e,h⟩:=ls h
   refine ze 2 6 [(18,vb c23),(17,vb c23)] ?_
   cases c23
   ·replace h:=bf h
    refine zr 3 9 [(21,vb false),(20,Z),(19,Z)] ?_
    refine zd ?_
    exact ⟨false,yy H19 [0] h⟩
   replace h:=bt h
   obtain ⟨c24,e,h⟩:=ls h
   refine ze 3 9 [(21,vb c24),(20,vb c24),(19,vi x15)] ?_
   refine zd ?_
   exact ⟨c24,yy H19 [0] h⟩
  rintro a w25 ⟨c20,G21,rfl,H26,h⟩
  subst hK22
  refine then_n ?_
  cases c20
  ·replace h:=bf h
   refine zF ?_
   refine WP.exit ?_
   exact then_e (then_e (inb_e (then_n ⟨x15,yy H26 [0] h⟩)))
  replace h:=bt h
  refine zTn ?_
  refine zs ?_
  refine WP.block ?_
  refine zg ?_
  refine zr 2 2 [(25,vp b6 20),(24,vi x15)] ?_
  refine zv (s4) (llb H26 0 20) ?_
  obtain ⟨hg27,h⟩:=gs h
  refine zr 1 4 [(27,vi x16)] ?_
  refine zv (va (slAt s4 1 (Int.toNat x16))) (lli (Rd.sl hs5) 9 1 16 .i64 x16 hg27) ?_
  obtain ⟨x28,hx28,h⟩:=bs h
  refine zv (.string x28) (lle fStr hs5 (St.hp_le H26) hx28 0) ?_
  refine WPI.valueS (vi ((slen x28))) 30 rfl rfl (by kernel_rfl) (ev_slen x28 9 (.tmp 29) rfl (by kernel_rfl) (by kernel_rfl)) ?_
  obtain ⟨x29,e,h⟩:=ls h
  refine ze 2 9 [(3,vi x29),(31,vi x29)] ?_
  refine zd ?_
  refine inb_n (then_n ?_)
  refine zg ?_
  obtain ⟨x30,e,h⟩:=ls h
  refine ze 3 3 [(4,vi x30),(23,vi x30),(22,vi x16)] ?_
  refine zd ?_
  exact then_n ⟨n,lS n,x29,x30,yy H26 [0] h⟩
 rintro a w31 ⟨x12,G13,rfl,H32,h⟩
 subst hK14
 refine then_n ?_
 refine zsg ?_
 refine zrd 2 2 [(2,vi x12),(32,vi x12)] ?_
 refine WP.ret ?_
 obtain rfl:=oi h
 exact post_r (vi x12) rfl (by kernel_rfl) ⟨rfl,sl H32 []⟩
/- tarn/tarnlaw0.TxsWeight -/
def g_tarnlaw0_TxsWeight_l1 (l2 : List TTx) (fuel : Nat) (K5 : Int → Option Int) : Nat → Int → Int → Option Int
  | 0, _, _ => none
  | n + 1, x6, x7 => jn (fun (c11 : Bool) => br c11 (gd ((0 : Int) ≤ x7 ∧ x7 < ((List.length l2 : Nat) : Int)) <| bd (l2[Int.toNat x7]?) fun x19 => bd (g_tarnlaw0_TxWeight fuel x19) fun t27 => lt (wr .i64 (x6 + t27)) fun x31 => lt (wr .i64 (x7 + 1)) fun x32 => g_tarnlaw0_TxsWeight_l1 l2 fuel K5 n x31 x32) (K5 x6)) fun K13 => lt (decide (x7 < (((List.length l2 : Nat) : Int)))) fun c14 => br c14 (lt (decide (x6 < 1048576)) fun c15 => K13 c15) (K13 false)
def g_tarnlaw0_TxsWeight (fuel : Nat) (l2 : List TTx) : Option Int :=
  jn (fun (x3 : Int) => some x3) fun K5 => g_tarnlaw0_TxsWeight_l1 l2 fuel K5 fuel (((List.length l2 : Nat) : Int)) 0
theorem g_tarnlaw0_TxsWeight_w (fuel : Nat) (s1 : Value) (l2 : List TTx) (r : Int) (h : g_tarnlaw0_TxsWeight fuel l2 = some r) (w0 : World) (hs1 : RdD dTTx (hp no w0) s1 l2) :
 Ret Tryz.prog 20 #[s1] w0 (fun v w' => v = vi r ∧ St no w0 w' []) := by
 unfold g_tarnlaw0_TxsWeight at h
 refine ret_of_wpS Tryz.func20 rfl 25 rfl [(0,s1)] (by kernel_rfl) (fun G=>?_)
 have H0:=St.start w0
 refine zsg ?_
 refine zrd 1 1 [(2,vi 0)] ?_
 refine zsg ?_
 refine zr 1 1 [(5,s1)] ?_
 refine zv (vi (((List.length l2 : Nat) : Int))) (lln (RdD.sl hs1) 44 21 200) ?_
 refine zrd 1 3 [(3,vi (((List.length l2 : Nat) : Int)))] ?_
 refine zs ?_
 refine zsg ?_
 refine zrd 1 1 [(4,vi 0)] ?_
 obtain ⟨K5,hK5,h⟩:=js h
 refine WP.blockJ (fun a w=>∃ (x3 : Int),Y 25 [(3,vi x3)] [] no w0 [] (K5 x3 = some r) a w) ?_ ?_
 ·refine WP.loop (fun n a w=>∃ (x6 : Int) (x7 : Int),Y 25 [(0,s1),(3,vi x6),(4,vi x7)] [] no w0 [] (g_tarnlaw0_TxsWeight_l1 l2 fuel K5 n x6 x7 = some r) a w) fuel ⟨(((List.length l2 : Nat) : Int)),0,yy H0 [] h⟩ ?_
  rintro n a w9 ⟨x6,x7,G8,rfl,H10,h⟩
  obtain _ | n:=n
  ·rw [g_tarnlaw0_TxsWeight_l1] at h; cases h
  rw [g_tarnlaw0_TxsWeight_l1] at h
  refine zs ?_
  refine zs ?_
  obtain ⟨K13,hK13,h⟩:=js h
  refine WP.onlyN (fun a w=>∃ (c11 : Bool),Y 25 [(0,s1),(3,vi x6),(4,vi x7),(14,vb c11)] [] no w0 [] (K13 c11 = some r) a w) ?_ ?_
  ·refine zg ?_
   refine zr 2 2 [(8,s1),(7,vi x7)] ?_
   refine zv (vi (((List.length l2 : Nat) : Int))) (lln (RdD.sl hs1) 44 21 200) ?_
   obtain ⟨c14,e,h⟩:=ls h
   refine ze 2 5 [(11,vb c14),(10,vb c14)] ?_
   cases c14
   ·replace h:=bf h
    refine zr 3 8 [(14,vb false),(13,Z),(12,Z)] ?_
    refine zd ?_
    exact ⟨false,yy H10 [] h⟩
   replace h:=bt h
   obtain ⟨c15,e,h⟩:=ls h
   refine ze 3 8 [(14,vb c15),(13,vb c15),(12,vi x6)] ?_
   refine zd ?_
   exact ⟨c15,yy H10 [] h⟩
  rintro a w16 ⟨c11,G12,rfl,H17,h⟩
  subst hK13
  refine then_n ?_
  cases c11
  ·replace h:=bf h
   refine zF ?_
   refine WP.exit ?_
   exact then_e (then_e (inb_e (then_n ⟨x6,yy H17 [] h⟩)))
  replace h:=bt h
  refine zTn ?_
  refine zs ?_
  refine WP.block ?_
  refine zg ?_
  obtain ⟨hg18,h⟩:=gs h
  refine zr 3 3 [(19,vi x7),(18,s1),(17,vi x6)] ?_
  refine zv (va (slAt s1 21 (Int.toNat x7))) (lli (RdD.sl hs1) 44 21 200 .i64 x7 hg18) ?_
  obtain ⟨x19,hx19,h⟩:=bs h
  obtain ⟨c24,hr25,hc26⟩:=RdD.at_ hs1 _ _ hx19
  obtain ⟨s20,s22,rfl,hs21,hs23⟩:=hr25
  refine zv ((gTx x19 s20 s22)) (lld 0 hc26 (St.hp_le H17)) ?_
  obtain ⟨t27,ht27,h⟩:=bs h
  refine zo (oca (g_tarnlaw0_TxWeight_w fuel s20 s22 x19 t27 ht27 _ (Rd.arg0 hs21 H17) (Rd.arg0 hs23 H17)) ?_)
  rintro _ w28 ⟨rfl,Hc29⟩
  have H30:=St.call0' H17 Hc29
  clear H17 Hc29
  obtain ⟨x31,e,h⟩:=ls h
  refine zn ?_
  refine ze 2 8 [(3,vi x31),(23,vi x31)] ?_
  refine zd ?_
  refine inb_n (then_n ?_)
  refine zg ?_
  obtain ⟨x32,e,h⟩:=ls h
  refine ze 3 3 [(4,vi x32),(16,vi x32),(15,vi x7)] ?_
  refine zd ?_
  exact then_n ⟨n,lS n,x31,x32,yy H30 [] h⟩
 rintro a w33 ⟨x3,G4,rfl,H34,h⟩
 subst hK5
 refine then_n ?_
 refine zsg ?_
 refine zrd 2 2 [(2,vi x3),(24,vi x3)] ?_
 refine WP.ret ?_
 obtain rfl:=oi h
 exact post_r (vi x3) rfl (by kernel_rfl) ⟨rfl,sl H34 []⟩
/- tarn/tarnlaw0.LimboWeight -/
def g_tarnlaw0_LimboWeight_l1 (l2 : List THeld) (fuel : Nat) (K5 : Int → Option Int) : Nat → Int → Int → Option Int
  | 0, _, _ => none
  | n + 1, x6, x7 => jn (fun (c11 : Bool) => br c11 (gd ((0 : Int) ≤ x7 ∧ x7 < ((List.length l2 : Nat) : Int)) <| bd (l2[Int.toNat x7]?) fun x19 => bd (g_tarnlaw0_TxWeight fuel x19.Tx) fun t27 => lt (wr .i64 (x6 + t27)) fun x31 => lt (wr .i64 (x7 + 1)) fun x32 => g_tarnlaw0_LimboWeight_l1 l2 fuel K5 n x31 x32) (K5 x6)) fun K13 => lt (decide (x7 < (((List.length l2 : Nat) : Int)))) fun c14 => br c14 (lt (decide (x6 < 1048576)) fun c15 => K13 c15) (K13 false)
def g_tarnlaw0_LimboWeight (fuel : Nat) (l2 : List THeld) : Option Int :=
  jn (fun (x3 : Int) => some x3) fun K5 => g_tarnlaw0_LimboWeight_l1 l2 fuel K5 fuel (((List.length l2 : Nat) : Int)) 0
theorem g_tarnlaw0_LimboWeight_w (fuel : Nat) (s1 : Value) (l2 : List THeld) (r : Int) (h : g_tarnlaw0_LimboWeight fuel l2 = some r) (w0 : World) (hs1 : RdD dTHeld (hp no w0) s1 l2) :
 Ret Tryz.prog 21 #[s1] w0 (fun v w' => v = vi r ∧ St no w0 w' []) := by
 unfold g_tarnlaw0_LimboWeight at h
 refine ret_of_wpS Tryz.func21 rfl 26 rfl [(0,s1)] (by kernel_rfl) (fun G=>?_)
 have H0:=St.start w0
 refine zsg ?_
 refine zrd 1 1 [(2,vi 0)] ?_
 refine zsg ?_
 refine zr 1 1 [(5,s1)] ?_
 refine zv (vi (((List.length l2 : Nat) : Int))) (lln (RdD.sl hs1) 46 22 208) ?_
 refine zrd 1 3 [(3,vi (((List.length l2 : Nat) : Int)))] ?_
 refine zs ?_
 refine zsg ?_
 refine zrd 1 1 [(4,vi 0)] ?_
 obtain ⟨K5,hK5,h⟩:=js h
 refine WP.blockJ (fun a w=>∃ (x3 : Int),Y 26 [(3,vi x3)] [] no w0 [] (K5 x3 = some r) a w) ?_ ?_
 ·refine WP.loop (fun n a w=>∃ (x6 : Int) (x7 : Int),Y 26 [(0,s1),(3,vi x6),(4,vi x7)] [] no w0 [] (g_tarnlaw0_LimboWeight_l1 l2 fuel K5 n x6 x7 = some r) a w) fuel ⟨(((List.length l2 : Nat) : Int)),0,yy H0 [] h⟩ ?_
  rintro n a w9 ⟨x6,x7,G8,rfl,H10,h⟩
  obtain _ | n:=n
  ·rw [g_tarnlaw0_LimboWeight_l1] at h; cases h
  rw [g_tarnlaw0_LimboWeight_l1] at h
  refine zs ?_
  refine zs ?_
  obtain ⟨K13,hK13,h⟩:=js h
  refine WP.onlyN (fun a w=>∃ (c11 : Bool),Y 26 [(0,s1),(3,vi x6),(4,vi x7),(14,vb c11)] [] no w0 [] (K13 c11 = some r) a w) ?_ ?_
  ·refine zg ?_
   refine zr 2 2 [(8,s1),(7,vi x7)] ?_
   refine zv (vi (((List.length l2 : Nat) : Int))) (lln (RdD.sl hs1) 46 22 208) ?_
   obtain ⟨c14,e,h⟩:=ls h
   refine ze 2 5 [(11,vb c14),(10,vb c14)] ?_
   cases c14
   ·replace h:=bf h
    refine zr 3 8 [(14,vb false),(13,Z),(12,Z)] ?_
    refine zd ?_
    exact ⟨false,yy H10 [] h⟩
   replace h:=bt h
   obtain ⟨c15,e,h⟩:=ls h
   refine ze 3 8 [(14,vb c15),(13,vb c15),(12,vi x6)] ?_
   refine zd ?_
   exact ⟨c15,yy H10 [] h⟩
  rintro a w16 ⟨c11,G12,rfl,H17,h⟩
  subst hK13
  refine then_n ?_
  cases c11
  ·replace h:=bf h
   refine zF ?_
   refine WP.exit ?_
   exact then_e (then_e (inb_e (then_n ⟨x6,yy H17 [] h⟩)))
  replace h:=bt h
  refine zTn ?_
  refine zs ?_
  refine WP.block ?_
  refine zg ?_
  obtain ⟨hg18,h⟩:=gs h
  refine zr 3 3 [(19,vi x7),(18,s1),(17,vi x6)] ?_
  refine zv (va (slAt s1 22 (Int.toNat x7))) (lli (RdD.sl hs1) 46 22 208 .i64 x7 hg18) ?_
  obtain ⟨x19,hx19,h⟩:=bs h
  obtain ⟨c24,hr25,hc26⟩:=RdD.at_ hs1 _ _ hx19
  obtain ⟨s20,s22,rfl,hs21,hs23⟩:=hr25
  refine zr 1 5 [(21,va (slAt s1 22 (Int.toNat x7)))] ?_
  refine zv ((gTx x19.Tx s20 s22)) (lld 0 hc26 (St.hp_le H17)) ?_
  obtain ⟨t27,ht27,h⟩:=bs h
  refine zo (oca (g_tarnlaw0_TxWeight_w fuel s20 s22 x19.Tx t27 ht27 _ (Rd.arg0 hs21 H17) (Rd.arg0 hs23 H17)) ?_)
  rintro _ w28 ⟨rfl,Hc29⟩
  have H30:=St.call0' H17 Hc29
  clear H17 Hc29
  obtain ⟨x31,e,h⟩:=ls h
  refine zn ?_
  refine ze 2 9 [(3,vi x31),(24,vi x31)] ?_
  refine zd ?_
  refine inb_n (then_n ?_)
  refine zg ?_
  obtain ⟨x32,e,h⟩:=ls h
  refine ze 3 3 [(4,vi x32),(16,vi x32),(15,vi x7)] ?_
  refine zd ?_
  exact then_n ⟨n,lS n,x31,x32,yy H30 [] h⟩
 rintro a w33 ⟨x3,G4,rfl,H34,h⟩
 subst hK5
 refine then_n ?_
 refine zsg ?_
 refine zrd 2 2 [(2,vi x3),(25,vi x3)] ?_
 refine WP.ret ?_
 obtain rfl:=oi h
 exact post_r (vi x3) rfl (by kernel_rfl) ⟨rfl,sl H34 []⟩
/- tarn/tarnlaw0.BookWeight -/
def g_tarnlaw0_BookWeight (fuel : Nat) (p1 : TBook) : Option Int :=
  bd (g_tarnlaw0_TxsWeight fuel p1.Txs) fun t12 => lt (wr .i64 ((((List.length p1.Accts : Nat) : Int)) + t12)) fun x13 => bd (g_tarnlaw0_LimboWeight fuel p1.Limbo) fun t14 => lt (wr .i64 (x13 + t14)) fun x15 => some x15
theorem g_tarnlaw0_BookWeight_w (fuel : Nat) (s2 s4 s6 : Value) (p1 : TBook) (r : Int) (h : g_tarnlaw0_BookWeight fuel p1 = some r) (w0 : World) (hs3 : Rd fTAcct (hp no w0) s2 p1.Accts) (hs5 : RdD dTTx (hp no w0) s4 p1.Txs) (hs7 : RdD dTHeld (hp no w0) s6 p1.Limbo) :
 Ret Tryz.prog 11 #[.agg #[vi p1.Room, vi p1.Head.Number, vu p1.Head.Base.e0, vu p1.Head.Base.e1, vu p1.Head.Base.e2, vu p1.Head.Base.e3, vi p1.Head.Excess, s2, s4, s6]] w0 (fun v w' => v = vi r ∧ St no w0 w' []) := by
 unfold g_tarnlaw0_BookWeight at h
 refine ret_of_wpS Tryz.func11 rfl 14 rfl [(0,.agg #[vi p1.Room,vi p1.Head.Number,vu p1.Head.Base.e0,vu p1.Head.Base.e1,vu p1.Head.Base.e2,vu p1.Head.Base.e3,vi p1.Head.Excess,s2,s4,s6])] (by kernel_rfl) (fun G=>?_)
 have H0:=St.start w0
 refine zsg ?_
 refine zo (obx H0 #[vi p1.Room,vi p1.Head.Number,vu p1.Head.Base.e0,vu p1.Head.Base.e1,vu p1.Head.Base.e2,vu p1.Head.Base.e3,vi p1.Head.Excess,s2,s4,s6] 31 (fun b8 w10 H11=>?_))
 refine zn ?_
 refine zrd 1 2 [(2,vi 0)] ?_
 refine zs ?_
 refine WP.quiet (by kernel_rfl) (by kernel_rfl) (by kernel_rfl) (fun w=>St no w0 w [Box b8 #[vi p1.Room,vi p1.Head.Number,vu p1.Head.Base.e0,vu p1.Head.Base.e1,vu p1.Head.Base.e2,vu p1.Head.Base.e3,vi p1.Head.Excess,s2,s4,s6] 31]) (St.drew H11) ?_
 refine qr 1 1 [(3,vp b8 7)] ?_
 refine qv (s2) (fun w H=>llb H 0 7) ?_
 refine qv (vi (((List.length p1.Accts : Nat) : Int))) (fun w H=>lln (Rd.sl hs3) 71 5 40) ?_
 refine qr 1 4 [(6,vp b8 8)] ?_
 refine qv (s4) (fun w H=>llb H 0 8) ?_
 obtain ⟨t12,ht12,h⟩:=bs h
 refine qc (vi t12) (fun w H=>Ret.mono (g_tarnlaw0_TxsWeight_w fuel s4 p1.Txs t12 ht12 _ (RdD.mono (sub_hp (St.hp_le H)) hs5)) fun u w1 hu=>⟨hu.1,St.call0' H hu.2⟩) ?_
 obtain ⟨x13,e,h⟩:=ls h
 refine qe 2 8 [(10,vp b8 9),(9,vi x13)] ?_
 refine qv (s6) (fun w H=>llb H 0 9) ?_
 obtain ⟨t14,ht14,h⟩:=bs h
 refine qc (vi t14) (fun w H=>Ret.mono (g_tarnlaw0_LimboWeight_w fuel s6 p1.Limbo t14 ht14 _ (RdD.mono (sub_hp (St.hp_le H)) hs7)) fun u w1 hu=>⟨hu.1,St.call0' H hu.2⟩) ?_
 obtain ⟨x15,e,h⟩:=ls h
 refine qe 2 12 [(2,vi x15),(13,vi x15)] ?_
 refine qd fun w16 H17=>?_
 refine then_n ?_
 refine WP.ret ?_
 obtain rfl:=oi h
 exact post_r (vi x15) rfl (by kernel_rfl) ⟨rfl,sl H17 []⟩
/- tarn/tarnlaw16.Heavy -/
def g_tarnlaw16_Heavy (fuel : Nat) (p1 : TBook) : Option Bool :=
  jn (fun (c12 : Bool) => some c12) fun K14 => bd (g_tarnlaw0_BookWeight fuel p1) fun t15 => lt (decide (t15 > 4000)) fun c19 => br c19 (K14 true) (lt (decide ((((List.length p1.Txs : Nat) : Int)) > 60)) fun c20 => br c20 (K14 true) (lt (decide ((((List.length p1.Limbo : Nat) : Int)) > 60)) fun c21 => K14 c21))
theorem g_tarnlaw16_Heavy_w (fuel : Nat) (s2 s4 s6 : Value) (p1 : TBook) (r : Bool) (h : g_tarnlaw16_Heavy fuel p1 = some r) (w0 : World) (hs3 : Rd fTAcct (hp no w0) s2 p1.Accts) (hs5 : RdD dTTx (hp no w0) s4 p1.Txs) (hs7 : RdD dTHeld (hp no w0) s6 p1.Limbo) :
 Ret Tryz.prog 4 #[.agg #[vi p1.Room, vi p1.Head.Number, vu p1.Head.Base.e0, vu p1.Head.Base.e1, vu p1.Head.Base.e2, vu p1.Head.Base.e3, vi p1.Head.Excess, s2, s4, s6]] w0 (fun v w' => v = vb r ∧ St no w0 w' []) := by
 unfold g_tarnlaw16_Heavy at h
 refine ret_of_wpS Tryz.func4 rfl 18 rfl [(0,.agg #[vi p1.Room,vi p1.Head.Number,vu p1.Head.Base.e0,vu p1.Head.Base.e1,vu p1.Head.Base.e2,vu p1.Head.Base.e3,vi p1.Head.Excess,s2,s4,s6])] (by kernel_rfl) (fun G=>?_)
 have H0:=St.start w0
 refine zsg ?_
 refine zo (obx H0 #[vi p1.Room,vi p1.Head.Number,vu p1.Head.Base.e0,vu p1.Head.Base.e1,vu p1.Head.Base.e2,vu p1.Head.Base.e3,vi p1.Head.Excess,s2,s4,s6] 31 (fun b8 w10 H11=>?_))
 refine zn ?_
 refine zrd 1 2 [(2,vb false)] ?_
 refine zs ?_
 obtain ⟨K14,hK14,h⟩:=js h
 refine WP.onlyN (fun a w=>∃ (c12 : Bool),Y 18 [(2,vb c12)] [] no w0 [Box b8 #[vi p1.Room,vi p1.Head.Number,vu p1.Head.Base.e0,vu p1.Head.Base.e1,vu p1.Head.Base.e2,vu p1.Head.Base.e3,vi p1.Head.Excess,s2,s4,s6] 31] (K14 c12 = some r) a w) ?_ ?_
 ·refine zg ?_
  refine zv (.agg #[vi p1.Room,vi p1.Head.Number,vu p1.Head.Base.e0,vu p1.Head.Base.e1,vu p1.Head.Base.e2,vu p1.Head.Base.e3,vi p1.Head.Excess,s2,s4,s6]) (llb H11 0 0) ?_
  obtain ⟨t15,ht15,h⟩:=bs h
  refine zo (oca (g_tarnlaw0_BookWeight_w fuel s2 s4 s6 p1 t15 ht15 _ (Rd.arg0 hs3 H11) (RdD.mono (sub_hp (St.hp_le H11)) hs5) (RdD.mono (sub_hp (St.hp_le H11)) hs7)) ?_)
  rintro _ w16 ⟨rfl,Hc17⟩
  have H18:=St.call0' H11 Hc17
  clear H11 Hc17
  obtain ⟨c19,e,h⟩:=ls h
  refine zn ?_
  refine ze 2 4 [(6,vb c19),(5,vb c19)] ?_
  cases c19
  rotate_left
  ·replace h:=bt h
   refine zr 12 16 [(2,vb true),(17,vb true),(16,Z),(15,Z),(14,Z),(13,Z),(12,vb true),(11,vb true),(10,Z),(9,Z),(8,Z),(7,Z)] ?_
   refine zd ?_
   exact ⟨true,yy H18 [0] h⟩
  replace h:=bf h
  refine zr 1 5 [(7,vp b8 8)] ?_
  refine zv (s4) (llb H18 0 8) ?_
  refine zv (vi (((List.length p1.Txs : Nat) : Int))) (lln (RdD.sl hs5) 44 21 200) ?_
  obtain ⟨c20,e,h⟩:=ls h
  refine ze 3 10 [(12,vb c20),(11,vb c20),(10,vb c20)] ?_
  cases c20
  rotate_left
  ·replace h:=bt h
   refine zr 6 16 [(2,vb true),(17,vb true),(16,Z),(15,Z),(14,Z),(13,Z)] ?_
   refine zd ?_
   exact ⟨true,yy H18 [0] h⟩
  replace h:=bf h
  refine zr 1 11 [(13,vp b8 9)] ?_
  refine zv (s6) (llb H18 0 9) ?_
  refine zv (vi (((List.length p1.Limbo : Nat) : Int))) (lln (RdD.sl hs7) 46 22 208) ?_
  obtain ⟨c21,e,h⟩:=ls h
  refine ze 3 16 [(2,vb c21),(17,vb c21),(16,vb c21)] ?_
  refine zd ?_
  exact ⟨c21,yy H18 [0] h⟩
 rintro a w22 ⟨c12,G13,rfl,H23,h⟩
 subst hK14
 refine then_n ?_
 refine WP.ret ?_
 obtain rfl:=oi h
 exact post_r (vb c12) rfl (by kernel_rfl) ⟨rfl,sl H23 []⟩
/- tarn/size.Slot -/
def g_size_Slot (fuel : Nat) (p1 : Int) : Option (Int × Int) :=
  jn (fun (c2 : Bool) => br c2 (some (0, 1)) (gd ((0 : Int) ≤ p1) <| lt (ishl .i64 128 p1) fun x10 => some (x10, 0))) fun K4 => lt (decide (p1 < 0)) fun c5 => br c5 (K4 true) (lt (decide (p1 ≥ 4)) fun c6 => K4 c6)
theorem g_size_Slot_w (fuel : Nat) (p1 : Int) (r : Int × Int) (h : g_size_Slot fuel p1 = some r) (w0 : World) :
 Ret Tryz.prog 44 #[vi p1] w0 (fun v w' => v = .tuple #[vi r.1, vi r.2] ∧ St no w0 w' []) := by
 unfold g_size_Slot at h
 refine ret_of_wpS Tryz.func44 rfl 12 rfl [(0,vi p1)] (by kernel_rfl) (fun G=>?_)
 have H0:=St.start w0
 refine zsg ?_
 refine zrd 2 2 [(3,vi 0),(2,vi 0)] ?_
 refine zs ?_
 refine zs ?_
 obtain ⟨K4,hK4,h⟩:=js h
 refine WP.onlyN (fun a w=>∃ (c2 : Bool),Y 12 [(0,vi p1),(9,vb c2)] [] no w0 [] (K4 c2 = some r) a w) ?_ ?_
 ·refine zg ?_
  obtain ⟨c5,e,h⟩:=ls h
  refine ze 3 3 [(6,vb c5),(5,vb c5),(4,vi p1)] ?_
  cases c5
  rotate_left
  ·replace h:=bt h
   refine zr 3 6 [(9,vb true),(8,Z),(7,Z)] ?_
   refine zd ?_
   exact ⟨true,yy H0 [] h⟩
  replace h:=bf h
  obtain ⟨c6,e,h⟩:=ls h
  refine ze 3 6 [(9,vb c6),(8,vb c6),(7,vi p1)] ?_
  refine zd ?_
  exact ⟨c6,yy H0 [] h⟩
 rintro a w7 ⟨c2,G3,rfl,H8,h⟩
 subst hK4
 refine then_n ?_
 cases c2
 rotate_left
 ·replace h:=bt h
  refine zT ?_
  refine zsg ?_
  refine zrd 2 2 [(3,vi 1),(2,vi 0)] ?_
  refine WP.ret ?_
  obtain rfl:=oi h
  exact then_r (post_r (.tuple #[vi 0,vi 1]) rfl (by kernel_rfl) ⟨rfl,sl H8 []⟩)
 replace h:=bf h
 refine zFn ?_
 refine zsg ?_
 obtain ⟨hg9,h⟩:=gs h
 obtain ⟨x10,hx10,h⟩:=ls h
 refine zr 1 1 [(10,vi p1)] ?_
 refine WPI.valueS (vi x10) 11 rfl rfl (by kernel_rfl) (Eq.trans (ev_shl .i64 .i64 128 p1 3 3 (.const (vi 128)) (.tmp 10) rfl (by kernel_rfl) (by kernel_rfl) hg9) (by rw [← hx10])) ?_
 refine zrd 2 4 [(3,vi 0),(2,vi x10)] ?_
 refine WP.ret ?_
 obtain rfl:=oi h
 exact post_r (.tuple #[vi x10,vi 0]) rfl (by kernel_rfl) ⟨rfl,sl H8 []⟩
/- tarn/pool.roomy -/
def g_pool_roomy (fuel : Nat) (p1 : Int) : Option Bool :=
  bd (g_size_Slot fuel 3) fun t2 => jn (fun (c6 : Bool) => some c6) fun K8 => lt (decide (p1 ≥ t2.1)) fun c9 => br c9 (lt (decide (p1 ≤ 1048576)) fun c10 => K8 c10) (K8 false)
theorem g_pool_roomy_w (fuel : Nat) (p1 : Int) (r : Bool) (h : g_pool_roomy fuel p1 = some r) (w0 : World) :
 Ret Tryz.prog 22 #[vi p1] w0 (fun v w' => v = vb r ∧ St no w0 w' []) := by
 unfold g_pool_roomy at h
 refine ret_of_wpS Tryz.func22 rfl 16 rfl [(0,vi p1)] (by kernel_rfl) (fun G=>?_)
 have H0:=St.start w0
 refine zsg ?_
 refine zrd 1 1 [(2,vb false)] ?_
 refine zsg ?_
 obtain ⟨t2,ht2,h⟩:=bs h
 refine zo (oca (g_size_Slot_w fuel 3 t2 ht2 _) ?_)
 rintro _ w3 ⟨rfl,Hc4⟩
 have H5:=St.call0' H0 Hc4
 clear Hc4
 refine zn ?_
 refine zrd 5 6 [(4,vi t2.2),(3,vi t2.1),(8,vi t2.2),(7,vi t2.1),(5,.tuple #[vi t2.1,vi t2.2])] ?_
 refine zs ?_
 obtain ⟨K8,hK8,h⟩:=js h
 refine WP.onlyN (fun a w=>∃ (c6 : Bool),Y 16 [(2,vb c6)] [] no w0 [] (K8 c6 = some r) a w) ?_ ?_
 ·refine zg ?_
  obtain ⟨c9,e,h⟩:=ls h
  refine ze 4 4 [(12,vb c9),(11,vb c9),(10,vi t2.1),(9,vi p1)] ?_
  cases c9
  ·replace h:=bf h
   refine zr 4 8 [(2,vb false),(15,vb false),(14,Z),(13,Z)] ?_
   refine zd ?_
   exact ⟨false,yy H5 [] h⟩
  replace h:=bt h
  obtain ⟨c10,e,h⟩:=ls h
  refine ze 4 8 [(2,vb c10),(15,vb c10),(14,vb c10),(13,vi p1)] ?_
  refine zd ?_
  exact ⟨c10,yy H5 [] h⟩
 rintro a w11 ⟨c6,G7,rfl,H12,h⟩
 subst hK8
 refine then_n ?_
 refine WP.ret ?_
 obtain rfl:=oi h
 exact post_r (vb c6) rfl (by kernel_rfl) ⟨rfl,sl H12 []⟩
/- tarn/pool.Head -/
def g_pool_Head (fuel : Nat) (p1 : THead) : Option Bool :=
  jn (fun (c6 : Bool) => some c6) fun K8 => lt (decide (p1.Number ≥ 0)) fun c9 => br c9 (lt (decide (p1.Number ≤ 1099511627776)) fun c10 => br c10 (lt (decide (p1.Excess ≥ 0)) fun c11 => br c11 (lt (decide (p1.Excess ≤ 1099511627776)) fun c12 => K8 c12) (K8 false)) (K8 false)) (K8 false)
theorem g_pool_Head_w (fuel : Nat) (p1 : THead) (r : Bool) (h : g_pool_Head fuel p1 = some r) (w0 : World) :
 Ret Tryz.prog 45 #[THead.val p1] w0 (fun v w' => v = vb r ∧ St no w0 w' []) := by
 unfold g_pool_Head at h
 refine ret_of_wpS Tryz.func45 rfl 21 rfl [(0,THead.val p1)] (by kernel_rfl) (fun G=>?_)
 have H0:=St.start w0
 refine zsg ?_
 refine zo (obx H0 (THead.cs p1).toArray 26 (fun b2 w4 H5=>?_))
 refine zn ?_
 refine zrd 1 2 [(2,vb false)] ?_
 refine zs ?_
 obtain ⟨K8,hK8,h⟩:=js h
 refine WP.onlyN (fun a w=>∃ (c6 : Bool),Y 21 [(2,vb c6)] [] no w0 [Box b2 (THead.cs p1).toArray 26] (K8 c6 = some r) a w) ?_ ?_
 ·refine zg ?_
  refine zr 1 1 [(3,vp b2 0)] ?_
  refine zv (vi p1.Number) (llb H5 0 0) ?_
  obtain ⟨c9,e,h⟩:=ls h
  refine ze 2 4 [(6,vb c9),(5,vb c9)] ?_
  cases c9
  ·replace h:=bf h
   refine zr 15 19 [(2,vb false),(20,vb false),(19,Z),(18,Z),(17,Z),(16,vb false),(15,vb false),(14,Z),(13,Z),(12,Z),(11,vb false),(10,vb false),(9,Z),(8,Z),(7,Z)] ?_
   refine zd ?_
   exact ⟨false,yy H5 [0] h⟩
  replace h:=bt h
  refine zr 1 5 [(7,vp b2 0)] ?_
  refine zv (vi p1.Number) (llb H5 0 0) ?_
  obtain ⟨c10,e,h⟩:=ls h
  refine ze 3 9 [(11,vb c10),(10,vb c10),(9,vb c10)] ?_
  cases c10
  ·replace h:=bf h
   refine zr 10 19 [(2,vb false),(20,vb false),(19,Z),(18,Z),(17,Z),(16,vb false),(15,vb false),(14,Z),(13,Z),(12,Z)] ?_
   refine zd ?_
   exact ⟨false,yy H5 [0] h⟩
  replace h:=bt h
  refine zr 1 10 [(12,vp b2 5)] ?_
  refine zv (vi p1.Excess) (llb H5 0 5) ?_
  obtain ⟨c11,e,h⟩:=ls h
  refine ze 3 14 [(16,vb c11),(15,vb c11),(14,vb c11)] ?_
  cases c11
  ·replace h:=bf h
   refine zr 5 19 [(2,vb false),(20,vb false),(19,Z),(18,Z),(17,Z)] ?_
   refine zd ?_
   exact ⟨false,yy H5 [0] h⟩
  replace h:=bt h
  refine zr 1 15 [(17,vp b2 5)] ?_
  refine zv (vi p1.Excess) (llb H5 0 5) ?_
  obtain ⟨c12,e,h⟩:=ls h
  refine ze 3 19 [(2,vb c12),(20,vb c12),(19,vb c12)] ?_
  refine zd ?_
  exact ⟨c12,yy H5 [0] h⟩
 rintro a w13 ⟨c6,G7,rfl,H14,h⟩
 subst hK8
 refine then_n ?_
 refine WP.ret ?_
 obtain rfl:=oi h
 exact post_r (vb c6) rfl (by kernel_rfl) ⟨rfl,sl H14 []⟩
/- slices.IndexFunc[[]tarn/api.Acct,tarn/api.Acct] -/
def g_sIdx_l1 (l2 : List TAcct) (q4 : TAcct → Option Bool) (K7 : Option Int) (fuel : Nat) : Nat → Int → Option Int
  | 0, _ => none
  | n + 1, x8 => lt (decide (x8 < (((List.length l2 : Nat) : Int)))) fun c12 => br c12 (gd ((0 : Int) ≤ x8 ∧ x8 < ((List.length l2 : Nat) : Int)) <| bd (l2[Int.toNat x8]?) fun x14 => bd (q4 x14) fun t15 => br t15 (some x8) (lt (wr .i64 (x8 + 1)) fun x19 => g_sIdx_l1 l2 q4 K7 fuel n x19)) (K7)
def g_sIdx (fuel : Nat) (l2 : List TAcct) (q4 : TAcct → Option Bool) : Option Int :=
  jn (some ((-1))) fun K7 => g_sIdx_l1 l2 q4 K7 fuel fuel 0
theorem g_sIdx_w (fuel : Nat) (s1 : Value) (l2 : List TAcct) (f3 : Value) (q4 : TAcct → Option Bool) (C5 : World → Prop) (r : Int) (h : g_sIdx fuel l2 q4 = some r) (w0 : World) (hs1 : Rd fTAcct (hp no w0) s1 l2) (hf3 : FnOk Tryz.prog fTAcct fBool C5 f3 q4) (hcf3 : C5 w0) :
 Ret Tryz.prog 87 #[s1, f3] w0 (fun v w' => v = vi r ∧ St no w0 w' []) := by
 unfold g_sIdx at h
 refine ret_of_wpS Tryz.func87 rfl 19 rfl [(0,s1),(1,f3)] (by kernel_rfl) (fun G=>?_)
 have H0:=St.start w0
 refine zsg ?_
 refine zrd 1 1 [(4,vi 0)] ?_
 refine zs ?_
 refine zsg ?_
 refine zr 1 1 [(6,s1)] ?_
 refine zv (vi (((List.length l2 : Nat) : Int))) (lln (Rd.sl hs1) 71 5 40) ?_
 refine zrd 1 3 [(8,vi 0)] ?_
 obtain ⟨K7,hK7,h⟩:=js h
 refine WP.blockJ (fun a w=>Y 19 [] [] no w0 [] (K7 = some r) a w) ?_ ?_
 ·refine WP.loop (fun n a w=>∃ (x8 : Int),Y 19 [(0,s1),(1,f3),(7,vi (((List.length l2 : Nat) : Int))),(8,vi x8)] [] no w0 [] (g_sIdx_l1 l2 q4 K7 fuel n x8 = some r) a w) fuel ⟨0,yy H0 [] h⟩ ?_
  rintro n a w10 ⟨x8,G9,rfl,H11,h⟩
  obtain _ | n:=n
  ·rw [g_sIdx_l1] at h; cases h
  rw [g_sIdx_l1] at h
  refine zsg ?_
  obtain ⟨c12,e,h⟩:=ls h
  refine zed 1 1 [(9,vb c12)] ?_
  refine zs ?_
  cases c12
  ·replace h:=bf h
   refine zF ?_
   refine WP.exit ?_
   exact then_e (then_e (inb_e (then_n (yy H11 [] h))))
  replace h:=bt h
  refine zTn ?_
  refine zs ?_
  refine WP.block ?_
  refine zsg ?_
  refine zrd 2 2 [(5,vi x8),(10,vi x8)] ?_
  refine zsg ?_
  obtain ⟨hg13,h⟩:=gs h
  refine zr 3 3 [(13,vi x8),(12,s1),(11,f3)] ?_
  refine zv (va (slAt s1 5 (Int.toNat x8))) (lli (Rd.sl hs1) 71 5 40 .i64 x8 hg13) ?_
  obtain ⟨x14,hx14,h⟩:=bs h
  refine zv (TAcct.val x14) (lle fTAcct hs1 (St.hp_le H11) hx14 0) ?_
  obtain ⟨t15,ht15,h⟩:=bs h
  refine WPI.op rfl (FnOk.op1 hf3 hcf3 H11 ht15 (by kernel_rfl) rfl (by kernel_rfl) (by kernel_rfl) ?_)
  rintro _ w16 ⟨rfl,Hc17⟩
  have H18:=St.call0' H11 Hc17
  clear H11 Hc17
  refine zn ?_
  refine zdn ?_
  cases t15
  ·replace h:=bf h
   refine zF ?_
   refine WP.skip ?_
   refine inb_n (then_n ?_)
   refine zg ?_
   obtain ⟨x19,e,h⟩:=ls h
   refine ze 2 2 [(8,vi x19),(18,vi x19)] ?_
   refine zd ?_
   exact then_n ⟨n,lS n,x19,yy H18 [] h⟩
  replace h:=bt h
  refine zT ?_
  refine zsg ?_
  refine zrd 2 2 [(4,vi x8),(17,vi x8)] ?_
  refine WP.ret ?_
  obtain rfl:=oi h
  exact inb_r (then_r (then_r (inb_r (then_r (then_r (post_r (vi x8) rfl (by kernel_rfl) ⟨rfl,sl H18 []⟩))))))
 rintro a w20 ⟨G6,rfl,H21,h⟩
 subst hK7
 refine then_n ?_
 refine zsg ?_
 refine zrd 1 1 [(4,vi ((-1)))] ?_
 refine WP.ret ?_
 obtain rfl:=oi h
 exact post_r (vi ((-1))) rfl (by kernel_rfl) ⟨rfl,sl H21 []⟩
/- slices.ContainsFunc[[]tarn/api.Acct,tarn/api.Acct] -/
def g_sCon (fuel : Nat) (l2 : List TAcct) (q4 : TAcct → Option Bool) : Option Bool :=
  bd (g_sIdx fuel l2 q4) fun t6 => lt (decide (t6 ≥ 0)) fun c10 => some c10
theorem g_sCon_w (fuel : Nat) (s1 : Value) (l2 : List TAcct) (f3 : Value) (q4 : TAcct → Option Bool) (C5 : World → Prop) (r : Bool) (h : g_sCon fuel l2 q4 = some r) (w0 : World) (hs1 : Rd fTAcct (hp no w0) s1 l2) (hf3 : FnOk Tryz.prog fTAcct fBool C5 f3 q4) (hcf3 : C5 w0) :
 Ret Tryz.prog 69 #[s1, f3] w0 (fun v w' => v = vb r ∧ St no w0 w' []) := by
 unfold g_sCon at h
 refine ret_of_wpS Tryz.func69 rfl 9 rfl [(0,s1),(1,f3)] (by kernel_rfl) (fun G=>?_)
 have H0:=St.start w0
 refine zsg ?_
 refine zrd 1 1 [(4,vb false)] ?_
 refine zsg ?_
 obtain ⟨t6,ht6,h⟩:=bs h
 refine zr 2 2 [(6,f3),(5,s1)] ?_
 refine zo (oca (g_sIdx_w fuel s1 l2 f3 q4 C5 t6 ht6 _ (Rd.arg0 hs1 H0) hf3 (FnOk.keep hf3 hcf3 H0)) ?_)
 rintro _ w7 ⟨rfl,Hc8⟩
 have H9:=St.call0' H0 Hc8
 clear Hc8
 obtain ⟨c10,e,h⟩:=ls h
 refine zn ?_
 refine zed 2 5 [(4,vb c10),(8,vb c10)] ?_
 refine WP.ret ?_
 obtain rfl:=oi h
 exact post_r (vb c10) rfl (by kernel_rfl) ⟨rfl,sl H9 []⟩
/- tarn/pool.Accts$1 -/
def g_pool_Accts_1 (fuel : Nat) (p1 : TAcct) : Option Bool :=
  jn (fun (c6 : Bool) => some c6) fun K8 => lt (decide (p1.Nonce < 0)) fun c9 => br c9 (K8 true) (lt (decide (p1.Nonce > 1099511627776)) fun c10 => K8 c10)
theorem g_pool_Accts_1_w (fuel : Nat) (p1 : TAcct) (r : Bool) (h : g_pool_Accts_1 fuel p1 = some r) (w0 : World) :
 Ret Tryz.prog 70 #[TAcct.val p1] w0 (fun v w' => v = vb r ∧ St no w0 w' []) := by
 unfold g_pool_Accts_1 at h
 refine ret_of_wpS Tryz.func70 rfl 11 rfl [(0,TAcct.val p1)] (by kernel_rfl) (fun G=>?_)
 have H0:=St.start w0
 refine zsg ?_
 refine zo (obx H0 (TAcct.cs p1).toArray 71 (fun b2 w4 H5=>?_))
 refine zn ?_
 refine zrd 1 2 [(2,vb false)] ?_
 refine zs ?_
 obtain ⟨K8,hK8,h⟩:=js h
 refine WP.onlyN (fun a w=>∃ (c6 : Bool),Y 11 [(2,vb c6)] [] no w0 [Box b2 (TAcct.cs p1).toArray 71] (K8 c6 = some r) a w) ?_ ?_
 ·refine zg ?_
  refine zr 1 1 [(3,vp b2 0)] ?_
  refine zv (vi p1.Nonce) (llb H5 0 0) ?_
  obtain ⟨c9,e,h⟩:=ls h
  refine ze 2 4 [(6,vb c9),(5,vb c9)] ?_
  cases c9
  rotate_left
  ·replace h:=bt h
   refine zr 5 9 [(2,vb true),(10,vb true),(9,Z),(8,Z),(7,Z)] ?_
   refine zd ?_
   exact ⟨true,yy H5 [0] h⟩
  replace h:=bf h
  refine zr 1 5 [(7,vp b2 0)] ?_
  refine zv (vi p1.Nonce) (llb H5 0 0) ?_
  obtain ⟨c10,e,h⟩:=ls h
  refine ze 3 9 [(2,vb c10),(10,vb c10),(9,vb c10)] ?_
  refine zd ?_
  exact ⟨c10,yy H5 [0] h⟩
 rintro a w11 ⟨c6,G7,rfl,H12,h⟩
 subst hK8
 refine then_n ?_
 refine WP.ret ?_
 obtain rfl:=oi h
 exact post_r (vb c6) rfl (by kernel_rfl) ⟨rfl,sl H12 []⟩
/- tarn/pool.Accts -/
def g_pool_Accts (fuel : Nat) (l2 : List TAcct) : Option Bool :=
  jn (fun (c3 : Bool) => some c3) fun K5 => lt ((((List.length l2 : Nat) : Int)) == 8) fun c6 => br c6 (bd (g_sCon fuel l2 (fun x => g_pool_Accts_1 fuel x)) fun t7 => lt (!t7) fun c11 => K5 c11) (K5 false)
theorem g_pool_Accts_w (fuel : Nat) (s1 : Value) (l2 : List TAcct) (r : Bool) (h : g_pool_Accts fuel l2 = some r) (w0 : World) (hs1 : Rd fTAcct (hp no w0) s1 l2) :
 Ret Tryz.prog 46 #[s1] w0 (fun v w' => v = vb r ∧ St no w0 w' []) := by
 unfold g_pool_Accts at h
 refine ret_of_wpS Tryz.func46 rfl 11 rfl [(0,s1)] (by kernel_rfl) (fun G=>?_)
 have H0:=St.start w0
 refine zsg ?_
 refine zrd 1 1 [(2,vb false)] ?_
 refine zs ?_
 obtain ⟨K5,hK5,h⟩:=js h
 refine WP.onlyN (fun a w=>∃ (c3 : Bool),Y 11 [(2,vb c3)] [] no w0 [] (K5 c3 = some r) a w) ?_ ?_
 ·refine zg ?_
  refine zr 1 1 [(3,s1)] ?_
  refine zv (vi (((List.length l2 : Nat) : Int))) (lln (Rd.sl hs1) 71 5 40) ?_
  obtain ⟨c6,e,h⟩:=ls h
  refine ze 2 4 [(6,vb c6),(5,vb c6)] ?_
  cases c6
  ·replace h:=bf h
   refine zr 5 9 [(2,vb false),(10,vb false),(9,Z),(8,Z),(7,Z)] ?_
   refine zd ?_
   exact ⟨false,yy H0 [] h⟩
  replace h:=bt h
  obtain ⟨t7,ht7,h⟩:=bs h
  refine zr 1 5 [(7,s1)] ?_
  refine zo (oca (g_sCon_w fuel s1 l2 (Value.func (.func 70) #[] #[]) (fun x=>g_pool_Accts_1 fuel x) (fun w : World=>True) t7 ht7 _ (Rd.arg0 hs1 H0) (fnOk_mk 70 (fun args w=>by kernel_rfl) (fun _ _ _ _=>trivial) (fun w x y hc hy=>g_pool_Accts_1_w fuel x y hy w)) (trivial)) ?_)
  rintro _ w8 ⟨rfl,Hc9⟩
  have H10:=St.call0' H0 Hc9
  clear Hc9
  obtain ⟨c11,e,h⟩:=ls h
  refine zn ?_
  refine ze 3 9 [(2,vb c11),(10,vb c11),(9,vb c11)] ?_
  refine zd ?_
  exact ⟨c11,yy H10 [] h⟩
 rintro a w12 ⟨c3,G4,rfl,H13,h⟩
 subst hK5
 refine then_n ?_
 refine WP.ret ?_
 obtain rfl:=oi h
 exact post_r (vb c3) rfl (by kernel_rfl) ⟨rfl,sl H13 []⟩
/- tarn/u256.Cmp -/
def g_u256_Cmp_l1 (p1 : TU256) (p2 : TU256) (K12 : Option Int) (fuel : Nat) : Nat → Int → Option Int
  | 0, _ => none
  | n + 1, x13 => lt (decide (x13 ≥ 0)) fun c17 => br c17 (gd ((0 : Int) ≤ x13 ∧ x13 < 4) <| bd (([p1.e0, p1.e1, p1.e2, p1.e3] : List Int)[Int.toNat x13]?) fun x19 => gd ((0 : Int) ≤ x13 ∧ x13 < 4) <| bd (([p2.e0, p2.e1, p2.e2, p2.e3] : List Int)[Int.toNat x13]?) fun x21 => lt (decide (x19 < x21)) fun c22 => br c22 (some ((-1))) (gd ((0 : Int) ≤ x13 ∧ x13 < 4) <| bd (([p1.e0, p1.e1, p1.e2, p1.e3] : List Int)[Int.toNat x13]?) fun x26 => gd ((0 : Int) ≤ x13 ∧ x13 < 4) <| bd (([p2.e0, p2.e1, p2.e2, p2.e3] : List Int)[Int.toNat x13]?) fun x28 => lt (decide (x26 > x28)) fun c29 => br c29 (some 1) (lt (wr .i64 (x13 - 1)) fun x32 => g_u256_Cmp_l1 p1 p2 K12 fuel n x32))) (K12)
def g_u256_Cmp (fuel : Nat) (p1 : TU256) (p2 : TU256) : Option Int :=
  jn (some 0) fun K12 => g_u256_Cmp_l1 p1 p2 K12 fuel fuel 3
theorem g_u256_Cmp_w (fuel : Nat) (p1 : TU256) (p2 : TU256) (r : Int) (h : g_u256_Cmp fuel p1 p2 = some r) (w0 : World) :
 Ret Tryz.prog 50 #[TU256.val p1, TU256.val p2] w0 (fun v w' => v = vi r ∧ St no w0 w' []) := by
 unfold g_u256_Cmp at h
 refine ret_of_wpS Tryz.func50 rfl 26 rfl [(0,TU256.val p1),(1,TU256.val p2)] (by kernel_rfl) (fun G=>?_)
 have H0:=St.start w0
 refine zsg ?_
 refine zo (obx H0 (TU256.cs p1).toArray 24 (fun b3 w5 H6=>?_))
 refine zn ?_
 refine zo (obx H6 (TU256.cs p2).toArray 24 (fun b7 w9 H10=>?_))
 clear H6
 refine zn ?_
 refine zrd 1 3 [(4,vi 0)] ?_
 refine zs ?_
 refine zsg ?_
 refine zrd 1 1 [(5,vi 3)] ?_
 obtain ⟨K12,hK12,h⟩:=js h
 refine WP.blockJ (fun a w=>Y 26 [] [] no w0 [Box b7 (TU256.cs p2).toArray 24,Box b3 (TU256.cs p1).toArray 24] (K12 = some r) a w) ?_ ?_
 ·refine WP.loop (fun n a w=>∃ (x13 : Int),Y 26 [(2,vp b3 0),(3,vp b7 0),(5,vi x13)] [] no w0 [Box b7 (TU256.cs p2).toArray 24,Box b3 (TU256.cs p1).toArray 24] (g_u256_Cmp_l1 p1 p2 K12 fuel n x13 = some r) a w) fuel ⟨3,yy H10 [0,1] h⟩ ?_
  rintro n a w15 ⟨x13,G14,rfl,H16,h⟩
  obtain _ | n:=n
  ·rw [g_u256_Cmp_l1] at h; cases h
  rw [g_u256_Cmp_l1] at h
  refine zs ?_
  refine zsg ?_
  obtain ⟨c17,e,h⟩:=ls h
  refine zed 2 2 [(7,vb c17),(6,vi x13)] ?_
  cases c17
  ·replace h:=bf h
   refine zF ?_
   refine WP.exit ?_
   exact then_e (then_e (inb_e (then_n (yy H16 [0,1] h))))
  replace h:=bt h
  refine zTn ?_
  refine zs ?_
  refine WP.block ?_
  refine WP.block ?_
  refine zs ?_
  refine WP.quiet (by kernel_rfl) (by kernel_rfl) (by kernel_rfl) (fun w=>St no w0 w [Box b7 (TU256.cs p2).toArray 24,Box b3 (TU256.cs p1).toArray 24]) (St.drew H16) ?_
  obtain ⟨hg18,h⟩:=gs h
  refine qr 1 1 [(11,vi x13)] ?_
  refine qv (va (((⟨b3,0,none⟩ : Addr).add 0).add (Int.toNat x13 * 1))) (fun w H=>lla ((⟨b3,0,none⟩ : Addr).add 0) 4 22 1 .i64 x13 hg18) ?_
  obtain ⟨x19,hx19,h⟩:=bs h
  refine qv (vu x19) (fun w H=>lld 0 (CellsAt.elem fU64 (St.boxAt H 1 rfl) 0 [p1.e0,p1.e1,p1.e2,p1.e3] [] (by kernel_rfl) _ _ hx19) (le_self _)) ?_
  obtain ⟨hg20,h⟩:=gs h
  refine qr 1 4 [(14,vi x13)] ?_
  refine qv (va (((⟨b7,0,none⟩ : Addr).add 0).add (Int.toNat x13 * 1))) (fun w H=>lla ((⟨b7,0,none⟩ : Addr).add 0) 4 22 1 .i64 x13 hg20) ?_
  obtain ⟨x21,hx21,h⟩:=bs h
  refine qv (vu x21) (fun w H=>lld 0 (CellsAt.elem fU64 (St.boxAt H 0 rfl) 0 [p2.e0,p2.e1,p2.e2,p2.e3] [] (by kernel_rfl) _ _ hx21) (le_self _)) ?_
  obtain ⟨c22,e,h⟩:=ls h
  refine qe 2 8 [(10,vb c22),(17,vb c22)] ?_
  refine qd fun w23 H24=>?_
  refine then_n ?_
  cases c22
  rotate_left
  ·replace h:=bt h
   refine zT ?_
   refine zsg ?_
   refine zrd 1 1 [(4,vi ((-1)))] ?_
   refine WP.ret ?_
   obtain rfl:=oi h
   exact inb_r (inb_r (then_r (then_r (inb_r (then_r (then_r (post_r (vi ((-1))) rfl (by kernel_rfl) ⟨rfl,sl H24 []⟩)))))))
  replace h:=bf h
  refine zF ?_
  refine zs ?_
  refine WP.quiet (by kernel_rfl) (by kernel_rfl) (by kernel_rfl) (fun w=>St no w0 w [Box b7 (TU256.cs p2).toArray 24,Box b3 (TU256.cs p1).toArray 24]) (St.drew H24) ?_
  obtain ⟨hg25,h⟩:=gs h
  refine qr 1 1 [(19,vi x13)] ?_
  refine qv (va (((⟨b3,0,none⟩ : Addr).add 0).add (Int.toNat x13 * 1))) (fun w H=>lla ((⟨b3,0,none⟩ : Addr).add 0) 4 22 1 .i64 x13 hg25) ?_
  obtain ⟨x26,hx26,h⟩:=bs h
  refine qv (vu x26) (fun w H=>lld 0 (CellsAt.elem fU64 (St.boxAt H 1 rfl) 0 [p1.e0,p1.e1,p1.e2,p1.e3] [] (by kernel_rfl) _ _ hx26) (le_self _)) ?_
  obtain ⟨hg27,h⟩:=gs h
  refine qr 1 4 [(22,vi x13)] ?_
  refine qv (va (((⟨b7,0,none⟩ : Addr).add 0).add (Int.toNat x13 * 1))) (fun w H=>lla ((⟨b7,0,none⟩ : Addr).add 0) 4 22 1 .i64 x13 hg27) ?_
  obtain ⟨x28,hx28,h⟩:=bs h
  refine qv (vu x28) (fun w H=>lld 0 (CellsAt.elem fU64 (St.boxAt H 0 rfl) 0 [p2.e0,p2.e1,p2.e2,p2.e3] [] (by kernel_rfl) _ _ hx28) (le_self _)) ?_
  obtain ⟨c29,e,h⟩:=ls h
  refine qe 2 8 [(18,vb c29),(25,vb c29)] ?_
  refine qd fun w30 H31=>?_
  refine then_n ?_
  cases c29
  rotate_left
  ·replace h:=bt h
   refine zT ?_
   refine zsg ?_
   refine zrd 1 1 [(4,vi 1)] ?_
   refine WP.ret ?_
   obtain rfl:=oi h
   exact inb_r (inb_r (then_r (then_r (inb_r (then_r (then_r (post_r (vi 1) rfl (by kernel_rfl) ⟨rfl,sl H31 []⟩)))))))
  replace h:=bf h
  refine zF ?_
  refine WP.skip ?_
  refine inb_n (inb_n (then_n ?_))
  refine zg ?_
  obtain ⟨x32,e,h⟩:=ls h
  refine ze 3 3 [(5,vi x32),(9,vi x32),(8,vi x13)] ?_
  refine zd ?_
  exact then_n ⟨n,lS n,x32,yy H31 [0,1] h⟩
 rintro a w33 ⟨G11,rfl,H34,h⟩
 subst hK12
 refine then_n ?_
 refine zsg ?_
 refine zrd 1 1 [(4,vi 0)] ?_
 refine WP.ret ?_
 obtain rfl:=oi h
 exact post_r (vi 0) rfl (by kernel_rfl) ⟨rfl,sl H34 []⟩
/- tarn/mark.Mark -/
def g_mark_Mark_l1 (p1 : ByteArray) (K4 : Int → Option Int) (fuel : Nat) : Nat → Int → Int → Option Int
  | 0, _, _ => none
  | n + 1, x5, x6 => lt (decide (x6 < ((slen p1)))) fun c10 => br c10 (gd ((0 : Int) ≤ x6 ∧ x6 < slen p1) <| lt (sget p1 x6) fun x12 => lt (wr .u64 x12) fun x13 => lt (ibXor .u64 x5 x13) fun x14 => lt (wr .u64 (x14 * 1099511628211)) fun x15 => lt (wr .i64 (x6 + 1)) fun x16 => g_mark_Mark_l1 p1 K4 fuel n x15 x16) (K4 x5)
def g_mark_Mark (fuel : Nat) (p1 : ByteArray) : Option Int :=
  jn (fun (x2 : Int) => some x2) fun K4 => g_mark_Mark_l1 p1 K4 fuel fuel 14695981039346656037 0
theorem g_mark_Mark_w (fuel : Nat) (p1 : ByteArray) (r : Int) (h : g_mark_Mark fuel p1 = some r) (w0 : World) :
 Ret Tryz.prog 73 #[.string p1] w0 (fun v w' => v = vu r ∧ St no w0 w' []) := by
 unfold g_mark_Mark at h
 refine ret_of_wpS Tryz.func73 rfl 19 rfl [(0,.string p1)] (by kernel_rfl) (fun G=>?_)
 have H0:=St.start w0
 refine zsg ?_
 refine zrd 1 1 [(2,vu 0)] ?_
 refine zsg ?_
 refine zrd 1 1 [(3,vu 14695981039346656037)] ?_
 refine zs ?_
 refine zsg ?_
 refine zr 1 1 [(5,.string p1)] ?_
 refine WPI.valueS (vi ((slen p1))) 6 rfl rfl (by kernel_rfl) (ev_slen p1 9 (.tmp 5) rfl (by kernel_rfl) (by kernel_rfl)) ?_
 refine zrd 1 3 [(7,vi 0)] ?_
 obtain ⟨K4,hK4,h⟩:=js h
 refine WP.blockJ (fun a w=>∃ (x2 : Int),Y 19 [(3,vu x2)] [] no w0 [] (K4 x2 = some r) a w) ?_ ?_
 ·refine WP.loop (fun n a w=>∃ (x5 : Int) (x6 : Int),Y 19 [(0,.string p1),(3,vu x5),(6,vi ((slen p1))),(7,vi x6)] [] no w0 [] (g_mark_Mark_l1 p1 K4 fuel n x5 x6 = some r) a w) fuel ⟨14695981039346656037,0,yy H0 [] h⟩ ?_
  rintro n a w8 ⟨x5,x6,G7,rfl,H9,h⟩
  obtain _ | n:=n
  ·rw [g_mark_Mark_l1] at h; cases h
  rw [g_mark_Mark_l1] at h
  refine zsg ?_
  obtain ⟨c10,e,h⟩:=ls h
  refine zed 1 1 [(8,vb c10)] ?_
  refine zs ?_
  cases c10
  ·replace h:=bf h
   refine zF ?_
   refine WP.exit ?_
   exact then_e (then_e (inb_e (then_n ⟨x5,yy H9 [] h⟩)))
  replace h:=bt h
  refine zTn ?_
  refine zs ?_
  refine WP.block ?_
  refine zsg ?_
  refine zrd 2 2 [(4,vi x6),(9,vi x6)] ?_
  refine zg ?_
  obtain ⟨hg11,h⟩:=gs h
  obtain ⟨x12,hx12,h⟩:=ls h
  refine zr 3 3 [(12,vi x6),(11,.string p1),(10,vu x5)] ?_
  refine WPI.valueS (.int .u8 x12) 13 rfl rfl (by kernel_rfl) (Eq.trans (ev_sidx p1 .i64 x6 9 (.tmp 11) (.tmp 12) rfl (by kernel_rfl) (by kernel_rfl) (by kernel_rfl) hg11) (by rw [← hx12])) ?_
  obtain ⟨x13,hx13,h⟩:=ls h
  obtain ⟨x14,hx14,h⟩:=ls h
  obtain ⟨x15,hx15,h⟩:=ls h
  refine zr 4 8 [(3,vu x15),(16,vu x15),(15,vu x14),(14,vu x13)] ?_ rfl (fun K=>by subst hx15 hx14 hx13; kernel_rfl)
  refine zd ?_
  refine inb_n (then_n ?_)
  refine zg ?_
  obtain ⟨x16,e,h⟩:=ls h
  refine ze 2 2 [(7,vi x16),(17,vi x16)] ?_
  refine zd ?_
  exact then_n ⟨n,lS n,x15,x16,yy H9 [] h⟩
 rintro a w17 ⟨x2,G3,rfl,H18,h⟩
 subst hK4
 refine then_n ?_
 refine zsg ?_
 refine zrd 2 2 [(2,vu x2),(18,vu x2)] ?_
 refine WP.ret ?_
 obtain rfl:=oi h
 exact post_r (vu x2) rfl (by kernel_rfl) ⟨rfl,sl H18 []⟩
/- tarn/blob.Hash -/
def g_blob_Hash (fuel : Nat) (p1 : ByteArray) : Option (Int × Int) :=
  lt (decide (((slen p1)) > 64)) fun c2 => br c2 (some (0, 2)) (gd (slen ((ByteArray.mk #[98, 108, 111, 98])) + slen p1 ≤ 9223372036854775807) <| lt (((ByteArray.mk #[98, 108, 111, 98])) ++ p1) fun t4 => bd (g_mark_Mark fuel t4) fun t5 => some (t5, 0))
theorem g_blob_Hash_w (fuel : Nat) (p1 : ByteArray) (r : Int × Int) (h : g_blob_Hash fuel p1 = some r) (w0 : World) :
 Ret Tryz.prog 101 #[.string p1] w0 (fun v w' => v = .tuple #[vu r.1, vi r.2] ∧ St no w0 w' []) := by
 unfold g_blob_Hash at h
 refine ret_of_wpS Tryz.func101 rfl 10 rfl [(0,.string p1)] (by kernel_rfl) (fun G=>?_)
 have H0:=St.start w0
 refine zsg ?_
 refine zrd 2 2 [(3,vi 0),(2,vu 0)] ?_
 refine zs ?_
 refine zsg ?_
 refine zr 1 1 [(4,.string p1)] ?_
 refine WPI.valueS (vi ((slen p1))) 5 rfl rfl (by kernel_rfl) (ev_slen p1 9 (.tmp 4) rfl (by kernel_rfl) (by kernel_rfl)) ?_
 obtain ⟨c2,e,h⟩:=ls h
 refine zed 1 3 [(6,vb c2)] ?_
 cases c2
 rotate_left
 ·replace h:=bt h
  refine zT ?_
  refine zsg ?_
  refine zrd 2 2 [(3,vi 2),(2,vu 0)] ?_
  refine WP.ret ?_
  obtain rfl:=oi h
  exact then_r (post_r (.tuple #[vu 0,vi 2]) rfl (by kernel_rfl) ⟨rfl,sl H0 []⟩)
 replace h:=bf h
 refine zFn ?_
 refine zsg ?_
 obtain ⟨hg3,h⟩:=gs h
 obtain ⟨t4,ht4,h⟩:=ls h
 refine zr 1 1 [(7,.string p1)] ?_
 refine WPI.valueS (.string t4) 8 rfl rfl (by kernel_rfl) (Eq.trans (ev_cat ((ByteArray.mk #[98,108,111,98])) p1 9 9 (.const (.string ((ByteArray.mk #[98,108,111,98])))) (.tmp 7) rfl (by kernel_rfl) (by kernel_rfl) hg3) (by rw [← ht4])) ?_
 obtain ⟨t5,ht5,h⟩:=bs h
 refine zo (oca (g_mark_Mark_w fuel t4 t5 ht5 _) ?_)
 rintro _ w6 ⟨rfl,Hc7⟩
 have H8:=St.call0' H0 Hc7
 clear Hc7
 refine zn ?_
 refine zrd 2 5 [(3,vi 0),(2,vu t5)] ?_
 refine WP.ret ?_
 obtain rfl:=oi h
 exact post_r (.tuple #[vu t5,vi 0]) rfl (by kernel_rfl) ⟨rfl,sl H8 []⟩
/- tarn/blob.Fits -/
def g_blob_Fits_l1 (l4 : List ByteArray) (fuel : Nat) (l2 : List Int) (K15 : Bool → Option Int) : Nat → Bool → Int → Option Int
  | 0, _, _ => none
  | n + 1, c16, x17 => lt (decide (x17 < (((List.length l4 : Nat) : Int)))) fun c21 => br c21 (gd ((0 : Int) ≤ x17 ∧ x17 < ((List.length l4 : Nat) : Int)) <| bd (l4[Int.toNat x17]?) fun x23 => bd (g_blob_Hash fuel x23) fun t24 => lt (t24.2 != 0) fun c28 => br c28 (some t24.2) (jn (fun (c29 : Bool) => lt (wr .i64 (x17 + 1)) fun x37 => g_blob_Fits_l1 l4 fuel l2 K15 n c29 x37) fun K31 => br c16 (K31 true) (gd ((0 : Int) ≤ x17 ∧ x17 < ((List.length l2 : Nat) : Int)) <| bd (l2[Int.toNat x17]?) fun x33 => lt (t24.1 != x33) fun c34 => K31 c34))) (K15 c16)
def g_blob_Fits (fuel : Nat) (l2 : List Int) (l4 : List ByteArray) : Option Int :=
  jn (fun (c5 : Bool) => br c5 (some 1) (jn (fun (c13 : Bool) => br c13 (some 1) (some 0)) fun K15 => g_blob_Fits_l1 l4 fuel l2 K15 fuel false 0)) fun K7 => lt (decide ((((List.length l4 : Nat) : Int)) < 1)) fun c8 => br c8 (K7 true) (lt (decide ((((List.length l4 : Nat) : Int)) > 4)) fun c9 => br c9 (K7 true) (lt ((((List.length l2 : Nat) : Int)) != (((List.length l4 : Nat) : Int))) fun c10 => K7 c10))
theorem g_blob_Fits_w (fuel : Nat) (s1 : Value) (l2 : List Int) (s3 : Value) (l4 : List ByteArray) (r : Int) (h : g_blob_Fits fuel l2 l4 = some r) (w0 : World) (hs1 : Rd fU64 (hp no w0) s1 l2) (hs3 : Rd fStr (hp no w0) s3 l4) :
 Ret Tryz.prog 76 #[s1, s3] w0 (fun v w' => v = vi r ∧ St no w0 w' []) := by
 unfold g_blob_Fits at h
 refine ret_of_wpS Tryz.func76 rfl 51 rfl [(0,s1),(1,s3)] (by kernel_rfl) (fun G=>?_)
 have H0:=St.start w0
 refine zsg ?_
 refine zrd 1 1 [(4,vi 0)] ?_
 refine zs ?_
 refine zs ?_
 obtain ⟨K7,hK7,h⟩:=js h
 refine WP.onlyN (fun a w=>∃ (c5 : Bool),Y 51 [(0,s1),(1,s3),(24,vb c5)] [] no w0 [] (K7 c5 = some r) a w) ?_ ?_
 ·refine zg ?_
  refine zr 1 1 [(10,s3)] ?_
  refine zv (vi (((List.length l4 : Nat) : Int))) (lln (Rd.sl hs3) 9 1 16) ?_
  obtain ⟨c8,e,h⟩:=ls h
  refine ze 2 4 [(13,vb c8),(12,vb c8)] ?_
  cases c8
  rotate_left
  ·replace h:=bt h
   refine zr 11 15 [(24,vb true),(23,Z),(22,Z),(21,Z),(20,Z),(19,Z),(18,vb true),(17,vb true),(16,Z),(15,Z),(14,Z)] ?_
   refine zd ?_
   exact ⟨true,yy H0 [] h⟩
  replace h:=bf h
  refine zr 1 5 [(14,s3)] ?_
  refine zv (vi (((List.length l4 : Nat) : Int))) (lln (Rd.sl hs3) 9 1 16) ?_
  obtain ⟨c9,e,h⟩:=ls h
  refine ze 3 9 [(18,vb c9),(17,vb c9),(16,vb c9)] ?_
  cases c9
  rotate_left
  ·replace h:=bt h
   refine zr 6 15 [(24,vb true),(23,Z),(22,Z),(21,Z),(20,Z),(19,Z)] ?_
   refine zd ?_
   exact ⟨true,yy H0 [] h⟩
  replace h:=bf h
  refine zr 1 10 [(19,s1)] ?_
  refine zv (vi (((List.length l2 : Nat) : Int))) (lln (Rd.sl hs1) 22 1 8) ?_
  refine zr 1 12 [(21,s3)] ?_
  refine zv (vi (((List.length l4 : Nat) : Int))) (lln (Rd.sl hs3) 9 1 16) ?_
  obtain ⟨c10,e,h⟩:=ls h
  refine ze 2 15 [(24,vb c10),(23,vb c10)] ?_
  refine zd ?_
  exact ⟨c10,yy H0 [] h⟩
 rintro a w11 ⟨c5,G6,rfl,H12,h⟩
 subst hK7
 refine then_n ?_
 cases c5
 rotate_left
 ·replace h:=bt h
  refine zT ?_
  refine zsg ?_
  refine zrd 1 1 [(4,vi 1)] ?_
  refine WP.ret ?_
  obtain rfl:=oi h
  exact then_r (post_r (vi 1) rfl (by kernel_rfl) ⟨rfl,sl H12 []⟩)
 replace h:=bf h
 refine zFn ?_
 refine zsg ?_
 refine zrd 1 1 [(5,vb false)] ?_
 refine zs ?_
 refine zsg ?_
 refine zr 1 1 [(25,s3)] ?_
 refine zv (vi (((List.length l4 : Nat) : Int))) (lln (Rd.sl hs3) 9 1 16) ?_
 refine zrd 1 3 [(27,vi 0)] ?_
 obtain ⟨K15,hK15,h⟩:=js h
 refine WP.blockJ (fun a w=>∃ (c13 : Bool),Y 51 [(5,vb c13)] [] no w0 [] (K15 c13 = some r) a w) ?_ ?_
 ·refine WP.loop (fun n a w=>∃ (c16 : Bool) (x17 : Int),Y 51 [(0,s1),(5,vb c16),(25,s3),(26,vi (((List.length l4 : Nat) : Int))),(27,vi x17)] [] no w0 [] (g_blob_Fits_l1 l4 fuel l2 K15 n c16 x17 = some r) a w) fuel ⟨false,0,yy H12 [] h⟩ ?_
  rintro n a w19 ⟨c16,x17,G18,rfl,H20,h⟩
  obtain _ | n:=n
  ·rw [g_blob_Fits_l1] at h; cases h
  rw [g_blob_Fits_l1] at h
  refine zsg ?_
  obtain ⟨c21,e,h⟩:=ls h
  refine zed 1 1 [(28,vb c21)] ?_
  refine zs ?_
  cases c21
  ·replace h:=bf h
   refine zF ?_
   refine WP.exit ?_
   exact then_e (then_e (inb_e (then_n ⟨c16,yy H20 [] h⟩)))
  replace h:=bt h
  refine zTn ?_
  refine zs ?_
  refine WP.block ?_
  refine zsg ?_
  obtain ⟨hg22,h⟩:=gs h
  refine zr 1 1 [(29,vi x17)] ?_
  refine zv (va (slAt s3 1 (Int.toNat x17))) (lli (Rd.sl hs3) 9 1 16 .i64 x17 hg22) ?_
  obtain ⟨x23,hx23,h⟩:=bs h
  refine zv (.string x23) (lle fStr hs3 (St.hp_le H20) hx23 0) ?_
  refine zrd 2 5 [(7,.string x23),(6,vi x17)] ?_
  refine zsg ?_
  obtain ⟨t24,ht24,h⟩:=bs h
  refine zr 1 1 [(33,.string x23)] ?_
  refine zo (oca (g_blob_Hash_w fuel x23 t24 ht24 _) ?_)
  rintro _ w25 ⟨rfl,Hc26⟩
  have H27:=St.call0' H20 Hc26
  clear H20 Hc26
  refine zn ?_
  refine zrd 5 7 [(9,vi t24.2),(8,vu t24.1),(36,vi t24.2),(35,vu t24.1),(32,.tuple #[vu t24.1,vi t24.2])] ?_
  refine zs ?_
  refine zsg ?_
  obtain ⟨c28,e,h⟩:=ls h
  refine zed 2 2 [(38,vb c28),(37,vi t24.2)] ?_
  cases c28
  rotate_left
  ·replace h:=bt h
   refine zT ?_
   refine zsg ?_
   refine zrd 2 2 [(4,vi t24.2),(39,vi t24.2)] ?_
   refine WP.ret ?_
   obtain rfl:=oi h
   exact then_r (inb_r (then_r (then_r (inb_r (then_r (then_r (post_r (vi t24.2) rfl (by kernel_rfl) ⟨rfl,sl H27 []⟩)))))))
  replace h:=bf h
  refine zFn ?_
  obtain ⟨K31,hK31,h⟩:=js h
  refine WP.onlyN (fun a w=>∃ (c29 : Bool),Y 51 [(0,s1),(5,vb c29),(25,s3),(26,vi (((List.length l4 : Nat) : Int))),(27,vi x17)] [] no w0 [] (K31 c29 = some r) a w) ?_ ?_
  ·refine zg ?_
   refine zr 2 2 [(41,vb c16),(40,vb c16)] ?_
   cases c16
   rotate_left
   ·replace h:=bt h
    refine zr 8 10 [(5,vb true),(48,vb true),(47,Z),(46,Z),(45,Z),(44,Z),(43,Z),(42,Z)] ?_
    refine zd ?_
    exact ⟨true,yy H27 [] h⟩
   replace h:=bf h
   obtain ⟨hg32,h⟩:=gs h
   refine zr 3 5 [(44,vi x17),(43,s1),(42,vu t24.1)] ?_
   refine zv (va (slAt s1 1 (Int.toNat x17))) (lli (Rd.sl hs1) 22 1 8 .i64 x17 hg32) ?_
   obtain ⟨x33,hx33,h⟩:=bs h
   refine zv (vu x33) (lle fU64 hs1 (St.hp_le H27) hx33 0) ?_
   obtain ⟨c34,e,h⟩:=ls h
   refine ze 3 10 [(5,vb c34),(48,vb c34),(47,vb c34)] ?_
   refine zd ?_
   exact ⟨c34,yy H27 [] h⟩
  rintro a w35 ⟨c29,G30,rfl,H36,h⟩
  subst hK31
  refine inb_n (then_n ?_)
  refine zg ?_
  obtain ⟨x37,e,h⟩:=ls h
  refine ze 2 2 [(27,vi x37),(49,vi x37)] ?_
  refine zd ?_
  exact then_n ⟨n,lS n,c29,x37,yy H36 [] h⟩
 rintro a w38 ⟨c13,G14,rfl,H39,h⟩
 subst hK15
 refine then_n ?_
 refine zs ?_
 refine zsg ?_
 refine zrd 1 1 [(50,vb c13)] ?_
 cases c13
 ·replace h:=bf h
  refine zFn ?_
  refine zsg ?_
  refine zrd 1 1 [(4,vi 0)] ?_
  refine WP.ret ?_
  obtain rfl:=oi h
  exact post_r (vi 0) rfl (by kernel_rfl) ⟨rfl,sl H39 []⟩
 replace h:=bt h
 refine zT ?_
 refine zsg ?_
 refine zrd 1 1 [(4,vi 1)] ?_
 refine WP.ret ?_
 obtain rfl:=oi h
 exact then_r (post_r (vi 1) rfl (by kernel_rfl) ⟨rfl,sl H39 []⟩)
/- tarn/blob.Gas -/
def g_blob_Gas (fuel : Nat) (p1 : Int) : Option (Int × Int) :=
  jn (fun (c2 : Bool) => br c2 (some (0, 1)) (lt (wr .i64 (p1 * 131072)) fun x9 => some (x9, 0))) fun K4 => lt (decide (p1 < 1)) fun c5 => br c5 (K4 true) (lt (decide (p1 > 4)) fun c6 => K4 c6)
theorem g_blob_Gas_w (fuel : Nat) (p1 : Int) (r : Int × Int) (h : g_blob_Gas fuel p1 = some r) (w0 : World) :
 Ret Tryz.prog 102 #[vi p1] w0 (fun v w' => v = .tuple #[vi r.1, vi r.2] ∧ St no w0 w' []) := by
 unfold g_blob_Gas at h
 refine ret_of_wpS Tryz.func102 rfl 12 rfl [(0,vi p1)] (by kernel_rfl) (fun G=>?_)
 have H0:=St.start w0
 refine zsg ?_
 refine zrd 2 2 [(3,vi 0),(2,vi 0)] ?_
 refine zs ?_
 refine zs ?_
 obtain ⟨K4,hK4,h⟩:=js h
 refine WP.onlyN (fun a w=>∃ (c2 : Bool),Y 12 [(0,vi p1),(9,vb c2)] [] no w0 [] (K4 c2 = some r) a w) ?_ ?_
 ·refine zg ?_
  obtain ⟨c5,e,h⟩:=ls h
  refine ze 3 3 [(6,vb c5),(5,vb c5),(4,vi p1)] ?_
  cases c5
  rotate_left
  ·replace h:=bt h
   refine zr 3 6 [(9,vb true),(8,Z),(7,Z)] ?_
   refine zd ?_
   exact ⟨true,yy H0 [] h⟩
  replace h:=bf h
  obtain ⟨c6,e,h⟩:=ls h
  refine ze 3 6 [(9,vb c6),(8,vb c6),(7,vi p1)] ?_
  refine zd ?_
  exact ⟨c6,yy H0 [] h⟩
 rintro a w7 ⟨c2,G3,rfl,H8,h⟩
 subst hK4
 refine then_n ?_
 cases c2
 rotate_left
 ·replace h:=bt h
  refine zT ?_
  refine zsg ?_
  refine zrd 2 2 [(3,vi 1),(2,vi 0)] ?_
  refine WP.ret ?_
  obtain rfl:=oi h
  exact then_r (post_r (.tuple #[vi 0,vi 1]) rfl (by kernel_rfl) ⟨rfl,sl H8 []⟩)
 replace h:=bf h
 refine zFn ?_
 refine zsg ?_
 obtain ⟨x9,e,h⟩:=ls h
 refine zed 4 4 [(3,vi 0),(2,vi x9),(11,vi x9),(10,vi p1)] ?_
 refine WP.ret ?_
 obtain rfl:=oi h
 exact post_r (.tuple #[vi x9,vi 0]) rfl (by kernel_rfl) ⟨rfl,sl H8 []⟩
/- math/bits.Mul64 -/
def g_math_bits_Mul64 (fuel : Nat) (p1 : Int) (p2 : Int) : Option (Int × Int) :=
  lt (ibAnd .u64 p1 4294967295) fun x3 => lt (ishr .u64 p1 32) fun x4 => lt (ibAnd .u64 p2 4294967295) fun x5 => lt (ishr .u64 p2 32) fun x6 => lt (wr .u64 (x3 * x5)) fun x7 => lt (wr .u64 (x4 * x5)) fun x8 => lt (ishr .u64 x7 32) fun x9 => lt (wr .u64 (x8 + x9)) fun x10 => lt (ibAnd .u64 x10 4294967295) fun x11 => lt (ishr .u64 x10 32) fun x12 => lt (wr .u64 (x3 * x6)) fun x13 => lt (wr .u64 (x11 + x13)) fun x14 => lt (wr .u64 (x4 * x6)) fun x15 => lt (wr .u64 (x15 + x12)) fun x16 => lt (ishr .u64 x14 32) fun x17 => lt (wr .u64 (x16 + x17)) fun x18 => lt (wr .u64 (p1 * p2)) fun x19 => some (x18, x19)
theorem g_math_bits_Mul64_w (fuel : Nat) (p1 : Int) (p2 : Int) (r : Int × Int) (h : g_math_bits_Mul64 fuel p1 p2 = some r) (w0 : World) :
 Ret Tryz.prog 118 #[vu p1, vu p2] w0 (fun v w' => v = .tuple #[vu r.1, vu r.2] ∧ St no w0 w' []) := by
 unfold g_math_bits_Mul64 at h
 refine ret_of_wpS Tryz.func118 rfl 51 rfl [(0,vu p1),(1,vu p2)] (by kernel_rfl) (fun G=>?_)
 have H0:=St.start w0
 refine zsg ?_
 refine zrd 2 2 [(5,vu 0),(4,vu 0)] ?_
 refine zsg ?_
 obtain ⟨x3,e,h⟩:=ls h
 refine zed 3 3 [(6,vu x3),(15,vu x3),(14,vu p1)] ?_
 refine zsg ?_
 obtain ⟨x4,e,h⟩:=ls h
 refine zed 3 3 [(7,vu x4),(17,vu x4),(16,vu p1)] ?_
 refine zsg ?_
 obtain ⟨x5,e,h⟩:=ls h
 refine zed 3 3 [(8,vu x5),(19,vu x5),(18,vu p2)] ?_
 refine zsg ?_
 obtain ⟨x6,e,h⟩:=ls h
 refine zed 3 3 [(9,vu x6),(21,vu x6),(20,vu p2)] ?_
 refine zsg ?_
 obtain ⟨x7,e,h⟩:=ls h
 refine zed 4 4 [(10,vu x7),(24,vu x7),(23,vu x5),(22,vu x3)] ?_
 refine zsg ?_
 obtain ⟨x8,hx8,h⟩:=ls h
 obtain ⟨x9,hx9,h⟩:=ls h
 obtain ⟨x10,hx10,h⟩:=ls h
 refine zr 7 7 [(11,vu x10),(30,vu x10),(29,vu x9),(28,vu x7),(27,vu x8),(26,vu x5),(25,vu x4)] ?_ rfl (fun K=>by subst hx10 hx9 hx8; kernel_rfl)
 refine zdn ?_
 refine zsg ?_
 obtain ⟨x11,e,h⟩:=ls h
 refine zed 3 3 [(12,vu x11),(32,vu x11),(31,vu x10)] ?_
 refine zsg ?_
 obtain ⟨x12,e,h⟩:=ls h
 refine zed 3 3 [(13,vu x12),(34,vu x12),(33,vu x10)] ?_
 refine zsg ?_
 obtain ⟨x13,hx13,h⟩:=ls h
 obtain ⟨x14,hx14,h⟩:=ls h
 refine zr 6 6 [(12,vu x14),(39,vu x14),(38,vu x13),(37,vu x6),(36,vu x3),(35,vu x11)] ?_ rfl (fun K=>by subst hx14 hx13; kernel_rfl)
 refine zdn ?_
 refine zsg ?_
 obtain ⟨x15,hx15,h⟩:=ls h
 obtain ⟨x16,hx16,h⟩:=ls h
 obtain ⟨x17,hx17,h⟩:=ls h
 obtain ⟨x18,hx18,h⟩:=ls h
 refine zr 9 9 [(4,vu x18),(47,vu x18),(46,vu x17),(45,vu x14),(44,vu x16),(43,vu x12),(42,vu x15),(41,vu x6),(40,vu x4)] ?_ rfl (fun K=>by subst hx18 hx17 hx16 hx15; kernel_rfl)
 refine zdn ?_
 refine zsg ?_
 obtain ⟨x19,e,h⟩:=ls h
 refine zed 4 4 [(5,vu x19),(50,vu x19),(49,vu p2),(48,vu p1)] ?_
 refine WP.ret ?_
 obtain rfl:=oi h
 exact post_r (.tuple #[vu x18,vu x19]) rfl (by kernel_rfl) ⟨rfl,sl H0 []⟩
/- tarn/u256.Mul -/
def g_u256_Mul_l2 (p2 : TU256) (fuel : Nat) (x63 : Int) (x37 : Int) (K75 : Int → Int → Int → Int → Int → Int → Int → Int → Int → Option (TU256 × Int)) : Nat → Int → Int → Int → Int → Int → Int → Int → Int → Int → Int → Option (TU256 × Int)
  | 0, _, _, _, _, _, _, _, _, _, _ => none
  | n + 1, x76, x77, x78, x79, x80, x81, x82, x83, x84, x85 => lt (decide (x85 < 4)) fun c89 => br c89 (gd ((0 : Int) ≤ x85 ∧ x85 < 4) <| bd (([p2.e0, p2.e1, p2.e2, p2.e3] : List Int)[Int.toNat x85]?) fun x91 => bd (g_math_bits_Mul64 fuel x63 x91) fun t92 => lt (wr .i64 (x37 + x85)) fun x96 => gd ((0 : Int) ≤ x96 ∧ x96 < 8) <| bd (([x76, x77, x78, x79, x80, x81, x82, x83] : List Int)[Int.toNat x96]?) fun x98 => gd ((0 : Int) ≤ t92.2 ∧ (0 : Int) ≤ x98 ∧ (0 : Int) ≤ 0 ∧ 0 ≤ (1 : Int)) <| lt (add64 t92.2 x98 0) fun p100 => lt (wr .u64 (t92.1 + p100.2)) fun x101 => lt (wr .i64 (x37 + x85)) fun x102 => gd ((0 : Int) ≤ p100.1 ∧ (0 : Int) ≤ x84 ∧ (0 : Int) ≤ 0 ∧ 0 ≤ (1 : Int)) <| lt (add64 p100.1 x84 0) fun p104 => gd ((0 : Int) ≤ x102 ∧ x102 < 8) <| ls8 (List.set ([x76, x77, x78, x79, x80, x81, x82, x83] : List Int) (Int.toNat x102) p104.1) fun y106 y107 y108 y109 y110 y111 y112 y113 => lt (wr .u64 (x101 + p104.2)) fun x117 => lt (wr .i64 (x85 + 1)) fun x118 => g_u256_Mul_l2 p2 fuel x63 x37 K75 n y106 y107 y108 y109 y110 y111 y112 y113 x117 x118) (K75 x76 x77 x78 x79 x80 x81 x82 x83 x84)
def g_u256_Mul_l1 (p1 : TU256) (p2 : TU256) (fuel : Nat) (K28 : Int → Int → Int → Int → Int → Int → Int → Int → Option (TU256 × Int)) : Nat → Int → Int → Int → Int → Int → Int → Int → Int → Int → Option (TU256 × Int)
  | 0, _, _, _, _, _, _, _, _, _ => none
  | n + 1, x29, x30, x31, x32, x33, x34, x35, x36, x37 => lt (decide (x37 < 4)) fun c41 => br c41 (jn (fun (x42 : Int) (x43 : Int) (x44 : Int) (x45 : Int) (x46 : Int) (x47 : Int) (x48 : Int) (x49 : Int) => lt (wr .i64 (x37 + 1)) fun x138 => g_u256_Mul_l1 p1 p2 fuel K28 n x42 x43 x44 x45 x46 x47 x48 x49 x138) fun K51 => jn (fun (x52 : Int) (x53 : Int) (x54 : Int) (x55 : Int) (x56 : Int) (x57 : Int) (x58 : Int) (x59 : Int) => K51 x52 x53 x54 x55 x56 x57 x58 x59) fun K61 => gd ((0 : Int) ≤ x37 ∧ x37 < 4) <| bd (([p1.e0, p1.e1, p1.e2, p1.e3] : List Int)[Int.toNat x37]?) fun x63 => lt (x63 == 0) fun c64 => br c64 (K61 x29 x30 x31 x32 x33 x34 x35 x36) (jn (fun (x65 : Int) (x66 : Int) (x67 : Int) (x68 : Int) (x69 : Int) (x70 : Int) (x71 : Int) (x72 : Int) (x73 : Int) => lt (wr .i64 (x37 + 4)) fun x121 => gd ((0 : Int) ≤ x121 ∧ x121 < 8) <| ls8 (List.set ([x65, x66, x67, x68, x69, x70, x71, x72] : List Int) (Int.toNat x121) x73) fun y123 y124 y125 y126 y127 y128 y129 y130 => K61 y123 y124 y125 y126 y127 y128 y129 y130) fun K75 => g_u256_Mul_l2 p2 fuel x63 x37 K75 fuel x29 x30 x31 x32 x33 x34 x35 x36 0 0)) (K28 x29 x30 x31 x32 x33 x34 x35 x36)
def g_u256_Mul (fuel : Nat) (p1 : TU256) (p2 : TU256) : Option (TU256 × Int) :=
  jn (fun (x19 : Int) (x20 : Int) (x21 : Int) (x22 : Int) (x23 : Int) (x24 : Int) (x25 : Int) (x26 : Int) => lt (ibOr .u64 x23 x24) fun x141 => lt (ibOr .u64 x141 x25) fun x142 => lt (ibOr .u64 x142 x26) fun x143 => lt (x143 != 0) fun c144 => br c144 (some (TU256.mk 0 0 0 0, 8)) (some (TU256.mk x19 x20 x21 x22, 0))) fun K28 => g_u256_Mul_l1 p1 p2 fuel K28 fuel 0 0 0 0 0 0 0 0 0
theorem g_u256_Mul_w (fuel : Nat) (p1 : TU256) (p2 : TU256) (r : TU256 × Int) (h : g_u256_Mul fuel p1 p2 = some r) (w0 : World) :
 Ret Tryz.prog 103 #[TU256.val p1, TU256.val p2] w0 (fun v w' => v = .tuple #[TU256.val r.1, vi r.2] ∧ St no w0 w' []) := by
 unfold g_u256_Mul at h
 refine ret_of_wpS Tryz.func103 rfl 88 rfl [(0,TU256.val p1),(1,TU256.val p2)] (by kernel_rfl) (fun G=>?_)
 have H0:=St.start w0
 refine zsg ?_
 refine zo (obx H0 (TU256.cs p1).toArray 24 (fun b3 w5 H6=>?_))
 refine zn ?_
 refine zo (obx H6 (TU256.cs p2).toArray 24 (fun b7 w9 H10=>?_))
 clear H6
 refine zn ?_
 refine zo (oal H10 #[vu 0,vu 0,vu 0,vu 0] 24 (fun b11 w13 H14=>?_))
 clear H10
 refine zn ?_
 refine zrd 1 4 [(5,vi 0)] ?_
 refine WP.scope ?_
 refine zsg ?_
 refine zo (oal H14 #[vu 0,vu 0,vu 0,vu 0,vu 0,vu 0,vu 0,vu 0] 157 (fun b15 w17 H18=>?_))
 clear H14
 refine zn ?_
 refine zdn ?_
 refine zs ?_
 refine WP.label ?_
 refine then_n ?_
 refine zs ?_
 refine zsg ?_
 refine zv (TU256.val p1) (llb H18 3 0) ?_
 refine zrd 1 2 [(17,vi 0)] ?_
 obtain ⟨K28,hK28,h⟩:=js h
 refine WP.blockJ (fun a w=>∃ (x19 : Int) (x20 : Int) (x21 : Int) (x22 : Int) (x23 : Int) (x24 : Int) (x25 : Int) (x26 : Int),Y 88 [(4,vp b11 0),(6,vp b15 0)] [] no w0 [Box b15 #[vu x19,vu x20,vu x21,vu x22,vu x23,vu x24,vu x25,vu x26] 157,Box b11 #[vu 0,vu 0,vu 0,vu 0] 24,Box b7 (TU256.cs p2).toArray 24,Box b3 (TU256.cs p1).toArray 24] (K28 x19 x20 x21 x22 x23 x24 x25 x26 = some r) a w) ?_ ?_
 ·refine WP.loop (fun n a w=>∃ (x29 : Int) (x30 : Int) (x31 : Int) (x32 : Int) (x33 : Int) (x34 : Int) (x35 : Int) (x36 : Int) (x37 : Int),Y 88 [(3,vp b7 0),(4,vp b11 0),(6,vp b15 0),(16,TU256.val p1),(17,vi x37)] [] no w0 [Box b15 #[vu x29,vu x30,vu x31,vu x32,vu x33,vu x34,vu x35,vu x36] 157,Box b11 #[vu 0,vu 0,vu 0,vu 0] 24,Box b7 (TU256.cs p2).toArray 24,Box b3 (TU256.cs p1).toArray 24] (g_u256_Mul_l1 p1 p2 fuel K28 n x29 x30 x31 x32 x33 x34 x35 x36 x37 = some r) a w) fuel ⟨0,0,0,0,0,0,0,0,0,yy H18 [0,1,2,3] h⟩ ?_
  intro n a w hq
  refine Exists.elim hq fun x29 hq=>Exists.elim hq fun x30 hq=>Exists.elim hq fun x31 hq=>Exists.elim hq fun x32 hq=>Exists.elim hq fun x33 hq=>Exists.elim hq fun x34 hq=>Exists.elim hq fun x35 hq=>Exists.elim hq fun x36 hq=>Exists.elim hq fun x37 hq=>Exists.elim hq fun G38 hq=>?_
  obtain ⟨rfl,H,h⟩:=hq
  obtain _ | n:=n
  ·rw [g_u256_Mul_l1] at h; cases h
  rw [g_u256_Mul_l1] at h
  obtain ⟨w39,rfl⟩ : ∃ x,x = w:=⟨_,rfl⟩
  have H40:=H; clear H
  refine zsg ?_
  obtain ⟨c41,e,h⟩:=ls h
  refine zed 1 1 [(18,vb c41)] ?_
  refine zs ?_
  cases c41
  ·replace h:=bf h
   refine zF ?_
   refine WP.exit ?_
   exact then_e (then_e (inb_e (then_n ⟨x29,x30,x31,x32,x33,x34,x35,x36,yy H40 [0,1,2,3] h⟩)))
  replace h:=bt h
  refine zTn ?_
  obtain ⟨K51,hK51,h⟩:=js h
  refine WP.seqJ (fun a w=>∃ (x42 : Int) (x43 : Int) (x44 : Int) (x45 : Int) (x46 : Int) (x47 : Int) (x48 : Int) (x49 : Int),Y 88 [(3,vp b7 0),(4,vp b11 0),(6,vp b15 0),(16,TU256.val p1),(17,vi x37)] [] no w0 [Box b15 #[vu x42,vu x43,vu x44,vu x45,vu x46,vu x47,vu x48,vu x49] 157,Box b11 #[vu 0,vu 0,vu 0,vu 0] 24,Box b7 (TU256.cs p2).toArray 24,Box b3 (TU256.cs p1).toArray 24] (K51 x42 x43 x44 x45 x46 x47 x48 x49 = some r) a w) ?_ ?_
  ·obtain ⟨K61,hK61,h⟩:=js h
   refine WP.blockJ (fun a w=>∃ (x52 : Int) (x53 : Int) (x54 : Int) (x55 : Int) (x56 : Int) (x57 : Int) (x58 : Int) (x59 : Int),Y 88 [(3,vp b7 0),(4,vp b11 0),(6,vp b15 0),(16,TU256.val p1),(17,vi x37)] [] no w0 [Box b15 #[vu x52,vu x53,vu x54,vu x55,vu x56,vu x57,vu x58,vu x59] 157,Box b11 #[vu 0,vu 0,vu 0,vu 0] 24,Box b7 (TU256.cs p2).toArray 24,Box b3 (TU256.cs p1).toArray 24] (K61 x52 x53 x54 x55 x56 x57 x58 x59 = some r) a w) ?_ ?_
   ·refine zsg ?_
    obtain ⟨hg62,h⟩:=gs h
    obtain ⟨x63,hx63,h⟩:=bs h
    refine zr 1 1 [(19,vi x37)] ?_
    refine WPI.valueS (vu x63) 20 rfl rfl (by kernel_rfl) (ev_aidx 24 22 4 .i64 x37 [vu p1.e0,vu p1.e1,vu p1.e2,vu p1.e3] (vu x63) (.tmp 16) (.tmp 17) rfl (by kernel_rfl) (by kernel_rfl) (by kernel_rfl) (by kernel_rfl) hg62 (map_get (fun z=>vu z) hx63)) ?_
    refine zrd 2 4 [(8,vu x63),(7,vi x37)] ?_
    refine zs ?_
    refine zsg ?_
    obtain ⟨c64,e,h⟩:=ls h
    refine zed 2 2 [(22,vb c64),(21,vu x63)] ?_
    cases c64
    rotate_left
    ·replace h:=bt h
     refine zT ?_
     refine WP.exit ?_
     exact then_e (inb_e (then_n ⟨x29,x30,x31,x32,x33,x34,x35,x36,yy H40 [0,1,2,3] h⟩))
    replace h:=bf h
    refine zFn ?_
    refine zsg ?_
    refine zrd 1 1 [(9,vu 0)] ?_
    refine zs ?_
    refine zsg ?_
    refine zv (TU256.val p2) (llb H40 2 0) ?_
    refine zrd 1 2 [(24,vi 0)] ?_
    obtain ⟨K75,hK75,h⟩:=js h
    refine WP.blockJ (fun a w=>∃ (x65 : Int) (x66 : Int) (x67 : Int) (x68 : Int) (x69 : Int) (x70 : Int) (x71 : Int) (x72 : Int) (x73 : Int),Y 88 [(3,vp b7 0),(4,vp b11 0),(6,vp b15 0),(7,vi x37),(9,vu x73),(16,TU256.val p1),(17,vi x37)] [] no w0 [Box b15 #[vu x65,vu x66,vu x67,vu x68,vu x69,vu x70,vu x71,vu x72] 157,Box b11 #[vu 0,vu 0,vu 0,vu 0] 24,Box b7 (TU256.cs p2).toArray 24,Box b3 (TU256.cs p1).toArray 24] (K75 x65 x66 x67 x68 x69 x70 x71 x72 x73 = some r) a w) ?_ ?_
    ·refine WP.loop (fun n a w=>∃ (x76 : Int) (x77 : Int) (x78 : Int) (x79 : Int) (x80 : Int) (x81 : Int) (x82 : Int) (x83 : Int) (x84 : Int) (x85 : Int),Y 88 [(3,vp b7 0),(4,vp b11 0),(6,vp b15 0),(7,vi x37),(8,vu x63),(9,vu x84),(16,TU256.val p1),(17,vi x37),(23,TU256.val p2),(24,vi x85)] [] no w0 [Box b15 #[vu x76,vu x77,vu x78,vu x79,vu x80,vu x81,vu x82,vu x83] 157,Box b11 #[vu 0,vu 0,vu 0,vu 0] 24,Box b7 (TU256.cs p2).toArray 24,Box b3 (TU256.cs p1).toArray 24] (g_u256_Mul_l2 p2 fuel x63 x37 K75 n x76 x77 x78 x79 x80 x81 x82 x83 x84 x85 = some r) a w) fuel ⟨x29,x30,x31,x32,x33,x34,x35,x36,0,0,yy H40 [0,1,2,3] h⟩ ?_
     intro n a w hq
     refine Exists.elim hq fun x76 hq=>Exists.elim hq fun x77 hq=>Exists.elim hq fun x78 hq=>Exists.elim hq fun x79 hq=>Exists.elim hq fun x80 hq=>Exists.elim hq fun x81 hq=>Exists.elim hq fun x82 hq=>Exists.elim hq fun x83 hq=>Exists.elim hq fun x84 hq=>Exists.elim hq fun x85 hq=>Exists.elim hq fun G86 hq=>?_
     obtain ⟨rfl,H,h⟩:=hq
     obtain _ | n:=n
     ·rw [g_u256_Mul_l2] at h; cases h
     rw [g_u256_Mul_l2] at h
     obtain ⟨w87,rfl⟩ : ∃ x,x = w:=⟨_,rfl⟩
     have H88:=H; clear H
     refine zsg ?_
     obtain ⟨c89,e,h⟩:=ls h
     refine zed 1 1 [(25,vb c89)] ?_
     refine zs ?_
     cases c89
     ·replace h:=bf h
      refine zF ?_
      refine WP.exit ?_
      exact then_e (then_e (inb_e (then_n ⟨x76,x77,x78,x79,x80,x81,x82,x83,x84,yy H88 [0,1,2,3] h⟩)))
     replace h:=bt h
     refine zTn ?_
     refine zs ?_
     refine WP.block ?_
     refine zsg ?_
     obtain ⟨hg90,h⟩:=gs h
     obtain ⟨x91,hx91,h⟩:=bs h
     refine zr 1 1 [(26,vi x85)] ?_
     refine WPI.valueS (vu x91) 27 rfl rfl (by kernel_rfl) (ev_aidx 24 22 4 .i64 x85 [vu p2.e0,vu p2.e1,vu p2.e2,vu p2.e3] (vu x91) (.tmp 23) (.tmp 24) rfl (by kernel_rfl) (by kernel_rfl) (by kernel_rfl) (by kernel_rfl) hg90 (map_get (fun z=>vu z) hx91)) ?_
     refine zrd 2 4 [(11,vu x91),(10,vi x85)] ?_
     refine zsg ?_
     obtain ⟨t92,ht92,h⟩:=bs h
     refine zr 2 2 [(30,vu x91),(29,vu x63)] ?_
     refine zo (oca (g_math_bits_Mul64_w fuel x63 x91 t92 ht92 _) ?_)
     rintro _ w93 ⟨rfl,Hc94⟩
     have H95:=St.call0' H88 Hc94
     clear H88 Hc94
     refine zn ?_
     refine zrd 5 8 [(13,vu t92.2),(12,vu t92.1),(33,vu t92.2),(32,vu t92.1),(28,.tuple #[vu t92.1,vu t92.2])] ?_
     refine zsg ?_
     obtain ⟨x96,e,h⟩:=ls h
     obtain ⟨hg97,h⟩:=gs h
     refine ze 4 4 [(38,vi x96),(37,vi x85),(36,vi x37),(35,vu t92.2)] ?_
     refine zv (va (((⟨b15,0,none⟩ : Addr).add 0).add (Int.toNat x96 * 1))) (lla ((⟨b15,0,none⟩ : Addr).add 0) 8 22 1 .i64 x96 hg97) ?_
     obtain ⟨x98,hx98,h⟩:=bs h
     refine zv (vu x98) (lld 0 (CellsAt.elem fU64 (St.boxAt H95 0 rfl) 0 [x76,x77,x78,x79,x80,x81,x82,x83] [] (by kernel_rfl) _ _ hx98) (le_self _)) ?_
     obtain ⟨hg99,h⟩:=gs h
     obtain ⟨p100,hp100,h⟩:=ls h
     refine WPI.valueS (.tuple #[vu p100.1,vu p100.2]) 41 rfl rfl (by kernel_rfl) (Eq.trans (ev_add64 111 _ Tryz.func111 (by kernel_rfl) (by kernel_rfl) (by kernel_rfl) (by kernel_rfl) t92.2 x98 0 (.tmp 35) (.tmp 40) _ #[22,22,22] rfl (by kernel_rfl) (by kernel_rfl) (by kernel_rfl) hg99) (by rw [← hp100])) ?_
     refine zrd 5 12 [(15,vu p100.2),(14,vu p100.1),(43,vu p100.2),(42,vu p100.1),(34,.tuple #[vu p100.1,vu p100.2])] ?_
     refine zsg ?_
     obtain ⟨x101,e,h⟩:=ls h
     refine zed 4 4 [(12,vu x101),(46,vu x101),(45,vu p100.2),(44,vu t92.1)] ?_
     refine zsg ?_
     obtain ⟨x102,hx102,h⟩:=ls h
     obtain ⟨hg103,h⟩:=gs h
     obtain ⟨p104,hp104,h⟩:=ls h
     refine zr 5 5 [(52,vu x84),(51,vu p100.1),(50,vi x102),(49,vi x85),(48,vi x37)] ?_ rfl (fun K=>by subst hx102; kernel_rfl)
     refine WPI.valueS (.tuple #[vu p104.1,vu p104.2]) 53 rfl rfl (by kernel_rfl) (Eq.trans (ev_add64 111 _ Tryz.func111 (by kernel_rfl) (by kernel_rfl) (by kernel_rfl) (by kernel_rfl) p100.1 x84 0 (.tmp 51) (.tmp 52) _ #[22,22,22] rfl (by kernel_rfl) (by kernel_rfl) (by kernel_rfl) hg103) (by rw [← hp104])) ?_
     obtain ⟨hg105,h⟩:=gs h
     refine zr 3 9 [(55,vu p104.2),(54,vu p104.1),(47,.tuple #[vu p104.1,vu p104.2])] ?_
     refine zv (va (((⟨b15,0,none⟩ : Addr).add 0).add (Int.toNat x102 * 1))) (lla ((⟨b15,0,none⟩ : Addr).add 0) 8 22 1 .i64 x102 hg105) ?_
     obtain ⟨y106,y107,y108,y109,y110,y111,y112,y113,hy114,h⟩:=ls8_some h
     refine WPI.op rfl (Op1.storeBoxI fU64 H95 0 rfl (by kernel_rfl) 22 (.tmp 56) (.tmp 54) 0 ([x76,x77,x78,x79,x80,x81,x82,x83] : List Int) [] [] (Int.toNat x102) p104.1 false rfl (by kernel_rfl) (by kernel_rfl) (by kernel_rfl) (by kernel_rfl) (by kernel_rfl) (idx_lt (n:=8) hg105) [y106,y107,y108,y109,y110,y111,y112,y113] hy114 #[vu y106,vu y107,vu y108,vu y109,vu y110,vu y111,vu y112,vu y113] (by kernel_rfl) (fun w115 H116=>?_))
     clear H95
     refine z0 ?_
     refine zrd 1 12 [(15,vu p104.2)] ?_
     refine zg ?_
     obtain ⟨x117,e,h⟩:=ls h
     refine ze 4 4 [(9,vu x117),(59,vu x117),(58,vu p104.2),(57,vu x101)] ?_
     refine zd ?_
     refine inb_n (then_n ?_)
     refine zg ?_
     obtain ⟨x118,e,h⟩:=ls h
     refine ze 2 2 [(24,vi x118),(60,vi x118)] ?_
     refine zd ?_
     exact then_n ⟨n,lS n,y106,y107,y108,y109,y110,y111,y112,y113,x117,x118,yy H116 [0,1,2,3] h⟩
    intro a w hq
    refine Exists.elim hq fun x65 hq=>Exists.elim hq fun x66 hq=>Exists.elim hq fun x67 hq=>Exists.elim hq fun x68 hq=>Exists.elim hq fun x69 hq=>Exists.elim hq fun x70 hq=>Exists.elim hq fun x71 hq=>Exists.elim hq fun x72 hq=>Exists.elim hq fun x73 hq=>Exists.elim hq fun G74 hq=>?_
    obtain ⟨rfl,H,h⟩:=hq
    subst hK75
    obtain ⟨w119,rfl⟩ : ∃ x,x = w:=⟨_,rfl⟩
    have H120:=H; clear H
    refine then_n ?_
    refine zg ?_
    obtain ⟨x121,e,h⟩:=ls h
    obtain ⟨hg122,h⟩:=gs h
    refine ze 3 3 [(63,vu x73),(62,vi x121),(61,vi x37)] ?_
    refine zv (va (((⟨b15,0,none⟩ : Addr).add 0).add (Int.toNat x121 * 1))) (lla ((⟨b15,0,none⟩ : Addr).add 0) 8 22 1 .i64 x121 hg122) ?_
    obtain ⟨y123,y124,y125,y126,y127,y128,y129,y130,hy131,h⟩:=ls8_some h
    refine WPI.op rfl (Op1.storeBoxI fU64 H120 0 rfl (by kernel_rfl) 22 (.tmp 64) (.tmp 63) 0 ([x65,x66,x67,x68,x69,x70,x71,x72] : List Int) [] [] (Int.toNat x121) x73 false rfl (by kernel_rfl) (by kernel_rfl) (by kernel_rfl) (by kernel_rfl) (by kernel_rfl) (idx_lt (n:=8) hg122) [y123,y124,y125,y126,y127,y128,y129,y130] hy131 #[vu y123,vu y124,vu y125,vu y126,vu y127,vu y128,vu y129,vu y130] (by kernel_rfl) (fun w132 H133=>?_))
    clear H120
    refine z0 ?_
    refine zd ?_
    exact inb_n (then_n ⟨y123,y124,y125,y126,y127,y128,y129,y130,yy H133 [0,1,2,3] h⟩)
   intro a w hq
   refine Exists.elim hq fun x52 hq=>Exists.elim hq fun x53 hq=>Exists.elim hq fun x54 hq=>Exists.elim hq fun x55 hq=>Exists.elim hq fun x56 hq=>Exists.elim hq fun x57 hq=>Exists.elim hq fun x58 hq=>Exists.elim hq fun x59 hq=>Exists.elim hq fun G60 hq=>?_
   obtain ⟨rfl,H,h⟩:=hq
   subst hK61
   obtain ⟨w134,rfl⟩ : ∃ x,x = w:=⟨_,rfl⟩
   have H135:=H; clear H
   exact then_n ⟨x52,x53,x54,x55,x56,x57,x58,x59,yy H135 [0,1,2,3] h⟩
  intro a w hq
  refine Exists.elim hq fun x42 hq=>Exists.elim hq fun x43 hq=>Exists.elim hq fun x44 hq=>Exists.elim hq fun x45 hq=>Exists.elim hq fun x46 hq=>Exists.elim hq fun x47 hq=>Exists.elim hq fun x48 hq=>Exists.elim hq fun x49 hq=>Exists.elim hq fun G50 hq=>?_
  obtain ⟨rfl,H,h⟩:=hq
  subst hK51
  obtain ⟨w136,rfl⟩ : ∃ x,x = w:=⟨_,rfl⟩
  have H137:=H; clear H
  refine zg ?_
  obtain ⟨x138,e,h⟩:=ls h
  refine ze 2 2 [(17,vi x138),(65,vi x138)] ?_
  refine zd ?_
  exact then_n ⟨n,lS n,x42,x43,x44,x45,x46,x47,x48,x49,x138,yy H137 [0,1,2,3] h⟩
 intro a w hq
 refine Exists.elim hq fun x19 hq=>Exists.elim hq fun x20 hq=>Exists.elim hq fun x21 hq=>Exists.elim hq fun x22 hq=>Exists.elim hq fun x23 hq=>Exists.elim hq fun x24 hq=>Exists.elim hq fun x25 hq=>Exists.elim hq fun x26 hq=>Exists.elim hq fun G27 hq=>?_
 obtain ⟨rfl,H,h⟩:=hq
 subst hK28
 obtain ⟨w139,rfl⟩ : ∃ x,x = w:=⟨_,rfl⟩
 have H140:=H; clear H
 refine then_n ?_
 refine zs ?_
 refine zsg ?_
 refine zr 1 1 [(66,vp b15 4)] ?_
 refine zv (vu x23) (llb H140 0 4) ?_
 refine zr 1 3 [(68,vp b15 5)] ?_
 refine zv (vu x24) (llb H140 0 5) ?_
 obtain ⟨x141,e,h⟩:=ls h
 refine ze 2 6 [(71,vp b15 6),(70,vu x141)] ?_
 refine zv (vu x25) (llb H140 0 6) ?_
 obtain ⟨x142,e,h⟩:=ls h
 refine ze 2 9 [(74,vp b15 7),(73,vu x142)] ?_
 refine zv (vu x26) (llb H140 0 7) ?_
 obtain ⟨x143,hx143,h⟩:=ls h
 obtain ⟨c144,hc144,h⟩:=ls h
 refine zr 2 12 [(77,vb c144),(76,vu x143)] ?_ rfl (fun K=>by subst hc144 hx143; kernel_rfl)
 refine zdn ?_
 cases c144
 rotate_left
 ·replace h:=bt h
  refine zT ?_
  refine zsg ?_
  refine zr 1 1 [(78,.agg #[vu 0,vu 0,vu 0,vu 0])] ?_
  refine zo (osb H140 1 0 (.agg #[vu 0,vu 0,vu 0,vu 0]) #[vu 0,vu 0,vu 0,vu 0] true (flat_one1 fTU256 (TU256.mk 0 0 0 0)) (fun w147 H148=>?_))
  clear H140
  refine z0 ?_
  refine zrd 1 3 [(5,vi 8)] ?_
  refine WP.ret ?_
  obtain rfl:=oi h
  exact then_r (sc_r (post_r (.tuple #[.agg #[vu 0,vu 0,vu 0,vu 0],vi 8]) rfl (results_cell_tmp rfl (by kernel_rfl) (by kernel_rfl) (run_loadAt (ad:=(⟨b11,0,none⟩ : Addr)) (off:=0) (St.boxAt H148 0 rfl) (le_self _) (by kernel_rfl))) ⟨rfl,sl H148 []⟩))
 replace h:=bf h
 refine zFn ?_
 refine zsg ?_
 refine zr 1 1 [(79,vp b15 0)] ?_
 refine zv (vu x19) (llb H140 0 0) ?_
 refine zr 1 3 [(81,vp b15 1)] ?_
 refine zv (vu x20) (llb H140 0 1) ?_
 refine zr 1 5 [(83,vp b15 2)] ?_
 refine zv (vu x21) (llb H140 0 2) ?_
 refine zr 1 7 [(85,vp b15 3)] ?_
 refine zv (vu x22) (llb H140 0 3) ?_
 refine zr 1 9 [(87,.agg #[vu x19,vu x20,vu x21,vu x22])] ?_
 refine zo (osb H140 1 0 (.agg #[vu x19,vu x20,vu x21,vu x22]) #[vu x19,vu x20,vu x21,vu x22] true (flat_one1 fTU256 (TU256.mk x19 x20 x21 x22)) (fun w145 H146=>?_))
 clear H140
 refine z0 ?_
 refine zrd 1 11 [(5,vi 0)] ?_
 refine WP.ret ?_
 obtain rfl:=oi h
 exact sc_r (post_r (.tuple #[.agg #[vu x19,vu x20,vu x21,vu x22],vi 0]) rfl (results_cell_tmp rfl (by kernel_rfl) (by kernel_rfl) (run_loadAt (ad:=(⟨b11,0,none⟩ : Addr)) (off:=0) (St.boxAt H146 0 rfl) (le_self _) (by kernel_rfl))) ⟨rfl,sl H146 []⟩)
/- tarn/u256.Add -/
def g_u256_Add_l1 (p1 : TU256) (p2 : TU256) (K25 : Int → Int → Int → Int → Int → Option (TU256 × Int)) (fuel : Nat) : Nat → Int → Int → Int → Int → Int → Int → Option (TU256 × Int)
  | 0, _, _, _, _, _, _ => none
  | n + 1, x26, x27, x28, x29, x30, x31 => lt (decide (x31 < 4)) fun c35 => br c35 (jn (fun (x36 : Int) (x37 : Int) (x38 : Int) (x39 : Int) (x40 : Int) => lt (wr .i64 (x31 + 1)) fun x60 => g_u256_Add_l1 p1 p2 K25 fuel n x36 x37 x38 x39 x40 x60) fun K42 => gd ((0 : Int) ≤ x31 ∧ x31 < 4) <| bd (([p1.e0, p1.e1, p1.e2, p1.e3] : List Int)[Int.toNat x31]?) fun x45 => gd ((0 : Int) ≤ x31 ∧ x31 < 4) <| bd (([p2.e0, p2.e1, p2.e2, p2.e3] : List Int)[Int.toNat x31]?) fun x47 => gd ((0 : Int) ≤ x45 ∧ (0 : Int) ≤ x47 ∧ (0 : Int) ≤ x30 ∧ x30 ≤ (1 : Int)) <| lt (add64 x45 x47 x30) fun p49 => gd ((0 : Int) ≤ x31 ∧ x31 < 4) <| ls4 (List.set ([x26, x27, x28, x29] : List Int) (Int.toNat x31) p49.1) fun y51 y52 y53 y54 => K42 y51 y52 y53 y54 p49.2) (K25 x26 x27 x28 x29 x30)
def g_u256_Add (fuel : Nat) (p1 : TU256) (p2 : TU256) : Option (TU256 × Int) :=
  jn (fun (x19 : Int) (x20 : Int) (x21 : Int) (x22 : Int) (x23 : Int) => lt (decide (x23 > 0)) fun c63 => br c63 (some (TU256.mk 0 0 0 0, 8)) (some (TU256.mk x19 x20 x21 x22, 0))) fun K25 => g_u256_Add_l1 p1 p2 K25 fuel fuel 0 0 0 0 0 0
theorem g_u256_Add_w (fuel : Nat) (p1 : TU256) (p2 : TU256) (r : TU256 × Int) (h : g_u256_Add fuel p1 p2 = some r) (w0 : World) :
 Ret Tryz.prog 89 #[TU256.val p1, TU256.val p2] w0 (fun v w' => v = .tuple #[TU256.val r.1, vi r.2] ∧ St no w0 w' []) := by
 unfold g_u256_Add at h
 refine ret_of_wpS Tryz.func89 rfl 30 rfl [(0,TU256.val p1),(1,TU256.val p2)] (by kernel_rfl) (fun G=>?_)
 have H0:=St.start w0
 refine zsg ?_
 refine zo (obx H0 (TU256.cs p1).toArray 24 (fun b3 w5 H6=>?_))
 refine zn ?_
 refine zo (obx H6 (TU256.cs p2).toArray 24 (fun b7 w9 H10=>?_))
 clear H6
 refine zn ?_
 refine zo (oal H10 #[vu 0,vu 0,vu 0,vu 0] 24 (fun b11 w13 H14=>?_))
 clear H10
 refine zn ?_
 refine zrd 1 4 [(5,vi 0)] ?_
 refine zsg ?_
 refine zo (oal H14 #[vu 0,vu 0,vu 0,vu 0] 24 (fun b15 w17 H18=>?_))
 clear H14
 refine zn ?_
 refine zdn ?_
 refine zsg ?_
 refine zrd 1 1 [(7,vu 0)] ?_
 refine zs ?_
 refine zsg ?_
 refine zrd 1 1 [(9,vi 0)] ?_
 obtain ⟨K25,hK25,h⟩:=js h
 refine WP.blockJ (fun a w=>∃ (x19 : Int) (x20 : Int) (x21 : Int) (x22 : Int) (x23 : Int),Y 30 [(4,vp b11 0),(6,vp b15 0),(7,vu x23)] [] no w0 [Box b15 #[vu x19,vu x20,vu x21,vu x22] 24,Box b11 #[vu 0,vu 0,vu 0,vu 0] 24,Box b7 (TU256.cs p2).toArray 24,Box b3 (TU256.cs p1).toArray 24] (K25 x19 x20 x21 x22 x23 = some r) a w) ?_ ?_
 ·refine WP.loop (fun n a w=>∃ (x26 : Int) (x27 : Int) (x28 : Int) (x29 : Int) (x30 : Int) (x31 : Int),Y 30 [(2,vp b3 0),(3,vp b7 0),(4,vp b11 0),(6,vp b15 0),(7,vu x30),(9,vi x31)] [] no w0 [Box b15 #[vu x26,vu x27,vu x28,vu x29] 24,Box b11 #[vu 0,vu 0,vu 0,vu 0] 24,Box b7 (TU256.cs p2).toArray 24,Box b3 (TU256.cs p1).toArray 24] (g_u256_Add_l1 p1 p2 K25 fuel n x26 x27 x28 x29 x30 x31 = some r) a w) fuel ⟨0,0,0,0,0,0,yy H18 [0,1,2,3] h⟩ ?_
  intro n a w hq
  refine Exists.elim hq fun x26 hq=>Exists.elim hq fun x27 hq=>Exists.elim hq fun x28 hq=>Exists.elim hq fun x29 hq=>Exists.elim hq fun x30 hq=>Exists.elim hq fun x31 hq=>Exists.elim hq fun G32 hq=>?_
  obtain ⟨rfl,H,h⟩:=hq
  obtain _ | n:=n
  ·rw [g_u256_Add_l1] at h; cases h
  rw [g_u256_Add_l1] at h
  obtain ⟨w33,rfl⟩ : ∃ x,x = w:=⟨_,rfl⟩
  have H34:=H; clear H
  refine zsg ?_
  obtain ⟨c35,e,h⟩:=ls h
  refine zed 1 1 [(10,vb c35)] ?_
  refine zs ?_
  cases c35
  ·replace h:=bf h
   refine zF ?_
   refine WP.exit ?_
   exact then_e (then_e (inb_e (then_n ⟨x26,x27,x28,x29,x30,yy H34 [0,1,2,3] h⟩)))
  replace h:=bt h
  refine zTn ?_
  refine zs ?_
  refine WP.block ?_
  refine zsg ?_
  refine zrd 2 2 [(8,vi x31),(11,vi x31)] ?_
  obtain ⟨K42,hK42,h⟩:=js h
  refine WP.drawI (by kernel_rfl) (by kernel_rfl) (fun w=>St no w0 w [Box b11 #[vu 0,vu 0,vu 0,vu 0] 24,Box b7 (TU256.cs p2).toArray 24,Box b3 (TU256.cs p1).toArray 24]) [13] (fun w=>St no w0 w [Box b15 #[vu x26,vu x27,vu x28,vu x29] 24,Box b11 #[vu 0,vu 0,vu 0,vu 0] 24,Box b7 (TU256.cs p2).toArray 24,Box b3 (TU256.cs p1).toArray 24]) (fun a w=>∃ (x36 : Int) (x37 : Int) (x38 : Int) (x39 : Int) (x40 : Int),Y 30 [(2,vp b3 0),(3,vp b7 0),(4,vp b11 0),(6,vp b15 0),(7,vu x40),(9,vi x31)] [] no w0 [Box b15 #[vu x36,vu x37,vu x38,vu x39] 24,Box b11 #[vu 0,vu 0,vu 0,vu 0] 24,Box b7 (TU256.cs p2).toArray 24,Box b3 (TU256.cs p1).toArray 24] (K42 x36 x37 x38 x39 x40 = some r) a w) 15 #[F,F,F,F,F,F,F,F,F,F,F,F,F,F,F] (by kernel_rfl) (by kernel_rfl) ?_ ?_
  ·have H43:=St.drew H34
   obtain ⟨hg44,h⟩:=gs h
   refine WI.runS [0,1] 13 _ #[T,T,F,F,F,F,F,F,F,F,F,F,F,F,F] [(14,vi x31),(13,vi x31)] rfl (fun K=>by kernel_rfl) ?_
   refine WI.takeS 2 (va (((⟨b3,0,none⟩ : Addr).add 0).add (Int.toNat x31 * 1))) 15 rfl rfl (by kernel_rfl) (by kernel_rfl) (fun w H=>ev_indexArr (ad:=(⟨b3,0,none⟩ : Addr).add 0) 24 (.tmp 2) (.tmp 14) 4 22 1 .i64 x31 rfl (by kernel_rfl) (by kernel_rfl) (by kernel_rfl) hg44) (li':=#[T,T,T,F,F,F,F,F,F,F,F,F,F,F,F]) (by kernel_rfl) ?_
   obtain ⟨x45,hx45,h⟩:=bs h
   refine WI.takeS 3 (vu x45) 16 rfl rfl (by kernel_rfl) (by kernel_rfl) (fun w H=>ev_load 22 (.tmp 15) 0 (vu x45) (CellsAt.elem fU64 (St.boxAt H 2 rfl) 0 [p1.e0,p1.e1,p1.e2,p1.e3] [] (by kernel_rfl) _ _ hx45) (le_self _) rfl (by kernel_rfl) (by kernel_rfl)) (li':=#[T,T,T,T,F,F,F,F,F,F,F,F,F,F,F]) (by kernel_rfl) ?_
   obtain ⟨hg46,h⟩:=gs h
   refine WI.runS [4] 10 _ #[T,T,T,T,T,F,F,F,F,F,F,F,F,F,F] [(17,vi x31)] rfl (fun K=>by kernel_rfl) ?_
   refine WI.takeS 5 (va (((⟨b7,0,none⟩ : Addr).add 0).add (Int.toNat x31 * 1))) 18 rfl rfl (by kernel_rfl) (by kernel_rfl) (fun w H=>ev_indexArr (ad:=(⟨b7,0,none⟩ : Addr).add 0) 24 (.tmp 3) (.tmp 17) 4 22 1 .i64 x31 rfl (by kernel_rfl) (by kernel_rfl) (by kernel_rfl) hg46) (li':=#[T,T,T,T,T,T,F,F,F,F,F,F,F,F,F]) (by kernel_rfl) ?_
   obtain ⟨x47,hx47,h⟩:=bs h
   refine WI.takeS 6 (vu x47) 19 rfl rfl (by kernel_rfl) (by kernel_rfl) (fun w H=>ev_load 22 (.tmp 18) 0 (vu x47) (CellsAt.elem fU64 (St.boxAt H 1 rfl) 0 [p2.e0,p2.e1,p2.e2,p2.e3] [] (by kernel_rfl) _ _ hx47) (le_self _) rfl (by kernel_rfl) (by kernel_rfl)) (li':=#[T,T,T,T,T,T,T,F,F,F,F,F,F,F,F]) (by kernel_rfl) ?_
   obtain ⟨hg48,h⟩:=gs h
   obtain ⟨p49,hp49,h⟩:=ls h
   refine WI.runS [7] 7 _ #[T,T,T,T,T,T,T,T,F,F,F,F,F,F,F] [(20,vu x30)] rfl (fun K=>by kernel_rfl) ?_
   refine WI.takeS 8 (.tuple #[vu p49.1,vu p49.2]) 21 rfl rfl (by kernel_rfl) (by kernel_rfl) (fun w H=>Eq.trans (ev_add64 111 _ Tryz.func111 (by kernel_rfl) (by kernel_rfl) (by kernel_rfl) (by kernel_rfl) x45 x47 x30 (.tmp 16) (.tmp 19) (.tmp 20) #[22,22,22] rfl (by kernel_rfl) (by kernel_rfl) (by kernel_rfl) hg48) (by rw [← hp49])) (li':=#[T,T,T,T,T,T,T,T,T,F,F,F,F,F,F]) (by kernel_rfl) ?_
   obtain ⟨hg50,h⟩:=gs h
   refine WI.runS [9,10,11] 3 _ #[T,T,T,T,T,T,T,T,T,T,T,T,F,F,F] [(23,vu p49.2),(22,vu p49.1),(12,.tuple #[vu p49.1,vu p49.2])] rfl (fun K=>by kernel_rfl) ?_
   refine WI.takeS 12 (va (((⟨b15,0,none⟩ : Addr).add 0).add (Int.toNat x31 * 1))) 24 rfl rfl (by kernel_rfl) (by kernel_rfl) (fun w H=>ev_indexArr (ad:=(⟨b15,0,none⟩ : Addr).add 0) 24 (.tmp 6) (.tmp 13) 4 22 1 .i64 x31 rfl (by kernel_rfl) (by kernel_rfl) (by kernel_rfl) hg50) (li':=#[T,T,T,T,T,T,T,T,T,T,T,T,T,F,F]) (by kernel_rfl) ?_
   obtain ⟨y51,y52,y53,y54,hy55,h⟩:=ls4_some h
   refine WI.one 13 (by kernel_rfl) (nod (sl H43 [1,2,3]) (sl H43 [0,1,2,3])) rfl (Op1.storeBoxI fU64 H43 0 rfl (by kernel_rfl) 22 (.tmp 24) (.tmp 22) 0 ([x26,x27,x28,x29] : List Int) [] [] (Int.toNat x31) p49.1 false rfl (by kernel_rfl) (by kernel_rfl) (by kernel_rfl) (by kernel_rfl) (by kernel_rfl) (idx_lt (n:=4) hg50) [y51,y52,y53,y54] hy55 #[vu y51,vu y52,vu y53,vu y54] (by kernel_rfl) (fun w56 H57=>?_))
   clear H43
   refine WI.nS0 #[T,T,T,T,T,T,T,T,T,T,T,T,T,T,F] (by kernel_rfl) rfl ?_
   refine WI.runS [14] 0 _ #[T,T,T,T,T,T,T,T,T,T,T,T,T,T,T] [(7,vu p49.2)] rfl (fun K=>by kernel_rfl) ?_
   refine WI.done (by kernel_rfl) (nod0 (sl H57 [1,2,3]) 13 (by decide) (by kernel_rfl)) ?_
   exact ⟨y51,y52,y53,y54,p49.2,yy H57 [0,1,2,3] h⟩
  intro a w hq
  refine Exists.elim hq fun x36 hq=>Exists.elim hq fun x37 hq=>Exists.elim hq fun x38 hq=>Exists.elim hq fun x39 hq=>Exists.elim hq fun x40 hq=>Exists.elim hq fun G41 hq=>?_
  obtain ⟨rfl,H,h⟩:=hq
  subst hK42
  obtain ⟨w58,rfl⟩ : ∃ x,x = w:=⟨_,rfl⟩
  have H59:=H; clear H
  refine inb_n (then_n ?_)
  refine zg ?_
  obtain ⟨x60,e,h⟩:=ls h
  refine ze 2 2 [(9,vi x60),(25,vi x60)] ?_
  refine zd ?_
  exact then_n ⟨n,lS n,x36,x37,x38,x39,x40,x60,yy H59 [0,1,2,3] h⟩
 intro a w hq
 refine Exists.elim hq fun x19 hq=>Exists.elim hq fun x20 hq=>Exists.elim hq fun x21 hq=>Exists.elim hq fun x22 hq=>Exists.elim hq fun x23 hq=>Exists.elim hq fun G24 hq=>?_
 obtain ⟨rfl,H,h⟩:=hq
 subst hK25
 obtain ⟨w61,rfl⟩ : ∃ x,x = w:=⟨_,rfl⟩
 have H62:=H; clear H
 refine then_n ?_
 refine zs ?_
 refine zsg ?_
 obtain ⟨c63,e,h⟩:=ls h
 refine zed 2 2 [(27,vb c63),(26,vu x23)] ?_
 cases c63
 rotate_left
 ·replace h:=bt h
  refine zT ?_
  refine zsg ?_
  refine zr 1 1 [(28,.agg #[vu 0,vu 0,vu 0,vu 0])] ?_
  refine zo (osb H62 1 0 (.agg #[vu 0,vu 0,vu 0,vu 0]) #[vu 0,vu 0,vu 0,vu 0] true (flat_one1 fTU256 (TU256.mk 0 0 0 0)) (fun w66 H67=>?_))
  clear H62
  refine z0 ?_
  refine zrd 1 3 [(5,vi 8)] ?_
  refine WP.ret ?_
  obtain rfl:=oi h
  exact then_r (post_r (.tuple #[.agg #[vu 0,vu 0,vu 0,vu 0],vi 8]) rfl (results_cell_tmp rfl (by kernel_rfl) (by kernel_rfl) (run_loadAt (ad:=(⟨b11,0,none⟩ : Addr)) (off:=0) (St.boxAt H67 0 rfl) (le_self _) (by kernel_rfl))) ⟨rfl,sl H67 []⟩)
 replace h:=bf h
 refine zFn ?_
 refine zsg ?_
 refine zv (.agg #[vu x19,vu x20,vu x21,vu x22]) (llb H62 0 0) ?_
 refine zo (osb H62 1 0 (.agg #[vu x19,vu x20,vu x21,vu x22]) #[vu x19,vu x20,vu x21,vu x22] true (flat_one1 fTU256 (TU256.mk x19 x20 x21 x22)) (fun w64 H65=>?_))
 clear H62
 refine z0 ?_
 refine zrd 1 3 [(5,vi 0)] ?_
 refine WP.ret ?_
 obtain rfl:=oi h
 exact post_r (.tuple #[.agg #[vu x19,vu x20,vu x21,vu x22],vi 0]) rfl (results_cell_tmp rfl (by kernel_rfl) (by kernel_rfl) (run_loadAt (ad:=(⟨b11,0,none⟩ : Addr)) (off:=0) (St.boxAt H65 0 rfl) (le_self _) (by kernel_rfl))) ⟨rfl,sl H65 []⟩
/- tarn/tx.cost -/
def g_tx_cost_l1 (t20 : TU256 × Int) (t31 : TU256 × Int) (t41 : TU256 × Int) (t47 : TU256 × Int) (K54 : Option (TU256 × Bool)) (fuel : Nat) : Nat → Int → Option (TU256 × Bool)
  | 0, _ => none
  | n + 1, x55 => lt (decide (x55 < 4)) fun c59 => br c59 (gd ((0 : Int) ≤ x55 ∧ x55 < 4) <| bd (([t20.2, t31.2, t41.2, t47.2] : List Int)[Int.toNat x55]?) fun x61 => lt (x61 != 0) fun c62 => br c62 (some (TU256.mk 0 0 0 0, false)) (lt (wr .i64 (x55 + 1)) fun x63 => g_tx_cost_l1 t20 t31 t41 t47 K54 fuel n x63)) (K54)
def g_tx_cost (fuel : Nat) (p1 : TTx) : Option (TU256 × Bool) :=
  bd (g_blob_Gas fuel (((List.length p1.Blobs : Nat) : Int))) fun t14 => lt (t14.2 != 0) fun c18 => br c18 (some (TU256.mk 0 0 0 0, false)) (lt (wr .u64 p1.Gas) fun x19 => bd (g_u256_Mul fuel p1.Cap (TU256.mk x19 0 0 0)) fun t20 => lt (wr .u64 t14.1) fun x30 => bd (g_u256_Mul fuel p1.BlobCap (TU256.mk x30 0 0 0)) fun t31 => bd (g_u256_Add fuel t20.1 t31.1) fun t41 => bd (g_u256_Add fuel t41.1 p1.Value_) fun t47 => jn (some (t47.1, true)) fun K54 => g_tx_cost_l1 t20 t31 t41 t47 K54 fuel fuel 0)
theorem g_tx_cost_w (fuel : Nat) (s2 s4 : Value) (p1 : TTx) (r : TU256 × Bool) (h : g_tx_cost fuel p1 = some r) (w0 : World) (hs3 : Rd fU64 (hp no w0) s2 p1.Hashes) (hs5 : Rd fStr (hp no w0) s4 p1.Blobs) :
 Ret Tryz.prog 77 #[(gTx p1 s2 s4)] w0 (fun v w' => v = .tuple #[TU256.val r.1, vb r.2] ∧ St no w0 w' []) := by
 unfold g_tx_cost at h
 refine ret_of_wpS Tryz.func77 rfl 69 rfl [(0,(gTx p1 s2 s4))] (by kernel_rfl) (fun G=>?_)
 have H0:=St.start w0
 refine zsg ?_
 refine zo (obx H0 #[vi p1.From,vi p1.Nonce,vu p1.Tip.e0,vu p1.Tip.e1,vu p1.Tip.e2,vu p1.Tip.e3,vu p1.Cap.e0,vu p1.Cap.e1,vu p1.Cap.e2,vu p1.Cap.e3,vu p1.BlobCap.e0,vu p1.BlobCap.e1,vu p1.BlobCap.e2,vu p1.BlobCap.e3,vu p1.Value_.e0,vu p1.Value_.e1,vu p1.Value_.e2,vu p1.Value_.e3,vi p1.Gas,s2,s4] 44 (fun b6 w8 H9=>?_))
 refine zn ?_
 refine zo (oal H9 #[vu 0,vu 0,vu 0,vu 0] 24 (fun b10 w12 H13=>?_))
 clear H9
 refine zn ?_
 refine zrd 1 3 [(3,vb false)] ?_
 refine zsg ?_
 refine zr 1 1 [(15,vp b6 20)] ?_
 refine zv (s4) (llb H13 1 20) ?_
 refine zv (vi (((List.length p1.Blobs : Nat) : Int))) (lln (Rd.sl hs5) 9 1 16) ?_
 obtain ⟨t14,ht14,h⟩:=bs h
 refine zo (oca (g_blob_Gas_w fuel (((List.length p1.Blobs : Nat) : Int)) t14 ht14 _) ?_)
 rintro _ w15 ⟨rfl,Hc16⟩
 have H17:=St.call0' H13 Hc16
 clear H13 Hc16
 refine zn ?_
 refine zrd 5 9 [(5,vi t14.2),(4,vi t14.1),(20,vi t14.2),(19,vi t14.1),(14,.tuple #[vi t14.1,vi t14.2])] ?_
 refine zs ?_
 refine zsg ?_
 obtain ⟨c18,e,h⟩:=ls h
 refine zed 2 2 [(22,vb c18),(21,vi t14.2)] ?_
 cases c18
 rotate_left
 ·replace h:=bt h
  refine zT ?_
  refine zsg ?_
  refine zv (.agg #[vu 0,vu 0,vu 0,vu 0]) (llb H17 0 0) ?_
  refine zo (osb H17 0 0 (.agg #[vu 0,vu 0,vu 0,vu 0]) #[vu 0,vu 0,vu 0,vu 0] true (flat_one1 fTU256 (TU256.mk 0 0 0 0)) (fun w70 H71=>?_))
  clear H17
  refine z0 ?_
  refine zrd 1 3 [(3,vb false)] ?_
  refine WP.ret ?_
  obtain rfl:=oi h
  exact then_r (post_r (.tuple #[.agg #[vu 0,vu 0,vu 0,vu 0],vb false]) rfl (results_cell_tmp rfl (by kernel_rfl) (by kernel_rfl) (run_loadAt (ad:=(⟨b10,0,none⟩ : Addr)) (off:=0) (St.boxAt H71 0 rfl) (le_self _) (by kernel_rfl))) ⟨rfl,sl H71 []⟩)
 replace h:=bf h
 refine zFn ?_
 refine zsg ?_
 refine zr 1 1 [(25,vp b6 6)] ?_
 refine zv (TU256.val p1.Cap) (llb H17 1 6) ?_
 refine zr 1 3 [(27,vp b6 18)] ?_
 refine zv (vi p1.Gas) (llb H17 1 18) ?_
 obtain ⟨x19,e,h⟩:=ls h
 obtain ⟨t20,ht20,h⟩:=bs h
 refine ze 2 6 [(30,.agg #[vu x19,vu 0,vu 0,vu 0]),(29,vu x19)] ?_
 refine zo (oca (g_u256_Mul_w fuel p1.Cap (TU256.mk x19 0 0 0) t20 ht20 _) ?_)
 rintro _ w21 ⟨rfl,Hc22⟩
 have H23:=St.call0' H17 Hc22
 clear H17 Hc22
 refine zn ?_
 refine zr 3 10 [(33,vi t20.2),(32,TU256.val t20.1),(24,.tuple #[TU256.val t20.1,vi t20.2])] ?_
 refine zo (oal H23 #[vu 0,vu 0,vu 0,vu 0] 24 (fun b24 w26 H27=>?_))
 clear H23
 refine zn ?_
 refine zo (osb H27 0 0 (TU256.val t20.1) (TU256.cs t20.1).toArray true (flat_one1 fTU256 t20.1) (fun w28 H29=>?_))
 clear H27
 refine z0 ?_
 refine zrd 1 13 [(7,vi t20.2)] ?_
 refine zsg ?_
 refine zr 1 1 [(35,vp b6 10)] ?_
 refine zv (TU256.val p1.BlobCap) (llb H29 2 10) ?_
 obtain ⟨x30,e,h⟩:=ls h
 obtain ⟨t31,ht31,h⟩:=bs h
 refine ze 3 5 [(39,.agg #[vu x30,vu 0,vu 0,vu 0]),(38,vu x30),(37,vi t14.1)] ?_
 refine zo (oca (g_u256_Mul_w fuel p1.BlobCap (TU256.mk x30 0 0 0) t31 ht31 _) ?_)
 rintro _ w32 ⟨rfl,Hc33⟩
 have H34:=St.call0' H29 Hc33
 clear H29 Hc33
 refine zn ?_
 refine zr 3 9 [(42,vi t31.2),(41,TU256.val t31.1),(34,.tuple #[TU256.val t31.1,vi t31.2])] ?_
 refine zo (oal H34 #[vu 0,vu 0,vu 0,vu 0] 24 (fun b35 w37 H38=>?_))
 clear H34
 refine zn ?_
 refine zo (osb H38 0 0 (TU256.val t31.1) (TU256.cs t31.1).toArray true (flat_one1 fTU256 t31.1) (fun w39 H40=>?_))
 clear H38
 refine z0 ?_
 refine zrd 1 12 [(9,vi t31.2)] ?_
 refine zsg ?_
 refine zv (TU256.val t20.1) (llb H40 1 0) ?_
 refine zv (TU256.val t31.1) (llb H40 0 0) ?_
 obtain ⟨t41,ht41,h⟩:=bs h
 refine zo (oca (g_u256_Add_w fuel t20.1 t31.1 t41 ht41 _) ?_)
 rintro _ w42 ⟨rfl,Hc43⟩
 have H44:=St.call0' H40 Hc43
 clear H40 Hc43
 refine zn ?_
 refine zr 3 6 [(48,vi t41.2),(47,TU256.val t41.1),(43,.tuple #[TU256.val t41.1,vi t41.2])] ?_
 refine zo (osb H44 2 0 (TU256.val t41.1) (TU256.cs t41.1).toArray true (flat_one1 fTU256 t41.1) (fun w45 H46=>?_))
 clear H44
 refine z0 ?_
 refine zrd 1 8 [(10,vi t41.2)] ?_
 refine zsg ?_
 refine zv (TU256.val t41.1) (llb H46 0 0) ?_
 refine zr 1 2 [(51,vp b6 14)] ?_
 refine zv (TU256.val p1.Value_) (llb H46 3 14) ?_
 obtain ⟨t47,ht47,h⟩:=bs h
 refine zo (oca (g_u256_Add_w fuel t41.1 p1.Value_ t47 ht47 _) ?_)
 rintro _ w48 ⟨rfl,Hc49⟩
 have H50:=St.call0' H46 Hc49
 clear H46 Hc49
 refine zn ?_
 refine zr 3 7 [(55,vi t47.2),(54,TU256.val t47.1),(49,.tuple #[TU256.val t47.1,vi t47.2])] ?_
 refine zo (osb H50 0 0 (TU256.val t47.1) (TU256.cs t47.1).toArray true (flat_one1 fTU256 t47.1) (fun w51 H52=>?_))
 clear H50
 refine z0 ?_
 refine zrd 1 9 [(11,vi t47.2)] ?_
 refine zs ?_
 refine zsg ?_
 refine zrd 6 6 [(61,vi 0),(60,.agg #[vi t20.2,vi t31.2,vi t41.2,vi t47.2]),(59,vi t47.2),(58,vi t41.2),(57,vi t31.2),(56,vi t20.2)] ?_
 obtain ⟨K54,hK54,h⟩:=js h
 refine WP.blockJ (fun a w=>Y 69 [(2,vp b10 0)] [] no w0 [Box b10 (TU256.cs t47.1).toArray 24,Box b35 (TU256.cs t31.1).toArray 24,Box b24 (TU256.cs t20.1).toArray 24,Box b6 #[vi p1.From,vi p1.Nonce,vu p1.Tip.e0,vu p1.Tip.e1,vu p1.Tip.e2,vu p1.Tip.e3,vu p1.Cap.e0,vu p1.Cap.e1,vu p1.Cap.e2,vu p1.Cap.e3,vu p1.BlobCap.e0,vu p1.BlobCap.e1,vu p1.BlobCap.e2,vu p1.BlobCap.e3,vu p1.Value_.e0,vu p1.Value_.e1,vu p1.Value_.e2,vu p1.Value_.e3,vi p1.Gas,s2,s4] 44] (K54 = some r) a w) ?_ ?_
 ·refine WP.loop (fun n a w=>∃ (x55 : Int),Y 69 [(2,vp b10 0),(60,.agg #[vi t20.2,vi t31.2,vi t41.2,vi t47.2]),(61,vi x55)] [] no w0 [Box b10 (TU256.cs t47.1).toArray 24,Box b35 (TU256.cs t31.1).toArray 24,Box b24 (TU256.cs t20.1).toArray 24,Box b6 #[vi p1.From,vi p1.Nonce,vu p1.Tip.e0,vu p1.Tip.e1,vu p1.Tip.e2,vu p1.Tip.e3,vu p1.Cap.e0,vu p1.Cap.e1,vu p1.Cap.e2,vu p1.Cap.e3,vu p1.BlobCap.e0,vu p1.BlobCap.e1,vu p1.BlobCap.e2,vu p1.BlobCap.e3,vu p1.Value_.e0,vu p1.Value_.e1,vu p1.Value_.e2,vu p1.Value_.e3,vi p1.Gas,s2,s4] 44] (g_tx_cost_l1 t20 t31 t41 t47 K54 fuel n x55 = some r) a w) fuel ⟨0,yy H52 [0,1,2,3] h⟩ ?_
  rintro n a w57 ⟨x55,G56,rfl,H58,h⟩
  obtain _ | n:=n
  ·rw [g_tx_cost_l1] at h; cases h
  rw [g_tx_cost_l1] at h
  refine zsg ?_
  obtain ⟨c59,e,h⟩:=ls h
  refine zed 1 1 [(62,vb c59)] ?_
  refine zs ?_
  cases c59
  ·replace h:=bf h
   refine zF ?_
   refine WP.exit ?_
   exact then_e (then_e (inb_e (then_n (yy H58 [0,1,2,3] h))))
  replace h:=bt h
  refine zTn ?_
  refine zs ?_
  refine WP.block ?_
  refine zsg ?_
  obtain ⟨hg60,h⟩:=gs h
  obtain ⟨x61,hx61,h⟩:=bs h
  refine WPI.valueS (vi x61) 63 rfl rfl (by kernel_rfl) (ev_aidx 140 36 4 .i64 x55 [vi t20.2,vi t31.2,vi t41.2,vi t47.2] (vi x61) (.tmp 60) (.tmp 61) rfl (by kernel_rfl) (by kernel_rfl) (by kernel_rfl) (by kernel_rfl) hg60 (map_get (fun z=>vi z) hx61)) ?_
  refine zrd 1 2 [(13,vi x61)] ?_
  refine zsg ?_
  obtain ⟨c62,e,h⟩:=ls h
  refine zed 2 2 [(65,vb c62),(64,vi x61)] ?_
  cases c62
  ·replace h:=bf h
   refine zF ?_
   refine WP.skip ?_
   refine inb_n (then_n ?_)
   refine zg ?_
   obtain ⟨x63,e,h⟩:=ls h
   refine ze 2 2 [(61,vi x63),(67,vi x63)] ?_
   refine zd ?_
   exact then_n ⟨n,lS n,x63,yy H58 [0,1,2,3] h⟩
  replace h:=bt h
  refine zT ?_
  refine zsg ?_
  refine zr 1 1 [(66,.agg #[vu 0,vu 0,vu 0,vu 0])] ?_
  refine zo (osb H58 0 0 (.agg #[vu 0,vu 0,vu 0,vu 0]) #[vu 0,vu 0,vu 0,vu 0] true (flat_one1 fTU256 (TU256.mk 0 0 0 0)) (fun w64 H65=>?_))
  clear H58
  refine z0 ?_
  refine zrd 1 3 [(3,vb false)] ?_
  refine WP.ret ?_
  obtain rfl:=oi h
  exact inb_r (then_r (then_r (inb_r (then_r (then_r (post_r (.tuple #[.agg #[vu 0,vu 0,vu 0,vu 0],vb false]) rfl (results_cell_tmp rfl (by kernel_rfl) (by kernel_rfl) (run_loadAt (ad:=(⟨b10,0,none⟩ : Addr)) (off:=0) (St.boxAt H65 0 rfl) (le_self _) (by kernel_rfl))) ⟨rfl,sl H65 []⟩))))))
 rintro a w66 ⟨G53,rfl,H67,h⟩
 subst hK54
 refine then_n ?_
 refine zsg ?_
 refine zv (TU256.val t47.1) (llb H67 0 0) ?_
 refine zo (osb H67 0 0 (TU256.val t47.1) (TU256.cs t47.1).toArray true (flat_one1 fTU256 t47.1) (fun w68 H69=>?_))
 clear H67
 refine z0 ?_
 refine zrd 1 3 [(3,vb true)] ?_
 refine WP.ret ?_
 obtain rfl:=oi h
 exact post_r (.tuple #[TU256.val t47.1,vb true]) rfl (results_cell_tmp rfl (by kernel_rfl) (by kernel_rfl) (run_loadAt (ad:=(⟨b10,0,none⟩ : Addr)) (off:=0) (St.boxAt H69 0 rfl) (le_self _) (by kernel_rfl))) ⟨rfl,sl H69 []⟩
/- tarn/tx.Check -/
def g_tx_Check (fuel : Nat) (p1 : TTx) : Option Int :=
  jn (bd (g_tx_cost fuel p1) fun t59 => lt (!t59.2) fun c69 => br c69 (some 1) (some 0)) fun K11 => jn (K11) fun K13 => jn (fun (c14 : Bool) => br c14 (some 1) (jn (fun (c40 : Bool) => br c40 (some 1) (K13)) fun K42 => bd (g_u256_Cmp fuel p1.Tip p1.Cap) fun t43 => lt (decide (t43 > 0)) fun c47 => br c47 (K42 true) (bd (g_blob_Fits fuel p1.Hashes p1.Blobs) fun t48 => lt (t48 != 0) fun c52 => K42 c52))) fun K16 => jn (fun (c17 : Bool) => br c17 (K16 true) (jn (fun (c24 : Bool) => br c24 (K16 true) (jn (fun (c31 : Bool) => K16 c31) fun K33 => lt (decide (p1.Gas < 0)) fun c34 => br c34 (K33 true) (lt (decide (p1.Gas > 1073741824)) fun c35 => K33 c35))) fun K26 => lt (decide (p1.Nonce < 0)) fun c27 => br c27 (K26 true) (lt (decide (p1.Nonce > 1099511627776)) fun c28 => K26 c28))) fun K19 => lt (decide (p1.From < 0)) fun c20 => br c20 (K19 true) (lt (decide (p1.From ≥ 8)) fun c21 => K19 c21)
theorem g_tx_Check_w (fuel : Nat) (s2 s4 : Value) (p1 : TTx) (r : Int) (h : g_tx_Check fuel p1 = some r) (w0 : World) (hs3 : Rd fU64 (hp no w0) s2 p1.Hashes) (hs5 : Rd fStr (hp no w0) s4 p1.Blobs) :
 Ret Tryz.prog 55 #[(gTx p1 s2 s4)] w0 (fun v w' => v = vi r ∧ St no w0 w' []) := by
 unfold g_tx_Check at h
 refine ret_of_wpS Tryz.func55 rfl 50 rfl [(0,(gTx p1 s2 s4))] (by kernel_rfl) (fun G=>?_)
 have H0:=St.start w0
 refine zsg ?_
 refine zo (obx H0 #[vi p1.From,vi p1.Nonce,vu p1.Tip.e0,vu p1.Tip.e1,vu p1.Tip.e2,vu p1.Tip.e3,vu p1.Cap.e0,vu p1.Cap.e1,vu p1.Cap.e2,vu p1.Cap.e3,vu p1.BlobCap.e0,vu p1.BlobCap.e1,vu p1.BlobCap.e2,vu p1.BlobCap.e3,vu p1.Value_.e0,vu p1.Value_.e1,vu p1.Value_.e2,vu p1.Value_.e3,vi p1.Gas,s2,s4] 44 (fun b6 w8 H9=>?_))
 refine zn ?_
 refine zrd 1 2 [(2,vi 0)] ?_
 obtain ⟨K11,hK11,h⟩:=js h
 refine WP.seqJ (fun a w=>Y 50 [(1,vp b6 0)] [] no w0 [Box b6 #[vi p1.From,vi p1.Nonce,vu p1.Tip.e0,vu p1.Tip.e1,vu p1.Tip.e2,vu p1.Tip.e3,vu p1.Cap.e0,vu p1.Cap.e1,vu p1.Cap.e2,vu p1.Cap.e3,vu p1.BlobCap.e0,vu p1.BlobCap.e1,vu p1.BlobCap.e2,vu p1.BlobCap.e3,vu p1.Value_.e0,vu p1.Value_.e1,vu p1.Value_.e2,vu p1.Value_.e3,vi p1.Gas,s2,s4] 44] (K11 = some r) a w) ?_ ?_
 ·obtain ⟨K13,hK13,h⟩:=js h
  refine WP.blockJ (fun a w=>Y 50 [(1,vp b6 0)] [] no w0 [Box b6 #[vi p1.From,vi p1.Nonce,vu p1.Tip.e0,vu p1.Tip.e1,vu p1.Tip.e2,vu p1.Tip.e3,vu p1.Cap.e0,vu p1.Cap.e1,vu p1.Cap.e2,vu p1.Cap.e3,vu p1.BlobCap.e0,vu p1.BlobCap.e1,vu p1.BlobCap.e2,vu p1.BlobCap.e3,vu p1.Value_.e0,vu p1.Value_.e1,vu p1.Value_.e2,vu p1.Value_.e3,vi p1.Gas,s2,s4] 44] (K13 = some r) a w) ?_ ?_
  ·obtain ⟨K16,hK16,h⟩:=js h
   refine WP.seqJ (fun a w=>∃ (c14 : Bool),Y 50 [(1,vp b6 0),(5,vb c14)] [] no w0 [Box b6 #[vi p1.From,vi p1.Nonce,vu p1.Tip.e0,vu p1.Tip.e1,vu p1.Tip.e2,vu p1.Tip.e3,vu p1.Cap.e0,vu p1.Cap.e1,vu p1.Cap.e2,vu p1.Cap.e3,vu p1.BlobCap.e0,vu p1.BlobCap.e1,vu p1.BlobCap.e2,vu p1.BlobCap.e3,vu p1.Value_.e0,vu p1.Value_.e1,vu p1.Value_.e2,vu p1.Value_.e3,vi p1.Gas,s2,s4] 44] (K16 c14 = some r) a w) ?_ ?_
   ·refine zs ?_
    obtain ⟨K19,hK19,h⟩:=js h
    refine WP.onlyN (fun a w=>∃ (c17 : Bool),Y 50 [(1,vp b6 0),(5,vb c17)] [] no w0 [Box b6 #[vi p1.From,vi p1.Nonce,vu p1.Tip.e0,vu p1.Tip.e1,vu p1.Tip.e2,vu p1.Tip.e3,vu p1.Cap.e0,vu p1.Cap.e1,vu p1.Cap.e2,vu p1.Cap.e3,vu p1.BlobCap.e0,vu p1.BlobCap.e1,vu p1.BlobCap.e2,vu p1.BlobCap.e3,vu p1.Value_.e0,vu p1.Value_.e1,vu p1.Value_.e2,vu p1.Value_.e3,vi p1.Gas,s2,s4] 44] (K19 c17 = some r) a w) ?_ ?_
    ·refine zg ?_
     refine zr 1 1 [(6,vp b6 0)] ?_
     refine zv (vi p1.From) (llb H9 0 0) ?_
     obtain ⟨c20,e,h⟩:=ls h
     refine ze 2 4 [(9,vb c20),(8,vb c20)] ?_
     cases c20
     rotate_left
     ·replace h:=bt h
      refine zr 5 9 [(5,vb true),(13,vb true),(12,Z),(11,Z),(10,Z)] ?_
      refine zd ?_
      exact ⟨true,yy H9 [0] h⟩
     replace h:=bf h
     refine zr 1 5 [(10,vp b6 0)] ?_
     refine zv (vi p1.From) (llb H9 0 0) ?_
     obtain ⟨c21,e,h⟩:=ls h
     refine ze 3 9 [(5,vb c21),(13,vb c21),(12,vb c21)] ?_
     refine zd ?_
     exact ⟨c21,yy H9 [0] h⟩
    rintro a w22 ⟨c17,G18,rfl,H23,h⟩
    subst hK19
    refine then_n ?_
    cases c17
    rotate_left
    ·replace h:=bt h
     refine zT ?_
     refine WP.skip ?_
     exact then_n ⟨true,yy H23 [0] h⟩
    replace h:=bf h
    refine zF ?_
    refine zs ?_
    obtain ⟨K26,hK26,h⟩:=js h
    refine WP.onlyN (fun a w=>∃ (c24 : Bool),Y 50 [(1,vp b6 0),(5,vb c24)] [] no w0 [Box b6 #[vi p1.From,vi p1.Nonce,vu p1.Tip.e0,vu p1.Tip.e1,vu p1.Tip.e2,vu p1.Tip.e3,vu p1.Cap.e0,vu p1.Cap.e1,vu p1.Cap.e2,vu p1.Cap.e3,vu p1.BlobCap.e0,vu p1.BlobCap.e1,vu p1.BlobCap.e2,vu p1.BlobCap.e3,vu p1.Value_.e0,vu p1.Value_.e1,vu p1.Value_.e2,vu p1.Value_.e3,vi p1.Gas,s2,s4] 44] (K26 c24 = some r) a w) ?_ ?_
    ·refine zg ?_
     refine zr 1 1 [(14,vp b6 1)] ?_
     refine zv (vi p1.Nonce) (llb H23 0 1) ?_
     obtain ⟨c27,e,h⟩:=ls h
     refine ze 2 4 [(17,vb c27),(16,vb c27)] ?_
     cases c27
     rotate_left
     ·replace h:=bt h
      refine zr 5 9 [(5,vb true),(21,vb true),(20,Z),(19,Z),(18,Z)] ?_
      refine zd ?_
      exact ⟨true,yy H23 [0] h⟩
     replace h:=bf h
     refine zr 1 5 [(18,vp b6 1)] ?_
     refine zv (vi p1.Nonce) (llb H23 0 1) ?_
     obtain ⟨c28,e,h⟩:=ls h
     refine ze 3 9 [(5,vb c28),(21,vb c28),(20,vb c28)] ?_
     refine zd ?_
     exact ⟨c28,yy H23 [0] h⟩
    rintro a w29 ⟨c24,G25,rfl,H30,h⟩
    subst hK26
    refine then_n ?_
    cases c24
    rotate_left
    ·replace h:=bt h
     refine zT ?_
     refine WP.skip ?_
     exact then_n ⟨true,yy H30 [0] h⟩
    replace h:=bf h
    refine zF ?_
    obtain ⟨K33,hK33,h⟩:=js h
    refine WP.onlyN (fun a w=>∃ (c31 : Bool),Y 50 [(1,vp b6 0),(5,vb c31)] [] no w0 [Box b6 #[vi p1.From,vi p1.Nonce,vu p1.Tip.e0,vu p1.Tip.e1,vu p1.Tip.e2,vu p1.Tip.e3,vu p1.Cap.e0,vu p1.Cap.e1,vu p1.Cap.e2,vu p1.Cap.e3,vu p1.BlobCap.e0,vu p1.BlobCap.e1,vu p1.BlobCap.e2,vu p1.BlobCap.e3,vu p1.Value_.e0,vu p1.Value_.e1,vu p1.Value_.e2,vu p1.Value_.e3,vi p1.Gas,s2,s4] 44] (K33 c31 = some r) a w) ?_ ?_
    ·refine zg ?_
     refine zr 1 1 [(22,vp b6 18)] ?_
     refine zv (vi p1.Gas) (llb H30 0 18) ?_
     obtain ⟨c34,e,h⟩:=ls h
     refine ze 2 4 [(25,vb c34),(24,vb c34)] ?_
     cases c34
     rotate_left
     ·replace h:=bt h
      refine zr 5 9 [(5,vb true),(29,vb true),(28,Z),(27,Z),(26,Z)] ?_
      refine zd ?_
      exact ⟨true,yy H30 [0] h⟩
     replace h:=bf h
     refine zr 1 5 [(26,vp b6 18)] ?_
     refine zv (vi p1.Gas) (llb H30 0 18) ?_
     obtain ⟨c35,e,h⟩:=ls h
     refine ze 3 9 [(5,vb c35),(29,vb c35),(28,vb c35)] ?_
     refine zd ?_
     exact ⟨c35,yy H30 [0] h⟩
    rintro a w36 ⟨c31,G32,rfl,H37,h⟩
    subst hK33
    exact then_n ⟨c31,yy H37 [0] h⟩
   rintro a w38 ⟨c14,G15,rfl,H39,h⟩
   subst hK16
   cases c14
   rotate_left
   ·replace h:=bt h
    refine zT ?_
    refine zsg ?_
    refine zrd 1 1 [(2,vi 1)] ?_
    refine WP.ret ?_
    obtain rfl:=oi h
    exact inb_r (then_r (then_r (post_r (vi 1) rfl (by kernel_rfl) ⟨rfl,sl H39 []⟩)))
   replace h:=bf h
   refine zF ?_
   obtain ⟨K42,hK42,h⟩:=js h
   refine WP.seqJ (fun a w=>∃ (c40 : Bool),Y 50 [(1,vp b6 0),(30,vb c40)] [] no w0 [Box b6 #[vi p1.From,vi p1.Nonce,vu p1.Tip.e0,vu p1.Tip.e1,vu p1.Tip.e2,vu p1.Tip.e3,vu p1.Cap.e0,vu p1.Cap.e1,vu p1.Cap.e2,vu p1.Cap.e3,vu p1.BlobCap.e0,vu p1.BlobCap.e1,vu p1.BlobCap.e2,vu p1.BlobCap.e3,vu p1.Value_.e0,vu p1.Value_.e1,vu p1.Value_.e2,vu p1.Value_.e3,vi p1.Gas,s2,s4] 44] (K42 c40 = some r) a w) ?_ ?_
   ·refine zsg ?_
    refine zr 1 1 [(31,vp b6 2)] ?_
    refine zv (TU256.val p1.Tip) (llb H39 0 2) ?_
    refine zr 1 3 [(33,vp b6 6)] ?_
    refine zv (TU256.val p1.Cap) (llb H39 0 6) ?_
    obtain ⟨t43,ht43,h⟩:=bs h
    refine zo (oca (g_u256_Cmp_w fuel p1.Tip p1.Cap t43 ht43 _) ?_)
    rintro _ w44 ⟨rfl,Hc45⟩
    have H46:=St.call0' H39 Hc45
    clear H39 Hc45
    obtain ⟨c47,e,h⟩:=ls h
    refine zn ?_
    refine zed 2 7 [(30,vb c47),(36,vb c47)] ?_
    cases c47
    rotate_left
    ·replace h:=bt h
     refine zT ?_
     refine WP.skip ?_
     exact then_n ⟨true,yy H46 [0] h⟩
    replace h:=bf h
    refine zF ?_
    refine zg ?_
    refine zr 1 1 [(37,vp b6 19)] ?_
    refine zv (s2) (llb H46 0 19) ?_
    refine zr 1 3 [(39,vp b6 20)] ?_
    refine zv (s4) (llb H46 0 20) ?_
    obtain ⟨t48,ht48,h⟩:=bs h
    refine zo (oca (g_blob_Fits_w fuel s2 p1.Hashes s4 p1.Blobs t48 ht48 _ (Rd.arg0 hs3 H46) (Rd.arg0 hs5 H46)) ?_)
    rintro _ w49 ⟨rfl,Hc50⟩
    have H51:=St.call0' H46 Hc50
    clear H46 Hc50
    obtain ⟨c52,e,h⟩:=ls h
    refine zn ?_
    refine ze 2 7 [(30,vb c52),(42,vb c52)] ?_
    refine zd ?_
    exact then_n ⟨c52,yy H51 [0] h⟩
   rintro a w53 ⟨c40,G41,rfl,H54,h⟩
   subst hK42
   cases c40
   ·replace h:=bf h
    refine zF ?_
    refine WP.skip ?_
    exact inb_n (then_n (yy H54 [0] h))
   replace h:=bt h
   refine zT ?_
   refine zsg ?_
   refine zrd 1 1 [(2,vi 1)] ?_
   refine WP.ret ?_
   obtain rfl:=oi h
   exact inb_r (then_r (then_r (post_r (vi 1) rfl (by kernel_rfl) ⟨rfl,sl H54 []⟩)))
  rintro a w55 ⟨G12,rfl,H56,h⟩
  rw [hK13] at h
  exact then_n (yy H56 [0] h)
 rintro a w57 ⟨G10,rfl,H58,h⟩
 subst hK11
 refine zs ?_
 refine zsg ?_
 refine zv ((gTx p1 s2 s4)) (llb H58 0 0) ?_
 obtain ⟨t59,ht59,h⟩:=bs h
 refine zo (oca (g_tx_cost_w fuel s2 s4 p1 t59 ht59 _ (Rd.arg0 hs3 H58) (Rd.arg0 hs5 H58)) ?_)
 rintro _ w60 ⟨rfl,Hc61⟩
 have H62:=St.call0' H58 Hc61
 clear H58 Hc61
 refine zn ?_
 refine zr 3 5 [(47,vb t59.2),(46,TU256.val t59.1),(43,.tuple #[TU256.val t59.1,vb t59.2])] ?_
 refine zo (oal H62 #[vu 0,vu 0,vu 0,vu 0] 24 (fun b63 w65 H66=>?_))
 clear H62
 refine zn ?_
 refine zo (osb H66 0 0 (TU256.val t59.1) (TU256.cs t59.1).toArray true (flat_one1 fTU256 t59.1) (fun w67 H68=>?_))
 clear H66
 refine z0 ?_
 refine zrd 1 8 [(4,vb t59.2)] ?_
 refine zsg ?_
 obtain ⟨c69,e,h⟩:=ls h
 refine zed 2 2 [(49,vb c69),(48,vb t59.2)] ?_
 cases c69
 ·replace h:=bf h
  refine zFn ?_
  refine zsg ?_
  refine zrd 1 1 [(2,vi 0)] ?_
  refine WP.ret ?_
  obtain rfl:=oi h
  exact post_r (vi 0) rfl (by kernel_rfl) ⟨rfl,sl H68 []⟩
 replace h:=bt h
 refine zT ?_
 refine zsg ?_
 refine zrd 1 1 [(2,vi 1)] ?_
 refine WP.ret ?_
 obtain rfl:=oi h
 exact then_r (post_r (vi 1) rfl (by kernel_rfl) ⟨rfl,sl H68 []⟩)
/- tarn/mark.Text -/
def g_mark_Text_l1 (p1 : Int) (K15 : Int → Int → Int → Int → Int → Int → Int → Int → Option ByteArray) (fuel : Nat) : Nat → Int → Int → Int → Int → Int → Int → Int → Int → Int → Option ByteArray
  | 0, _, _, _, _, _, _, _, _, _ => none
  | n + 1, x16, x17, x18, x19, x20, x21, x22, x23, x24 => lt (decide (x24 < 8)) fun c28 => br c28 (lt (wr .i64 (8 * x24)) fun x29 => lt (wr .i64 (56 - x29)) fun x30 => gd ((0 : Int) ≤ x30) <| lt (ishr .u64 p1 x30) fun x32 => lt (wr .u8 x32) fun x33 => gd ((0 : Int) ≤ x24 ∧ x24 < 8) <| ls8 (List.set ([x16, x17, x18, x19, x20, x21, x22, x23] : List Int) (Int.toNat x24) x33) fun y35 y36 y37 y38 y39 y40 y41 y42 => lt (wr .i64 (x24 + 1)) fun x46 => g_mark_Text_l1 p1 K15 fuel n y35 y36 y37 y38 y39 y40 y41 y42 x46) (K15 x16 x17 x18 x19 x20 x21 x22 x23)
def g_mark_Text (fuel : Nat) (p1 : Int) : Option ByteArray :=
  jn (fun (x6 : Int) (x7 : Int) (x8 : Int) (x9 : Int) (x10 : Int) (x11 : Int) (x12 : Int) (x13 : Int) => lt (bsl (([x6, x7, x8, x9, x10, x11, x12, x13] : List Int))) fun t49 => some t49) fun K15 => g_mark_Text_l1 p1 K15 fuel fuel 0 0 0 0 0 0 0 0 0
theorem g_mark_Text_w (fuel : Nat) (p1 : Int) (r : ByteArray) (h : g_mark_Text fuel p1 = some r) (w0 : World) :
 Ret Tryz.prog 56 #[vu p1] w0 (fun v w' => v = .string r ∧ St no w0 w' []) := by
 unfold g_mark_Text at h
 refine ret_of_wpS Tryz.func56 rfl 19 rfl [(0,vu p1)] (by kernel_rfl) (fun G=>?_)
 have H0:=St.start w0
 refine zsg ?_
 refine zrd 1 1 [(2,.string ((ByteArray.mk #[])))] ?_
 refine zsg ?_
 refine zo (oal H0 #[.int .u8 0,.int .u8 0,.int .u8 0,.int .u8 0,.int .u8 0,.int .u8 0,.int .u8 0,.int .u8 0] 118 (fun b2 w4 H5=>?_))
 refine zn ?_
 refine zdn ?_
 refine zs ?_
 refine zsg ?_
 refine zrd 1 1 [(5,vi 0)] ?_
 obtain ⟨K15,hK15,h⟩:=js h
 refine WP.blockJ (fun a w=>∃ (x6 : Int) (x7 : Int) (x8 : Int) (x9 : Int) (x10 : Int) (x11 : Int) (x12 : Int) (x13 : Int),Y 19 [(3,vp b2 0)] [] no w0 [Box b2 #[.int .u8 x6,.int .u8 x7,.int .u8 x8,.int .u8 x9,.int .u8 x10,.int .u8 x11,.int .u8 x12,.int .u8 x13] 118] (K15 x6 x7 x8 x9 x10 x11 x12 x13 = some r) a w) ?_ ?_
 ·refine WP.loop (fun n a w=>∃ (x16 : Int) (x17 : Int) (x18 : Int) (x19 : Int) (x20 : Int) (x21 : Int) (x22 : Int) (x23 : Int) (x24 : Int),Y 19 [(0,vu p1),(3,vp b2 0),(5,vi x24)] [] no w0 [Box b2 #[.int .u8 x16,.int .u8 x17,.int .u8 x18,.int .u8 x19,.int .u8 x20,.int .u8 x21,.int .u8 x22,.int .u8 x23] 118] (g_mark_Text_l1 p1 K15 fuel n x16 x17 x18 x19 x20 x21 x22 x23 x24 = some r) a w) fuel ⟨0,0,0,0,0,0,0,0,0,yy H5 [0] h⟩ ?_
  intro n a w hq
  refine Exists.elim hq fun x16 hq=>Exists.elim hq fun x17 hq=>Exists.elim hq fun x18 hq=>Exists.elim hq fun x19 hq=>Exists.elim hq fun x20 hq=>Exists.elim hq fun x21 hq=>Exists.elim hq fun x22 hq=>Exists.elim hq fun x23 hq=>Exists.elim hq fun x24 hq=>Exists.elim hq fun G25 hq=>?_
  obtain ⟨rfl,H,h⟩:=hq
  obtain _ | n:=n
  ·rw [g_mark_Text_l1] at h; cases h
  rw [g_mark_Text_l1] at h
  obtain ⟨w26,rfl⟩ : ∃ x,x = w:=⟨_,rfl⟩
  have H27:=H; clear H
  refine zsg ?_
  obtain ⟨c28,e,h⟩:=ls h
  refine zed 1 1 [(6,vb c28)] ?_
  refine zs ?_
  cases c28
  ·replace h:=bf h
   refine zF ?_
   refine WP.exit ?_
   exact then_e (then_e (inb_e (then_n ⟨x16,x17,x18,x19,x20,x21,x22,x23,yy H27 [0] h⟩)))
  replace h:=bt h
  refine zTn ?_
  refine zs ?_
  refine WP.block ?_
  refine zsg ?_
  refine zrd 2 2 [(4,vi x24),(7,vi x24)] ?_
  refine zg ?_
  obtain ⟨x29,hx29,h⟩:=ls h
  obtain ⟨x30,hx30,h⟩:=ls h
  obtain ⟨hg31,h⟩:=gs h
  obtain ⟨x32,hx32,h⟩:=ls h
  refine zr 5 5 [(12,vi x30),(11,vi x29),(10,vi x24),(9,vu p1),(8,vi x24)] ?_ rfl (fun K=>by subst hx30 hx29; kernel_rfl)
  refine WPI.valueS (vu x32) 13 rfl rfl (by kernel_rfl) (Eq.trans (ev_shr .u64 .i64 p1 x30 22 3 (.tmp 9) (.tmp 12) rfl (by kernel_rfl) (by kernel_rfl) hg31) (by rw [← hx32])) ?_
  obtain ⟨x33,e,h⟩:=ls h
  obtain ⟨hg34,h⟩:=gs h
  refine ze 1 7 [(14,.int .u8 x33)] ?_
  refine zv (va (((⟨b2,0,none⟩ : Addr).add 0).add (Int.toNat x24 * 1))) (lla ((⟨b2,0,none⟩ : Addr).add 0) 8 5 1 .i64 x24 hg34) ?_
  obtain ⟨y35,y36,y37,y38,y39,y40,y41,y42,hy43,h⟩:=ls8_some h
  refine WPI.op rfl (Op1.storeBoxI fU8 H27 0 rfl (by kernel_rfl) 5 (.tmp 15) (.tmp 14) 0 ([x16,x17,x18,x19,x20,x21,x22,x23] : List Int) [] [] (Int.toNat x24) x33 false rfl (by kernel_rfl) (by kernel_rfl) (by kernel_rfl) (by kernel_rfl) (by kernel_rfl) (idx_lt (n:=8) hg34) [y35,y36,y37,y38,y39,y40,y41,y42] hy43 #[.int .u8 y35,.int .u8 y36,.int .u8 y37,.int .u8 y38,.int .u8 y39,.int .u8 y40,.int .u8 y41,.int .u8 y42] (by kernel_rfl) (fun w44 H45=>?_))
  clear H27
  refine z0 ?_
  refine zd ?_
  refine inb_n (then_n ?_)
  refine zg ?_
  obtain ⟨x46,e,h⟩:=ls h
  refine ze 2 2 [(5,vi x46),(16,vi x46)] ?_
  refine zd ?_
  exact then_n ⟨n,lS n,y35,y36,y37,y38,y39,y40,y41,y42,x46,yy H45 [0] h⟩
 intro a w hq
 refine Exists.elim hq fun x6 hq=>Exists.elim hq fun x7 hq=>Exists.elim hq fun x8 hq=>Exists.elim hq fun x9 hq=>Exists.elim hq fun x10 hq=>Exists.elim hq fun x11 hq=>Exists.elim hq fun x12 hq=>Exists.elim hq fun x13 hq=>Exists.elim hq fun G14 hq=>?_
 obtain ⟨rfl,H,h⟩:=hq
 subst hK15
 obtain ⟨w47,rfl⟩ : ∃ x,x = w:=⟨_,rfl⟩
 have H48:=H; clear H
 refine then_n ?_
 refine zsg ?_
 refine WPI.valueS ((Value.slice (some ⟨b2,0,none⟩) 8 8)) 17 rfl rfl (by kernel_rfl) (ev_sliceArr 118 (.tmp 3) 5 8 1 b2 0 rfl (by kernel_rfl) (by kernel_rfl)) ?_
 obtain ⟨t49,ht49,h⟩:=ls h
 refine WPI.valueS (.string t49) 18 rfl rfl (by kernel_rfl) (Eq.trans (ev_b2s (Rd.arr (F:=fU8) (St.boxAt H48 0 rfl) 0 ([x6,x7,x8,x9,x10,x11,x12,x13] : List Int) [] (by kernel_rfl)) (le_self _) 106 9 5 (.tmp 17) rfl (by kernel_rfl) (by kernel_rfl) (by kernel_rfl) (by kernel_rfl)) (by rw [← ht49])) ?_
 refine zrd 1 3 [(2,.string t49)] ?_
 refine WP.ret ?_
 obtain rfl:=oi h
 exact post_r (.string t49) rfl (by kernel_rfl) ⟨rfl,sl H48 []⟩
/- tarn/u256.limbs -/
def g_u256_limbs_l1 (K8 : Int → Option Int) (p1 : TU256) (fuel : Nat) : Nat → Int → Option Int
  | 0, _ => none
  | n + 1, x9 => jn (fun (c13 : Bool) => br c13 (lt (wr .i64 (x9 - 1)) fun x23 => g_u256_limbs_l1 K8 p1 fuel n x23) (K8 x9)) fun K15 => lt (decide (x9 > 0)) fun c16 => br c16 (lt (wr .i64 (x9 - 1)) fun x17 => gd ((0 : Int) ≤ x17 ∧ x17 < 4) <| bd (([p1.e0, p1.e1, p1.e2, p1.e3] : List Int)[Int.toNat x17]?) fun x19 => lt (x19 == 0) fun c20 => K15 c20) (K15 false)
def g_u256_limbs (fuel : Nat) (p1 : TU256) : Option Int :=
  jn (fun (x6 : Int) => some x6) fun K8 => g_u256_limbs_l1 K8 p1 fuel fuel 4
theorem g_u256_limbs_w (fuel : Nat) (p1 : TU256) (r : Int) (h : g_u256_limbs fuel p1 = some r) (w0 : World) :
 Ret Tryz.prog 119 #[TU256.val p1] w0 (fun v w' => v = vi r ∧ St no w0 w' []) := by
 unfold g_u256_limbs at h
 refine ret_of_wpS Tryz.func119 rfl 16 rfl [(0,TU256.val p1)] (by kernel_rfl) (fun G=>?_)
 have H0:=St.start w0
 refine zsg ?_
 refine zo (obx H0 (TU256.cs p1).toArray 24 (fun b2 w4 H5=>?_))
 refine zn ?_
 refine zrd 1 2 [(2,vi 0)] ?_
 refine zsg ?_
 refine zrd 1 1 [(3,vi 4)] ?_
 refine zs ?_
 obtain ⟨K8,hK8,h⟩:=js h
 refine WP.blockJ (fun a w=>∃ (x6 : Int),Y 16 [(3,vi x6)] [] no w0 [Box b2 (TU256.cs p1).toArray 24] (K8 x6 = some r) a w) ?_ ?_
 ·refine WP.loop (fun n a w=>∃ (x9 : Int),Y 16 [(1,vp b2 0),(3,vi x9)] [] no w0 [Box b2 (TU256.cs p1).toArray 24] (g_u256_limbs_l1 K8 p1 fuel n x9 = some r) a w) fuel ⟨4,yy H5 [0] h⟩ ?_
  rintro n a w11 ⟨x9,G10,rfl,H12,h⟩
  obtain _ | n:=n
  ·rw [g_u256_limbs_l1] at h; cases h
  rw [g_u256_limbs_l1] at h
  refine zs ?_
  refine zs ?_
  obtain ⟨K15,hK15,h⟩:=js h
  refine WP.onlyN (fun a w=>∃ (c13 : Bool),Y 16 [(1,vp b2 0),(3,vi x9),(12,vb c13)] [] no w0 [Box b2 (TU256.cs p1).toArray 24] (K15 c13 = some r) a w) ?_ ?_
  ·refine zg ?_
   obtain ⟨c16,e,h⟩:=ls h
   refine ze 3 3 [(6,vb c16),(5,vb c16),(4,vi x9)] ?_
   cases c16
   ·replace h:=bf h
    refine zr 6 9 [(12,vb false),(11,Z),(10,Z),(9,Z),(8,Z),(7,Z)] ?_
    refine zd ?_
    exact ⟨false,yy H12 [0] h⟩
   replace h:=bt h
   obtain ⟨x17,e,h⟩:=ls h
   obtain ⟨hg18,h⟩:=gs h
   refine ze 2 5 [(8,vi x17),(7,vi x9)] ?_
   refine zv (va (((⟨b2,0,none⟩ : Addr).add 0).add (Int.toNat x17 * 1))) (lla ((⟨b2,0,none⟩ : Addr).add 0) 4 22 1 .i64 x17 hg18) ?_
   obtain ⟨x19,hx19,h⟩:=bs h
   refine zv (vu x19) (lld 0 (CellsAt.elem fU64 (St.boxAt H12 0 rfl) 0 [p1.e0,p1.e1,p1.e2,p1.e3] [] (by kernel_rfl) _ _ hx19) (le_self _)) ?_
   obtain ⟨c20,e,h⟩:=ls h
   refine ze 2 9 [(12,vb c20),(11,vb c20)] ?_
   refine zd ?_
   exact ⟨c20,yy H12 [0] h⟩
  rintro a w21 ⟨c13,G14,rfl,H22,h⟩
  subst hK15
  refine then_n ?_
  cases c13
  ·replace h:=bf h
   refine zF ?_
   refine WP.exit ?_
   exact then_e (then_e (inb_e (then_n ⟨x9,yy H22 [0] h⟩)))
  replace h:=bt h
  refine zTn ?_
  refine WP.block ?_
  refine zg ?_
  obtain ⟨x23,e,h⟩:=ls h
  refine ze 3 3 [(3,vi x23),(14,vi x23),(13,vi x9)] ?_
  refine zd ?_
  exact inb_n (then_n ⟨n,lS n,x23,yy H22 [0] h⟩)
 rintro a w24 ⟨x6,G7,rfl,H25,h⟩
 subst hK8
 refine then_n ?_
 refine zsg ?_
 refine zrd 2 2 [(2,vi x6),(15,vi x6)] ?_
 refine WP.ret ?_
 obtain rfl:=oi h
 exact post_r (vi x6) rfl (by kernel_rfl) ⟨rfl,sl H25 []⟩
/- math/bits.Len64 -/
def g_math_bits_Len64 (fuel : Nat) (p1 : Int) : Option Int :=
  jn (fun (x2 : Int) (x3 : Int) => jn (fun (x10 : Int) (x11 : Int) => jn (fun (x19 : Int) (x20 : Int) => lt (wr .u8 x19) fun x28 => gd ((0 : Int) ≤ x28 ∧ x28 < slen kstr0) <| lt (sget kstr0 x28) fun x30 => lt (wr .i64 x30) fun x31 => lt (wr .i64 (x20 + x31)) fun x32 => some x32) fun K22 => lt (decide (x10 ≥ 256)) fun c23 => br c23 (lt (ishr .u64 x10 8) fun x24 => lt (wr .i64 (x11 + 8)) fun x25 => K22 x24 x25) (K22 x10 x11)) fun K13 => lt (decide (x2 ≥ 65536)) fun c14 => br c14 (lt (ishr .u64 x2 16) fun x15 => lt (wr .i64 (x3 + 16)) fun x16 => K13 x15 x16) (K13 x2 x3)) fun K5 => lt (decide (p1 ≥ 4294967296)) fun c6 => br c6 (lt (ishr .u64 p1 32) fun x7 => K5 x7 32) (K5 p1 0)
theorem g_math_bits_Len64_w (fuel : Nat) (p1 : Int) (r : Int) (h : g_math_bits_Len64 fuel p1 = some r) (w0 : World) :
 Ret Tryz.prog 100 #[vu p1] w0 (fun v w' => v = vi r ∧ St no w0 w' []) := by
 unfold g_math_bits_Len64 at h
 refine ret_of_wpS Tryz.func100 rfl 25 rfl [(0,vu p1)] (by kernel_rfl) (fun G=>?_)
 have H0:=St.start w0
 refine zsg ?_
 refine zrd 1 1 [(2,vi 0)] ?_
 obtain ⟨K5,hK5,h⟩:=js h
 refine WP.seqJ (fun a w=>∃ (x2 : Int) (x3 : Int),Y 25 [(0,vu x2),(2,vi x3)] [] no w0 [] (K5 x2 x3 = some r) a w) ?_ ?_
 ·refine zsg ?_
  obtain ⟨c6,e,h⟩:=ls h
  refine zed 2 2 [(4,vb c6),(3,vu p1)] ?_
  cases c6
  ·replace h:=bf h
   refine zF ?_
   refine WP.skip ?_
   exact then_n ⟨p1,0,yy H0 [] h⟩
  replace h:=bt h
  refine zT ?_
  refine zsg ?_
  obtain ⟨x7,e,h⟩:=ls h
  refine zed 3 3 [(0,vu x7),(6,vu x7),(5,vu p1)] ?_
  refine zg ?_
  refine zr 1 1 [(2,vi 32)] ?_
  refine zd ?_
  exact then_n ⟨x7,32,yy H0 [] h⟩
 rintro a w8 ⟨x2,x3,G4,rfl,H9,h⟩
 subst hK5
 obtain ⟨K13,hK13,h⟩:=js h
 refine WP.seqJ (fun a w=>∃ (x10 : Int) (x11 : Int),Y 25 [(0,vu x10),(2,vi x11)] [] no w0 [] (K13 x10 x11 = some r) a w) ?_ ?_
 ·refine zsg ?_
  obtain ⟨c14,e,h⟩:=ls h
  refine zed 2 2 [(8,vb c14),(7,vu x2)] ?_
  cases c14
  ·replace h:=bf h
   refine zF ?_
   refine WP.skip ?_
   exact then_n ⟨x2,x3,yy H9 [] h⟩
  replace h:=bt h
  refine zT ?_
  refine zsg ?_
  obtain ⟨x15,e,h⟩:=ls h
  refine zed 3 3 [(0,vu x15),(10,vu x15),(9,vu x2)] ?_
  refine zg ?_
  obtain ⟨x16,e,h⟩:=ls h
  refine ze 3 3 [(2,vi x16),(12,vi x16),(11,vi x3)] ?_
  refine zd ?_
  exact then_n ⟨x15,x16,yy H9 [] h⟩
 rintro a w17 ⟨x10,x11,G12,rfl,H18,h⟩
 subst hK13
 obtain ⟨K22,hK22,h⟩:=js h
 refine WP.seqJ (fun a w=>∃ (x19 : Int) (x20 : Int),Y 25 [(0,vu x19),(2,vi x20)] [] no w0 [] (K22 x19 x20 = some r) a w) ?_ ?_
 ·refine zsg ?_
  obtain ⟨c23,e,h⟩:=ls h
  refine zed 2 2 [(14,vb c23),(13,vu x10)] ?_
  cases c23
  ·replace h:=bf h
   refine zF ?_
   refine WP.skip ?_
   exact then_n ⟨x10,x11,yy H18 [] h⟩
  replace h:=bt h
  refine zT ?_
  refine zsg ?_
  obtain ⟨x24,e,h⟩:=ls h
  refine zed 3 3 [(0,vu x24),(16,vu x24),(15,vu x10)] ?_
  refine zg ?_
  obtain ⟨x25,e,h⟩:=ls h
  refine ze 3 3 [(2,vi x25),(18,vi x25),(17,vi x11)] ?_
  refine zd ?_
  exact then_n ⟨x24,x25,yy H18 [] h⟩
 rintro a w26 ⟨x19,x20,G21,rfl,H27,h⟩
 subst hK22
 refine zsg ?_
 obtain ⟨x28,hx28,h⟩:=ls h
 obtain ⟨hg29,h⟩:=gs h
 obtain ⟨x30,hx30,h⟩:=ls h
 refine zr 3 3 [(21,.int .u8 x28),(20,vu x19),(19,vi x20)] ?_ rfl (fun K=>by subst hx28; kernel_rfl)
 refine WPI.valueS (.int .u8 x30) 22 rfl rfl (by kernel_rfl) (Eq.trans (ev_sidx kstr0 .u8 x28 9 (.const (.string kstr0)) (.tmp 21) rfl (by kernel_rfl) (by kernel_rfl) (by kernel_rfl) hg29) (by rw [← hx30])) ?_
 obtain ⟨x31,hx31,h⟩:=ls h
 obtain ⟨x32,hx32,h⟩:=ls h
 refine zr 3 7 [(2,vi x32),(24,vi x32),(23,vi x31)] ?_ rfl (fun K=>by subst hx32 hx31; kernel_rfl)
 refine zdn ?_
 refine WP.ret ?_
 obtain rfl:=oi h
 exact post_r (vi x32) rfl (by kernel_rfl) ⟨rfl,sl H27 []⟩
/- tarn/u256.Bits -/
def g_u256_Bits (fuel : Nat) (p1 : TU256) : Option Int :=
  bd (g_u256_limbs fuel p1) fun t6 => lt (t6 == 0) fun c10 => br c10 (some 0) (lt (wr .i64 (t6 - 1)) fun x11 => lt (wr .i64 (64 * x11)) fun x12 => lt (wr .i64 (t6 - 1)) fun x13 => gd ((0 : Int) ≤ x13 ∧ x13 < 4) <| bd (([p1.e0, p1.e1, p1.e2, p1.e3] : List Int)[Int.toNat x13]?) fun x15 => bd (g_math_bits_Len64 fuel x15) fun t16 => lt (wr .i64 (x12 + t16)) fun x20 => some x20)
theorem g_u256_Bits_w (fuel : Nat) (p1 : TU256) (r : Int) (h : g_u256_Bits fuel p1 = some r) (w0 : World) :
 Ret Tryz.prog 104 #[TU256.val p1] w0 (fun v w' => v = vi r ∧ St no w0 w' []) := by
 unfold g_u256_Bits at h
 refine ret_of_wpS Tryz.func104 rfl 17 rfl [(0,TU256.val p1)] (by kernel_rfl) (fun G=>?_)
 have H0:=St.start w0
 refine zsg ?_
 refine zo (obx H0 (TU256.cs p1).toArray 24 (fun b2 w4 H5=>?_))
 refine zn ?_
 refine zrd 1 2 [(2,vi 0)] ?_
 refine zsg ?_
 refine zv (TU256.val p1) (llb H5 0 0) ?_
 obtain ⟨t6,ht6,h⟩:=bs h
 refine zo (oca (g_u256_limbs_w fuel p1 t6 ht6 _) ?_)
 rintro _ w7 ⟨rfl,Hc8⟩
 have H9:=St.call0' H5 Hc8
 clear H5 Hc8
 refine zn ?_
 refine zrd 1 3 [(3,vi t6)] ?_
 refine zs ?_
 refine zsg ?_
 obtain ⟨c10,e,h⟩:=ls h
 refine zed 2 2 [(7,vb c10),(6,vi t6)] ?_
 cases c10
 rotate_left
 ·replace h:=bt h
  refine zT ?_
  refine zsg ?_
  refine zrd 1 1 [(2,vi 0)] ?_
  refine WP.ret ?_
  obtain rfl:=oi h
  exact then_r (post_r (vi 0) rfl (by kernel_rfl) ⟨rfl,sl H9 []⟩)
 replace h:=bf h
 refine zFn ?_
 refine zsg ?_
 obtain ⟨x11,hx11,h⟩:=ls h
 obtain ⟨x12,hx12,h⟩:=ls h
 obtain ⟨x13,hx13,h⟩:=ls h
 obtain ⟨hg14,h⟩:=gs h
 refine zr 5 5 [(12,vi x13),(11,vi t6),(10,vi x12),(9,vi x11),(8,vi t6)] ?_ rfl (fun K=>by subst hx13 hx12 hx11; kernel_rfl)
 refine zv (va (((⟨b2,0,none⟩ : Addr).add 0).add (Int.toNat x13 * 1))) (lla ((⟨b2,0,none⟩ : Addr).add 0) 4 22 1 .i64 x13 hg14) ?_
 obtain ⟨x15,hx15,h⟩:=bs h
 refine zv (vu x15) (lld 0 (CellsAt.elem fU64 (St.boxAt H9 0 rfl) 0 [p1.e0,p1.e1,p1.e2,p1.e3] [] (by kernel_rfl) _ _ hx15) (le_self _)) ?_
 obtain ⟨t16,ht16,h⟩:=bs h
 refine zo (oca (g_math_bits_Len64_w fuel x15 t16 ht16 _) ?_)
 rintro _ w17 ⟨rfl,Hc18⟩
 have H19:=St.call0' H9 Hc18
 clear H9 Hc18
 obtain ⟨x20,e,h⟩:=ls h
 refine zn ?_
 refine zed 2 10 [(2,vi x20),(16,vi x20)] ?_
 refine WP.ret ?_
 obtain rfl:=oi h
 exact post_r (vi x20) rfl (by kernel_rfl) ⟨rfl,sl H19 []⟩
/- tarn/u256.Text -/
def g_u256_Text_l1 (x11 : Int) (p1 : TU256) (K20 : (List Int) → Option ByteArray) (fuel : Nat) : Nat → (List Int) → Int → Option ByteArray
  | 0, _, _ => none
  | n + 1, l21, x22 => lt (decide (x22 < (((List.length ((List.replicate (Int.toNat x11) (0 : Int))) : Nat) : Int)))) fun c27 => br c27 (lt (wr .i64 ((((List.length l21 : Nat) : Int)) - 1)) fun x28 => lt (wr .i64 (x28 - x22)) fun x29 => lt (wr .i64 (Int.tdiv x22 8)) fun x30 => gd ((0 : Int) ≤ x30 ∧ x30 < 4) <| bd (([p1.e0, p1.e1, p1.e2, p1.e3] : List Int)[Int.toNat x30]?) fun x32 => lt (Int.tmod x22 8) fun x33 => lt (wr .i64 (x33 * 8)) fun x34 => gd ((0 : Int) ≤ x34) <| lt (ishr .u64 x32 x34) fun x36 => lt (wr .u8 x36) fun x37 => gd ((0 : Int) ≤ x29 ∧ x29 < ((List.length l21 : Nat) : Int)) <| lt (List.set l21 (Int.toNat x29) x37) fun l39 => lt (wr .i64 (x22 + 1)) fun x42 => g_u256_Text_l1 x11 p1 K20 fuel n l39 x42) (K20 l21)
def g_u256_Text (fuel : Nat) (p1 : TU256) : Option ByteArray :=
  bd (g_u256_Bits fuel p1) fun t6 => lt (wr .i64 (t6 + 7)) fun x10 => lt (wr .i64 (Int.tdiv x10 8)) fun x11 => gd ((0 : Int) ≤ x11 ∧ (x11 : Int) * 1 ≤ 140737488355328) <| jn (fun (l18 : List Int) => lt (bsl l18) fun t46 => some t46) fun K20 => g_u256_Text_l1 x11 p1 K20 fuel fuel ((List.replicate (Int.toNat x11) (0 : Int))) 0
theorem g_u256_Text_w (fuel : Nat) (p1 : TU256) (r : ByteArray) (h : g_u256_Text fuel p1 = some r) (w0 : World) :
 Ret Tryz.prog 78 #[TU256.val p1] w0 (fun v w' => v = .string r ∧ St no w0 w' []) := by
 unfold g_u256_Text at h
 refine ret_of_wpS Tryz.func78 rfl 34 rfl [(0,TU256.val p1)] (by kernel_rfl) (fun G=>?_)
 have H0:=St.start w0
 refine zsg ?_
 refine zo (obx H0 (TU256.cs p1).toArray 24 (fun b2 w4 H5=>?_))
 refine zn ?_
 refine zrd 1 2 [(2,.string ((ByteArray.mk #[])))] ?_
 refine zsg ?_
 refine zv (TU256.val p1) (llb H5 0 0) ?_
 obtain ⟨t6,ht6,h⟩:=bs h
 refine zo (oca (g_u256_Bits_w fuel p1 t6 ht6 _) ?_)
 rintro _ w7 ⟨rfl,Hc8⟩
 have H9:=St.call0' H5 Hc8
 clear H5 Hc8
 obtain ⟨x10,hx10,h⟩:=ls h
 obtain ⟨x11,hx11,h⟩:=ls h
 obtain ⟨hg12,h⟩:=gs h
 refine zn ?_
 refine zr 2 4 [(8,vi x11),(7,vi x10)] ?_ rfl (fun K=>by subst hx11 hx10; kernel_rfl)
 refine WPI.op rfl (Op1.make (F:=fU8) (E:=5) H9 (by kernel_rfl) 106 (.tmp 8) (.tmp 8) 1 .i64 x11 rfl (.int .u8 0) (by kernel_rfl) rfl rfl (by kernel_rfl) (by kernel_rfl) hg12 (by decide) (fun s14 w16 H17=>?_))
 clear H9
 have sf15:=Own.isSl (St.get H17 0 rfl)
 refine zn ?_
 refine zrd 1 6 [(3,s14)] ?_
 refine zs ?_
 refine zsg ?_
 refine zr 1 1 [(10,s14)] ?_
 refine zv (vi (((List.length ((List.replicate (Int.toNat x11) (0 : Int))) : Nat) : Int))) (lln sf15 5 1 1) ?_
 refine zrd 1 3 [(12,vi 0)] ?_
 obtain ⟨K20,hK20,h⟩:=js h
 refine WP.blockJ (fun a w=>∃ (l18 : List Int),Y 34 [(3,s14)] [] no w0 [Box b2 (TU256.cs p1).toArray 24,Own fU8 5 s14 l18] (K20 l18 = some r) a w) ?_ ?_
 ·refine WP.loop (fun n a w=>∃ (l21 : List Int) (x22 : Int),Y 34 [(1,vp b2 0),(3,s14),(11,vi (((List.length ((List.replicate (Int.toNat x11) (0 : Int))) : Nat) : Int))),(12,vi x22)] [] no w0 [Box b2 (TU256.cs p1).toArray 24,Own fU8 5 s14 l21] (g_u256_Text_l1 x11 p1 K20 fuel n l21 x22 = some r) a w) fuel ⟨((List.replicate (Int.toNat x11) (0 : Int))),0,yy H17 [1,0] h⟩ ?_
  rintro n a w24 ⟨l21,x22,G23,rfl,H25,h⟩
  obtain _ | n:=n
  ·rw [g_u256_Text_l1] at h; cases h
  rw [g_u256_Text_l1] at h
  have sf26:=Own.isSl (St.get H25 1 rfl)
  refine zsg ?_
  obtain ⟨c27,e,h⟩:=ls h
  refine zed 1 1 [(13,vb c27)] ?_
  refine zs ?_
  cases c27
  ·replace h:=bf h
   refine zF ?_
   refine WP.exit ?_
   exact then_e (then_e (inb_e (then_n ⟨l21,yy H25 [0,1] h⟩)))
  replace h:=bt h
  refine zTn ?_
  refine zs ?_
  refine WP.block ?_
  refine zsg ?_
  refine zrd 2 2 [(4,vi x22),(14,vi x22)] ?_
  refine zg ?_
  refine zr 2 2 [(16,s14),(15,s14)] ?_
  refine zv (vi (((List.length l21 : Nat) : Int))) (lln sf26 5 1 1) ?_
  obtain ⟨x28,hx28,h⟩:=ls h
  obtain ⟨x29,hx29,h⟩:=ls h
  obtain ⟨x30,hx30,h⟩:=ls h
  obtain ⟨hg31,h⟩:=gs h
  refine zr 5 8 [(22,vi x30),(21,vi x22),(20,vi x29),(19,vi x22),(18,vi x28)] ?_ rfl (fun K=>by subst hx30 hx29 hx28; kernel_rfl)
  refine zv (va (((⟨b2,0,none⟩ : Addr).add 0).add (Int.toNat x30 * 1))) (lla ((⟨b2,0,none⟩ : Addr).add 0) 4 22 1 .i64 x30 hg31) ?_
  obtain ⟨x32,hx32,h⟩:=bs h
  refine zv (vu x32) (lld 0 (CellsAt.elem fU64 (St.boxAt H25 0 rfl) 0 [p1.e0,p1.e1,p1.e2,p1.e3] [] (by kernel_rfl) _ _ hx32) (le_self _)) ?_
  obtain ⟨x33,hx33,h⟩:=ls h
  obtain ⟨x34,hx34,h⟩:=ls h
  obtain ⟨hg35,h⟩:=gs h
  obtain ⟨x36,hx36,h⟩:=ls h
  refine zr 3 13 [(27,vi x34),(26,vi x33),(25,vi x22)] ?_ rfl (fun K=>by subst hx34 hx33; kernel_rfl)
  refine WPI.valueS (vu x36) 28 rfl rfl (by kernel_rfl) (Eq.trans (ev_shr .u64 .i64 x32 x34 22 3 (.tmp 24) (.tmp 27) rfl (by kernel_rfl) (by kernel_rfl) hg35) (by rw [← hx36])) ?_
  obtain ⟨x37,e,h⟩:=ls h
  obtain ⟨hg38,h⟩:=gs h
  refine ze 1 15 [(29,.int .u8 x37)] ?_
  refine zv (va (slAt s14 1 (Int.toNat x29))) (lli sf26 5 1 1 .i64 x29 hg38) ?_
  obtain ⟨l39,hl39,h⟩:=ls h
  refine zo (oow H25 1 (Int.toNat x29) x37 false (idx_lt hg38) (fun w40 H41=>?_))
  rw [← hl39] at H41
  clear H25
  refine z0 ?_
  refine zd ?_
  refine inb_n (then_n ?_)
  refine zg ?_
  obtain ⟨x42,e,h⟩:=ls h
  refine ze 2 2 [(12,vi x42),(31,vi x42)] ?_
  refine zd ?_
  exact then_n ⟨n,lS n,l39,x42,yy H41 [1,0] h⟩
 rintro a w43 ⟨l18,G19,rfl,H44,h⟩
 subst hK20
 refine then_n ?_
 refine zsg ?_
 obtain ⟨t46,ht46,h⟩:=ls h
 refine zr 1 1 [(32,s14)] ?_
 refine WPI.valueS (.string t46) 33 rfl rfl (by kernel_rfl) (Eq.trans (ev_b2s (St.rd H44 1 rfl) (hp_no_le _) 106 9 5 (.tmp 32) rfl (by kernel_rfl) (by kernel_rfl) (by kernel_rfl) (by kernel_rfl)) (by rw [← ht46])) ?_
 refine zrd 1 3 [(2,.string t46)] ?_
 refine WP.ret ?_
 obtain rfl:=oi h
 exact post_r (.string t46) rfl (by kernel_rfl) ⟨rfl,sl H44 []⟩
/- tarn/tx.amount -/
def g_tx_amount (fuel : Nat) (p1 : TU256) : Option TItem :=
  bd (g_u256_Text fuel p1) fun t10 => some (TItem.mk false t10 ([]))
theorem g_tx_amount_w (fuel : Nat) (p1 : TU256) (r : TItem) (h : g_tx_amount fuel p1 = some r) (w0 : World) :
 Ret Tryz.prog 58 #[TU256.val p1] w0 (fun v w' => v = .agg #[vb r.List_, .string r.Text, vn] ∧ St no w0 w' []) := by
 unfold g_tx_amount at h
 refine ret_of_wpS Tryz.func58 rfl 6 rfl [(0,TU256.val p1)] (by kernel_rfl) (fun G=>?_)
 have H0:=St.start w0
 refine zsg ?_
 refine zo (obx H0 (TU256.cs p1).toArray 24 (fun b2 w4 H5=>?_))
 refine zn ?_
 refine zo (oal H5 #[vb false,.string ByteArray.empty,vn] 79 (fun b6 w8 H9=>?_))
 clear H5
 refine zn ?_
 refine zdn ?_
 refine zsg ?_
 refine zv (TU256.val p1) (llb H9 1 0) ?_
 obtain ⟨t10,ht10,h⟩:=bs h
 refine zo (oca (g_u256_Text_w fuel p1 t10 ht10 _) ?_)
 rintro _ w11 ⟨rfl,Hc12⟩
 have H13:=St.call0' H9 Hc12
 clear H9 Hc12
 refine zn ?_
 refine zr 1 3 [(5,.agg #[vb false,.string t10,vn])] ?_
 refine zo (osb H13 0 0 (.agg #[vb false,.string t10,vn]) #[vb false,.string t10,vn] true (oc1 rfl (oc1 rfl (oc1 rfl oc0))) (fun w14 H15=>?_))
 clear H13
 refine z0 ?_
 refine zdn ?_
 refine WP.ret ?_
 obtain rfl:=oi h
 exact post_r (.agg #[vb false,.string t10,vn]) rfl (results_cell rfl (by kernel_rfl) (run_loadAt (ad:=(⟨b6,0,none⟩ : Addr)) (off:=0) (St.boxAt H15 0 rfl) (le_self _) (by kernel_rfl))) ⟨rfl,sl H15 []⟩
/- tarn/tx.number -/
def g_tx_number (fuel : Nat) (p1 : Int) : Option TItem :=
  lt (wr .u64 p1) fun x6 => bd (g_tx_amount fuel (TU256.mk x6 0 0 0)) fun t7 => some (TItem.mk t7.List_ t7.Text ([]))
theorem g_tx_number_w (fuel : Nat) (p1 : Int) (r : TItem) (h : g_tx_number fuel p1 = some r) (w0 : World) :
 Ret Tryz.prog 57 #[vi p1] w0 (fun v w' => v = .agg #[vb r.List_, .string r.Text, vn] ∧ St no w0 w' []) := by
 unfold g_tx_number at h
 refine ret_of_wpS Tryz.func57 rfl 7 rfl [(0,vi p1)] (by kernel_rfl) (fun G=>?_)
 have H0:=St.start w0
 refine zsg ?_
 refine zo (oal H0 #[vb false,.string ByteArray.empty,vn] 79 (fun b2 w4 H5=>?_))
 refine zn ?_
 refine zdn ?_
 refine zsg ?_
 obtain ⟨x6,e,h⟩:=ls h
 obtain ⟨t7,ht7,h⟩:=bs h
 refine ze 3 3 [(5,.agg #[vu x6,vu 0,vu 0,vu 0]),(4,vu x6),(3,vi p1)] ?_
 refine zo (oca (g_tx_amount_w fuel (TU256.mk x6 0 0 0) t7 ht7 _) ?_)
 rintro _ w8 ⟨rfl,Hc9⟩
 have H10:=St.call0' H5 Hc9
 clear H5 Hc9
 refine zn ?_
 refine zo (osb H10 0 0 (.agg #[vb t7.List_,.string t7.Text,vn]) #[vb t7.List_,.string t7.Text,vn] true (oc1 rfl (oc1 rfl (oc1 rfl oc0))) (fun w11 H12=>?_))
 clear H10
 refine z0 ?_
 refine zdn ?_
 refine WP.ret ?_
 obtain rfl:=oi h
 exact post_r (.agg #[vb t7.List_,.string t7.Text,vn]) rfl (results_cell rfl (by kernel_rfl) (run_loadAt (ad:=(⟨b2,0,none⟩ : Addr)) (off:=0) (St.boxAt H12 0 rfl) (le_self _) (by kernel_rfl))) ⟨rfl,sl H12 []⟩
/- tarn/item.alone -/
def g_item_alone (fuel : Nat) (p1 : ByteArray) : Option Bool :=
  jn (fun (c2 : Bool) => some c2) fun K4 => lt (((slen p1)) == 1) fun c5 => br c5 (gd ((0 : Int) ≤ 0 ∧ 0 < slen p1) <| lt (sget p1 0) fun x7 => lt (decide (x7 < 128)) fun c8 => K4 c8) (K4 false)
theorem g_item_alone_w (fuel : Nat) (p1 : ByteArray) (r : Bool) (h : g_item_alone fuel p1 = some r) (w0 : World) :
 Ret Tryz.prog 108 #[.string p1] w0 (fun v w' => v = vb r ∧ St no w0 w' []) := by
 unfold g_item_alone at h
 refine ret_of_wpS Tryz.func108 rfl 11 rfl [(0,.string p1)] (by kernel_rfl) (fun G=>?_)
 have H0:=St.start w0
 refine zsg ?_
 refine zrd 1 1 [(2,vb false)] ?_
 refine zs ?_
 obtain ⟨K4,hK4,h⟩:=js h
 refine WP.onlyN (fun a w=>∃ (c2 : Bool),Y 11 [(2,vb c2)] [] no w0 [] (K4 c2 = some r) a w) ?_ ?_
 ·refine zg ?_
  refine zr 1 1 [(3,.string p1)] ?_
  refine WPI.valueS (vi ((slen p1))) 4 rfl rfl (by kernel_rfl) (ev_slen p1 9 (.tmp 3) rfl (by kernel_rfl) (by kernel_rfl)) ?_
  obtain ⟨c5,e,h⟩:=ls h
  refine ze 2 4 [(6,vb c5),(5,vb c5)] ?_
  cases c5
  ·replace h:=bf h
   refine zr 5 9 [(2,vb false),(10,vb false),(9,Z),(8,Z),(7,Z)] ?_
   refine zd ?_
   exact ⟨false,yy H0 [] h⟩
  replace h:=bt h
  obtain ⟨hg6,h⟩:=gs h
  obtain ⟨x7,hx7,h⟩:=ls h
  refine zr 1 5 [(7,.string p1)] ?_
  refine WPI.valueS (.int .u8 x7) 8 rfl rfl (by kernel_rfl) (Eq.trans (ev_sidx p1 .i64 0 9 (.tmp 7) (.const (vi 0)) rfl (by kernel_rfl) (by kernel_rfl) (by kernel_rfl) hg6) (by rw [← hx7])) ?_
  obtain ⟨c8,e,h⟩:=ls h
  refine ze 3 9 [(2,vb c8),(10,vb c8),(9,vb c8)] ?_
  refine zd ?_
  exact ⟨c8,yy H0 [] h⟩
 rintro a w9 ⟨c2,G3,rfl,H10,h⟩
 subst hK4
 refine then_n ?_
 refine WP.ret ?_
 obtain rfl:=oi h
 exact post_r (vb c2) rfl (by kernel_rfl) ⟨rfl,sl H10 []⟩
/- tarn/u256.Of -/
def g_u256_Of (fuel : Nat) (p1 : Int) : Option (TU256 × Int) :=
  lt (decide (p1 < 0)) fun c6 => br c6 (some (TU256.mk 0 0 0 0, 1)) (lt (wr .u64 p1) fun x7 => some (TU256.mk x7 0 0 0, 0))
theorem g_u256_Of_w (fuel : Nat) (p1 : Int) (r : TU256 × Int) (h : g_u256_Of fuel p1 = some r) (w0 : World) :
 Ret Tryz.prog 126 #[vi p1] w0 (fun v w' => v = .tuple #[TU256.val r.1, vi r.2] ∧ St no w0 w' []) := by
 unfold g_u256_Of at h
 refine ret_of_wpS Tryz.func126 rfl 10 rfl [(0,vi p1)] (by kernel_rfl) (fun G=>?_)
 have H0:=St.start w0
 refine zsg ?_
 refine zo (oal H0 #[vu 0,vu 0,vu 0,vu 0] 24 (fun b2 w4 H5=>?_))
 refine zn ?_
 refine zrd 1 2 [(3,vi 0)] ?_
 refine zs ?_
 refine zsg ?_
 obtain ⟨c6,e,h⟩:=ls h
 refine zed 2 2 [(5,vb c6),(4,vi p1)] ?_
 cases c6
 rotate_left
 ·replace h:=bt h
  refine zT ?_
  refine zsg ?_
  refine zr 1 1 [(6,.agg #[vu 0,vu 0,vu 0,vu 0])] ?_
  refine zo (osb H5 0 0 (.agg #[vu 0,vu 0,vu 0,vu 0]) #[vu 0,vu 0,vu 0,vu 0] true (flat_one1 fTU256 (TU256.mk 0 0 0 0)) (fun w10 H11=>?_))
  clear H5
  refine z0 ?_
  refine zrd 1 3 [(3,vi 1)] ?_
  refine WP.ret ?_
  obtain rfl:=oi h
  exact then_r (post_r (.tuple #[.agg #[vu 0,vu 0,vu 0,vu 0],vi 1]) rfl (results_cell_tmp rfl (by kernel_rfl) (by kernel_rfl) (run_loadAt (ad:=(⟨b2,0,none⟩ : Addr)) (off:=0) (St.boxAt H11 0 rfl) (le_self _) (by kernel_rfl))) ⟨rfl,sl H11 []⟩)
 replace h:=bf h
 refine zFn ?_
 refine zsg ?_
 obtain ⟨x7,e,h⟩:=ls h
 refine ze 3 3 [(9,.agg #[vu x7,vu 0,vu 0,vu 0]),(8,vu x7),(7,vi p1)] ?_
 refine zo (osb H5 0 0 (.agg #[vu x7,vu 0,vu 0,vu 0]) #[vu x7,vu 0,vu 0,vu 0] true (flat_one1 fTU256 (TU256.mk x7 0 0 0)) (fun w8 H9=>?_))
 clear H5
 refine z0 ?_
 refine zrd 1 5 [(3,vi 0)] ?_
 refine WP.ret ?_
 obtain rfl:=oi h
 exact post_r (.tuple #[.agg #[vu x7,vu 0,vu 0,vu 0],vi 0]) rfl (results_cell_tmp rfl (by kernel_rfl) (by kernel_rfl) (run_loadAt (ad:=(⟨b2,0,none⟩ : Addr)) (off:=0) (St.boxAt H9 0 rfl) (le_self _) (by kernel_rfl))) ⟨rfl,sl H9 []⟩
/- tarn/item.size -/
def g_item_size (fuel : Nat) (p1 : Int) : Option ByteArray :=
  bd (g_u256_Of fuel p1) fun t2 => bd (g_u256_Text fuel t2.1) fun t12 => some t12
theorem g_item_size_w (fuel : Nat) (p1 : Int) (r : ByteArray) (h : g_item_size fuel p1 = some r) (w0 : World) :
 Ret Tryz.prog 123 #[vi p1] w0 (fun v w' => v = .string r ∧ St no w0 w' []) := by
 unfold g_item_size at h
 refine ret_of_wpS Tryz.func123 rfl 12 rfl [(0,vi p1)] (by kernel_rfl) (fun G=>?_)
 have H0:=St.start w0
 refine zsg ?_
 refine zrd 1 1 [(2,.string ((ByteArray.mk #[])))] ?_
 refine zsg ?_
 obtain ⟨t2,ht2,h⟩:=bs h
 refine zr 1 1 [(6,vi p1)] ?_
 refine zo (oca (g_u256_Of_w fuel p1 t2 ht2 _) ?_)
 rintro _ w3 ⟨rfl,Hc4⟩
 have H5:=St.call0' H0 Hc4
 clear Hc4
 refine zn ?_
 refine zr 3 5 [(9,vi t2.2),(8,TU256.val t2.1),(5,.tuple #[TU256.val t2.1,vi t2.2])] ?_
 refine zo (oal H5 #[vu 0,vu 0,vu 0,vu 0] 24 (fun b6 w8 H9=>?_))
 clear H5
 refine zn ?_
 refine zo (osb H9 0 0 (TU256.val t2.1) (TU256.cs t2.1).toArray true (flat_one1 fTU256 t2.1) (fun w10 H11=>?_))
 clear H9
 refine z0 ?_
 refine zrd 1 8 [(4,vi t2.2)] ?_
 refine zsg ?_
 refine zv (TU256.val t2.1) (llb H11 0 0) ?_
 obtain ⟨t12,ht12,h⟩:=bs h
 refine zo (oca (g_u256_Text_w fuel t2.1 t12 ht12 _) ?_)
 rintro _ w13 ⟨rfl,Hc14⟩
 have H15:=St.call0' H11 Hc14
 clear H11 Hc14
 refine zn ?_
 refine zrd 1 3 [(2,.string t12)] ?_
 refine WP.ret ?_
 obtain rfl:=oi h
 exact post_r (.string t12) rfl (by kernel_rfl) ⟨rfl,sl H15 []⟩
/- tarn/item.ahead -/
def g_item_ahead (fuel : Nat) (p1 : Int) : Option Int :=
  lt (decide (p1 ≤ 55)) fun c2 => br c2 (some 1) (bd (g_item_size fuel p1) fun t3 => lt (wr .i64 (1 + ((slen t3)))) fun x7 => some x7)
theorem g_item_ahead_w (fuel : Nat) (p1 : Int) (r : Int) (h : g_item_ahead fuel p1 = some r) (w0 : World) :
 Ret Tryz.prog 120 #[vi p1] w0 (fun v w' => v = vi r ∧ St no w0 w' []) := by
 unfold g_item_ahead at h
 refine ret_of_wpS Tryz.func120 rfl 9 rfl [(0,vi p1)] (by kernel_rfl) (fun G=>?_)
 have H0:=St.start w0
 refine zsg ?_
 refine zrd 1 1 [(2,vi 0)] ?_
 refine zs ?_
 refine zsg ?_
 obtain ⟨c2,e,h⟩:=ls h
 refine zed 2 2 [(4,vb c2),(3,vi p1)] ?_
 cases c2
 rotate_left
 ·replace h:=bt h
  refine zT ?_
  refine zsg ?_
  refine zrd 1 1 [(2,vi 1)] ?_
  refine WP.ret ?_
  obtain rfl:=oi h
  exact then_r (post_r (vi 1) rfl (by kernel_rfl) ⟨rfl,sl H0 []⟩)
 replace h:=bf h
 refine zFn ?_
 refine zsg ?_
 obtain ⟨t3,ht3,h⟩:=bs h
 refine zr 1 1 [(5,vi p1)] ?_
 refine zo (oca (g_item_size_w fuel p1 t3 ht3 _) ?_)
 rintro _ w4 ⟨rfl,Hc5⟩
 have H6:=St.call0' H0 Hc5
 clear Hc5
 refine zn ?_
 refine WPI.valueS (vi ((slen t3))) 7 rfl rfl (by kernel_rfl) (ev_slen t3 9 (.tmp 6) rfl (by kernel_rfl) (by kernel_rfl)) ?_
 obtain ⟨x7,e,h⟩:=ls h
 refine zed 2 5 [(2,vi x7),(8,vi x7)] ?_
 refine WP.ret ?_
 obtain rfl:=oi h
 exact post_r (vi x7) rfl (by kernel_rfl) ⟨rfl,sl H6 []⟩
/- tarn/item.long -/
def g_item_long_l1 (p1 : TItem) (p4 : Int) (self : (TItem → Int → Option (Int × Bool))) (K37 : Int → Option (Int × Bool)) (fuel : Nat) : Nat → Int → Int → Option (Int × Bool)
  | 0, _, _ => none
  | n + 1, x38, x39 => lt (decide (x39 < (((List.length p1.Items : Nat) : Int)))) fun c43 => br c43 (gd ((0 : Int) ≤ x39 ∧ x39 < ((List.length p1.Items : Nat) : Int)) <| bd (p1.Items[Int.toNat x39]?) fun x45 => lt (wr .i64 (p4 + 1)) fun x57 => bd (self x45 x57) fun t58 => lt (wr .i64 (x38 + t58.1)) fun x62 => jn (fun (c63 : Bool) => br c63 (some (0, false)) (lt (wr .i64 (x39 + 1)) fun x70 => g_item_long_l1 p1 p4 self K37 fuel n x62 x70)) fun K65 => lt (!t58.2) fun c66 => br c66 (K65 true) (lt (decide (x62 > 65536)) fun c67 => K65 c67)) (K37 x38)
def g_item_long : Nat → TItem → Int → Option (Int × Bool)
  | 0, _, _ => none
  | fuel + 1, p1, p4 => (fun (self : (TItem → Int → Option (Int × Bool))) => jn (fun (c9 : Bool) => br c9 (some (0, false)) (jn (fun (c17 : Bool) => br c17 (some (1, true)) (lt (!p1.List_) fun c27 => br c27 (bd (g_item_ahead fuel ((slen p1.Text))) fun t79 => lt (wr .i64 (((slen p1.Text)) + t79)) fun x80 => lt (decide (x80 ≤ 65536)) fun c83 => some (x80, c83)) (jn (fun (c28 : Bool) => br c28 (some (0, false)) (jn (fun (x35 : Int) => bd (g_item_ahead fuel x35) fun t73 => lt (wr .i64 (x35 + t73)) fun x77 => lt (decide (x77 ≤ 65536)) fun c78 => some (x77, c78)) fun K37 => g_item_long_l1 p1 p4 self K37 fuel fuel 0 0)) fun K30 => lt (!(seq p1.Text ((ByteArray.mk #[])))) fun c31 => br c31 (K30 true) (lt (decide (p4 ≥ 16)) fun c32 => K30 c32)))) fun K19 => lt (!p1.List_) fun c20 => br c20 (bd (g_item_alone fuel p1.Text) fun t21 => K19 t21) (K19 false))) fun K11 => lt (!p1.List_) fun c12 => br c12 (lt (decide ((((List.length p1.Items : Nat) : Int)) > 0)) fun c13 => br c13 (K11 true) (lt (decide (((slen p1.Text)) > 65536)) fun c14 => K11 c14)) (K11 false)) (g_item_long fuel)
theorem g_item_long_w : ∀ (fuel : Nat) (s2 : Value) (p1 : TItem) (p4 : Int) (r : Int × Bool) (h : g_item_long fuel p1 p4 = some r) (w0 : World) (hs3 : RdD dTItem (hp no w0) s2 p1.Items),
 Ret Tryz.prog 105 #[.agg #[vb p1.List_, .string p1.Text, s2], vi p4] w0 (fun v w' => v = .tuple #[vi r.1, vb r.2] ∧ St no w0 w' []) := by
 intro fuel
 induction fuel with
 | zero=>intro s2 p1 p4 r h w0 hs3; unfold g_item_long at h; cases h
 | succ fuel ih =>
  intro s2 p1 p4 r h w0 hs3
  rw [g_item_long] at h
  have ih:=ih
  refine ret_of_wpS Tryz.func105 rfl 91 rfl [(0,.agg #[vb p1.List_,.string p1.Text,s2]),(1,vi p4)] (by kernel_rfl) (fun G=>?_)
  have H0:=St.start w0
  refine zsg ?_
  refine zo (obx H0 #[vb p1.List_,.string p1.Text,s2] 79 (fun b5 w7 H8=>?_))
  refine zn ?_
  refine zrd 2 3 [(5,vb false),(4,vi 0)] ?_
  refine zs ?_
  refine WP.block ?_
  refine zs ?_
  obtain ⟨K11,hK11,h⟩:=js h
  refine WP.onlyN (fun a w=>∃ (c9 : Bool),Y 91 [(1,vi p4),(2,vp b5 0),(12,vb c9)] [] no w0 [Box b5 #[vb p1.List_,.string p1.Text,s2] 79] (K11 c9 = some r) a w) ?_ ?_
  ·refine zg ?_
   refine zr 1 1 [(13,vp b5 0)] ?_
   refine zv (vb p1.List_) (llb H8 0 0) ?_
   obtain ⟨c12,e,h⟩:=ls h
   refine ze 2 4 [(16,vb c12),(15,vb c12)] ?_
   cases c12
   ·replace h:=bf h
    refine zr 12 16 [(12,vb false),(27,vb false),(26,Z),(25,Z),(24,Z),(23,Z),(22,Z),(21,Z),(20,Z),(19,Z),(18,Z),(17,Z)] ?_
    refine zd ?_
    exact ⟨false,yy H8 [0] h⟩
   replace h:=bt h
   refine zr 1 5 [(17,vp b5 2)] ?_
   refine zv (s2) (llb H8 0 2) ?_
   refine zv (vi (((List.length p1.Items : Nat) : Int))) (lln (RdD.sl hs3) 79 3 48) ?_
   obtain ⟨c13,e,h⟩:=ls h
   refine ze 2 9 [(21,vb c13),(20,vb c13)] ?_
   cases c13
   rotate_left
   ·replace h:=bt h
    refine zr 7 16 [(12,vb true),(27,vb true),(26,vb true),(25,Z),(24,Z),(23,Z),(22,Z)] ?_
    refine zd ?_
    exact ⟨true,yy H8 [0] h⟩
   replace h:=bf h
   refine zr 1 10 [(22,vp b5 1)] ?_
   refine zv (.string p1.Text) (llb H8 0 1) ?_
   refine WPI.valueS (vi ((slen p1.Text))) 24 rfl rfl (by kernel_rfl) (ev_slen p1.Text 9 (.tmp 23) rfl (by kernel_rfl) (by kernel_rfl)) ?_
   obtain ⟨c14,e,h⟩:=ls h
   refine ze 4 16 [(12,vb c14),(27,vb c14),(26,vb c14),(25,vb c14)] ?_
   refine zd ?_
   exact ⟨c14,yy H8 [0] h⟩
  rintro a w15 ⟨c9,G10,rfl,H16,h⟩
  subst hK11
  refine then_n ?_
  cases c9
  rotate_left
  ·replace h:=bt h
   refine zT ?_
   refine zsg ?_
   refine zrd 2 2 [(5,vb false),(4,vi 0)] ?_
   refine WP.ret ?_
   obtain rfl:=oi h
   exact inb_r (then_r (post_r (.tuple #[vi 0,vb false]) rfl (by kernel_rfl) ⟨rfl,sl H16 []⟩))
  replace h:=bf h
  refine zF ?_
  refine zs ?_
  obtain ⟨K19,hK19,h⟩:=js h
  refine WP.onlyN (fun a w=>∃ (c17 : Bool),Y 91 [(1,vi p4),(2,vp b5 0),(28,vb c17)] [] no w0 [Box b5 #[vb p1.List_,.string p1.Text,s2] 79] (K19 c17 = some r) a w) ?_ ?_
  ·refine zg ?_
   refine zr 1 1 [(29,vp b5 0)] ?_
   refine zv (vb p1.List_) (llb H16 0 0) ?_
   obtain ⟨c20,e,h⟩:=ls h
   refine ze 2 4 [(32,vb c20),(31,vb c20)] ?_
   cases c20
   ·replace h:=bf h
    refine zr 5 9 [(28,vb false),(36,vb false),(35,Z),(34,Z),(33,Z)] ?_
    refine zd ?_
    exact ⟨false,yy H16 [0] h⟩
   replace h:=bt h
   refine zr 1 5 [(33,vp b5 1)] ?_
   refine zv (.string p1.Text) (llb H16 0 1) ?_
   obtain ⟨t21,ht21,h⟩:=bs h
   refine zo (oca (g_item_alone_w fuel p1.Text t21 ht21 _) ?_)
   rintro _ w22 ⟨rfl,Hc23⟩
   have H24:=St.call0' H16 Hc23
   clear H16 Hc23
   refine zn ?_
   refine zr 2 9 [(28,vb t21),(36,vb t21)] ?_
   refine zd ?_
   exact ⟨t21,yy H24 [0] h⟩
  rintro a w25 ⟨c17,G18,rfl,H26,h⟩
  subst hK19
  refine then_n ?_
  cases c17
  rotate_left
  ·replace h:=bt h
   refine zT ?_
   refine zsg ?_
   refine zrd 2 2 [(5,vb true),(4,vi 1)] ?_
   refine WP.ret ?_
   obtain rfl:=oi h
   exact inb_r (then_r (post_r (.tuple #[vi 1,vb true]) rfl (by kernel_rfl) ⟨rfl,sl H26 []⟩))
  replace h:=bf h
  refine zF ?_
  refine zsg ?_
  refine zr 1 1 [(38,vp b5 0)] ?_
  refine zv (vb p1.List_) (llb H26 0 0) ?_
  obtain ⟨c27,e,h⟩:=ls h
  refine zed 2 4 [(37,vb c27),(40,vb c27)] ?_
  cases c27
  rotate_left
  ·replace h:=bt h
   refine zT ?_
   refine zs ?_
   refine WP.quiet (by kernel_rfl) (by kernel_rfl) (by kernel_rfl) (fun w=>St no w0 w [Box b5 #[vb p1.List_,.string p1.Text,s2] 79]) (St.drew H26) ?_
   refine qr 1 1 [(41,vp b5 1)] ?_
   refine qv (.string p1.Text) (fun w H=>llb H 0 1) ?_
   refine WQ.valueS (vi ((slen p1.Text))) 43 rfl rfl (by kernel_rfl) (fun w H=>ev_slen p1.Text 9 (.tmp 42) rfl (by kernel_rfl) (by kernel_rfl)) ?_
   refine qr 1 4 [(44,vp b5 1)] ?_
   refine qv (.string p1.Text) (fun w H=>llb H 0 1) ?_
   refine WQ.valueS (vi ((slen p1.Text))) 46 rfl rfl (by kernel_rfl) (fun w H=>ev_slen p1.Text 9 (.tmp 45) rfl (by kernel_rfl) (by kernel_rfl)) ?_
   obtain ⟨t79,ht79,h⟩:=bs h
   refine qc (vi t79) (fun w H=>Ret.mono (g_item_ahead_w fuel ((slen p1.Text)) t79 ht79 _) fun u w1 hu=>⟨hu.1,St.call0' H hu.2⟩) ?_
   obtain ⟨x80,e,h⟩:=ls h
   refine qe 2 9 [(6,vi x80),(48,vi x80)] ?_
   refine qd fun w81 H82=>?_
   refine then_n ?_
   refine zsg ?_
   obtain ⟨c83,e,h⟩:=ls h
   refine zed 5 5 [(5,vb c83),(4,vi x80),(51,vb c83),(50,vi x80),(49,vi x80)] ?_
   refine WP.ret ?_
   obtain rfl:=oi h
   exact inb_r (then_r (post_r (.tuple #[vi x80,vb c83]) rfl (by kernel_rfl) ⟨rfl,sl H82 []⟩))
  replace h:=bf h
  refine zF ?_
  refine zs ?_
  obtain ⟨K30,hK30,h⟩:=js h
  refine WP.onlyN (fun a w=>∃ (c28 : Bool),Y 91 [(1,vi p4),(2,vp b5 0),(52,vb c28)] [] no w0 [Box b5 #[vb p1.List_,.string p1.Text,s2] 79] (K30 c28 = some r) a w) ?_ ?_
  ·refine zg ?_
   refine zr 1 1 [(53,vp b5 1)] ?_
   refine zv (.string p1.Text) (llb H26 0 1) ?_
   obtain ⟨c31,e,h⟩:=ls h
   refine ze 2 4 [(56,vb c31),(55,vb c31)] ?_
   cases c31
   rotate_left
   ·replace h:=bt h
    refine zr 4 8 [(52,vb true),(59,vb true),(58,Z),(57,Z)] ?_
    refine zd ?_
    exact ⟨true,yy H26 [0] h⟩
   replace h:=bf h
   obtain ⟨c32,e,h⟩:=ls h
   refine ze 4 8 [(52,vb c32),(59,vb c32),(58,vb c32),(57,vi p4)] ?_
   refine zd ?_
   exact ⟨c32,yy H26 [0] h⟩
  rintro a w33 ⟨c28,G29,rfl,H34,h⟩
  subst hK30
  refine then_n ?_
  cases c28
  rotate_left
  ·replace h:=bt h
   refine zT ?_
   refine zsg ?_
   refine zrd 2 2 [(5,vb false),(4,vi 0)] ?_
   refine WP.ret ?_
   obtain rfl:=oi h
   exact inb_r (then_r (post_r (.tuple #[vi 0,vb false]) rfl (by kernel_rfl) ⟨rfl,sl H34 []⟩))
  replace h:=bf h
  refine zF ?_
  refine WP.skip ?_
  refine inb_n (then_n ?_)
  refine zsg ?_
  refine zrd 1 1 [(7,vi 0)] ?_
  refine zs ?_
  refine zsg ?_
  refine zr 1 1 [(60,vp b5 2)] ?_
  refine zv (s2) (llb H34 0 2) ?_
  refine zv (vi (((List.length p1.Items : Nat) : Int))) (lln (RdD.sl hs3) 79 3 48) ?_
  refine zrd 1 4 [(63,vi 0)] ?_
  obtain ⟨K37,hK37,h⟩:=js h
  refine WP.blockJ (fun a w=>∃ (x35 : Int),Y 91 [(7,vi x35)] [] no w0 [Box b5 #[vb p1.List_,.string p1.Text,s2] 79] (K37 x35 = some r) a w) ?_ ?_
  ·refine WP.loop (fun n a w=>∃ (x38 : Int) (x39 : Int),Y 91 [(1,vi p4),(7,vi x38),(61,s2),(62,vi (((List.length p1.Items : Nat) : Int))),(63,vi x39)] [] no w0 [Box b5 #[vb p1.List_,.string p1.Text,s2] 79] (g_item_long_l1 p1 p4 (g_item_long fuel) K37 fuel n x38 x39 = some r) a w) fuel ⟨0,0,yy H34 [0] h⟩ ?_
   rintro n a w41 ⟨x38,x39,G40,rfl,H42,h⟩
   obtain _ | n:=n
   ·rw [g_item_long_l1] at h; cases h
   rw [g_item_long_l1] at h
   refine zsg ?_
   obtain ⟨c43,e,h⟩:=ls h
   refine zed 1 1 [(64,vb c43)] ?_
   refine zs ?_
   cases c43
   ·replace h:=bf h
    refine zF ?_
    refine WP.exit ?_
    exact then_e (then_e (inb_e (then_n ⟨x38,yy H42 [0] h⟩)))
   replace h:=bt h
   refine zTn ?_
   refine zs ?_
   refine WP.block ?_
   refine zsg ?_
   obtain ⟨hg44,h⟩:=gs h
   refine zv (va (slAt s2 3 (Int.toNat x39))) (lli (RdD.sl hs3) 79 3 48 .i64 x39 hg44) ?_
   obtain ⟨x45,hx45,h⟩:=bs h
   obtain ⟨c48,hr49,hc50⟩:=RdD.at_ hs3 _ _ hx45
   obtain ⟨s46,rfl,hs47⟩:=rTItem.opn hr49
   refine zv (.agg #[vb x45.List_,.string x45.Text,s46]) (lld 0 hc50 (St.hp_le H42)) ?_
   refine zo (oal H42 #[vb false,.string ByteArray.empty,vn] 79 (fun b51 w53 H54=>?_))
   clear H42
   refine zn ?_
   refine zo (osb H54 0 0 (.agg #[vb x45.List_,.string x45.Text,s46]) #[vb x45.List_,.string x45.Text,s46] true (oc1 rfl (oc1 rfl (oc1 (IsSl.one (RdD.sl hs47)) oc0))) (fun w55 H56=>?_))
   clear H54
   refine z0 ?_
   refine zdn ?_
   refine zsg ?_
   refine zv (.agg #[vb x45.List_,.string x45.Text,s46]) (llb H56 0 0) ?_
   obtain ⟨x57,e,h⟩:=ls h
   obtain ⟨t58,ht58,h⟩:=bs h
   refine ze 2 3 [(70,vi x57),(69,vi p4)] ?_
   refine zo (oca (ih s46 x45 x57 t58 ht58 _ (RdD.mono (sub_hp (St.hp_le H56)) hs47)) ?_)
   rintro _ w59 ⟨rfl,Hc60⟩
   have H61:=St.call0' H56 Hc60
   clear H56 Hc60
   refine zn ?_
   refine zrd 5 9 [(11,vb t58.2),(10,vi t58.1),(73,vb t58.2),(72,vi t58.1),(67,.tuple #[vi t58.1,vb t58.2])] ?_
   refine zsg ?_
   obtain ⟨x62,e,h⟩:=ls h
   refine zed 4 4 [(7,vi x62),(76,vi x62),(75,vi t58.1),(74,vi x38)] ?_
   refine zs ?_
   obtain ⟨K65,hK65,h⟩:=js h
   refine WP.onlyN (fun a w=>∃ (c63 : Bool),Y 91 [(1,vi p4),(7,vi x62),(61,s2),(62,vi (((List.length p1.Items : Nat) : Int))),(63,vi x39),(82,vb c63)] [] no w0 [Box b51 #[vb x45.List_,.string x45.Text,s46] 79,Box b5 #[vb p1.List_,.string p1.Text,s2] 79] (K65 c63 = some r) a w) ?_ ?_
   ·refine zg ?_
    obtain ⟨c66,e,h⟩:=ls h
    refine ze 3 3 [(79,vb c66),(78,vb c66),(77,vb t58.2)] ?_
    cases c66
    rotate_left
    ·replace h:=bt h
     refine zr 3 6 [(82,vb true),(81,Z),(80,Z)] ?_
     refine zd ?_
     exact ⟨true,yy H61 [0,1] h⟩
    replace h:=bf h
    obtain ⟨c67,e,h⟩:=ls h
    refine ze 3 6 [(82,vb c67),(81,vb c67),(80,vi x62)] ?_
    refine zd ?_
    exact ⟨c67,yy H61 [0,1] h⟩
   rintro a w68 ⟨c63,G64,rfl,H69,h⟩
   subst hK65
   refine then_n ?_
   cases c63
   ·replace h:=bf h
    refine zF ?_
    refine WP.skip ?_
    refine inb_n (then_n ?_)
    refine zg ?_
    obtain ⟨x70,e,h⟩:=ls h
    refine ze 2 2 [(63,vi x70),(83,vi x70)] ?_
    refine zd ?_
    exact then_n ⟨n,lS n,x62,x70,yy H69 [1] h⟩
   replace h:=bt h
   refine zT ?_
   refine zsg ?_
   refine zrd 2 2 [(5,vb false),(4,vi 0)] ?_
   refine WP.ret ?_
   obtain rfl:=oi h
   exact inb_r (then_r (then_r (inb_r (then_r (then_r (post_r (.tuple #[vi 0,vb false]) rfl (by kernel_rfl) ⟨rfl,sl H69 []⟩))))))
  rintro a w71 ⟨x35,G36,rfl,H72,h⟩
  subst hK37
  refine then_n ?_
  refine zsg ?_
  obtain ⟨t73,ht73,h⟩:=bs h
  refine zr 2 2 [(85,vi x35),(84,vi x35)] ?_
  refine zo (oca (g_item_ahead_w fuel x35 t73 ht73 _) ?_)
  rintro _ w74 ⟨rfl,Hc75⟩
  have H76:=St.call0' H72 Hc75
  clear H72 Hc75
  obtain ⟨x77,e,h⟩:=ls h
  refine zn ?_
  refine zed 2 5 [(7,vi x77),(87,vi x77)] ?_
  refine zsg ?_
  obtain ⟨c78,e,h⟩:=ls h
  refine zed 5 5 [(5,vb c78),(4,vi x77),(90,vb c78),(89,vi x77),(88,vi x77)] ?_
  refine WP.ret ?_
  obtain rfl:=oi h
  exact post_r (.tuple #[vi x77,vb c78]) rfl (by kernel_rfl) ⟨rfl,sl H76 []⟩
/- tarn/item.Check -/
def g_item_Check (fuel : Nat) (p1 : TItem) : Option Int :=
  bd (g_item_long fuel p1 0) fun t8 => lt (!t8.2) fun c12 => br c12 (some 1) (some 0)
theorem g_item_Check_w (fuel : Nat) (s2 : Value) (p1 : TItem) (r : Int) (h : g_item_Check fuel p1 = some r) (w0 : World) (hs3 : RdD dTItem (hp no w0) s2 p1.Items) :
 Ret Tryz.prog 79 #[.agg #[vb p1.List_, .string p1.Text, s2]] w0 (fun v w' => v = vi r ∧ St no w0 w' []) := by
 unfold g_item_Check at h
 refine ret_of_wpS Tryz.func79 rfl 12 rfl [(0,.agg #[vb p1.List_,.string p1.Text,s2])] (by kernel_rfl) (fun G=>?_)
 have H0:=St.start w0
 refine zsg ?_
 refine zo (obx H0 #[vb p1.List_,.string p1.Text,s2] 79 (fun b4 w6 H7=>?_))
 refine zn ?_
 refine zrd 1 2 [(2,vi 0)] ?_
 refine zs ?_
 refine zsg ?_
 refine zv (.agg #[vb p1.List_,.string p1.Text,s2]) (llb H7 0 0) ?_
 obtain ⟨t8,ht8,h⟩:=bs h
 refine zo (oca (g_item_long_w fuel s2 p1 0 t8 ht8 _ (RdD.mono (sub_hp (St.hp_le H7)) hs3)) ?_)
 rintro _ w9 ⟨rfl,Hc10⟩
 have H11:=St.call0' H7 Hc10
 clear H7 Hc10
 refine zn ?_
 refine zrd 5 7 [(4,vb t8.2),(3,vi t8.1),(9,vb t8.2),(8,vi t8.1),(5,.tuple #[vi t8.1,vb t8.2])] ?_
 refine zsg ?_
 obtain ⟨c12,e,h⟩:=ls h
 refine zed 2 2 [(11,vb c12),(10,vb t8.2)] ?_
 cases c12
 ·replace h:=bf h
  refine zFn ?_
  refine zsg ?_
  refine zrd 1 1 [(2,vi 0)] ?_
  refine WP.ret ?_
  obtain rfl:=oi h
  exact post_r (vi 0) rfl (by kernel_rfl) ⟨rfl,sl H11 []⟩
 replace h:=bt h
 refine zT ?_
 refine zsg ?_
 refine zrd 1 1 [(2,vi 1)] ?_
 refine WP.ret ?_
 obtain rfl:=oi h
 exact then_r (post_r (vi 1) rfl (by kernel_rfl) ⟨rfl,sl H11 []⟩)
/- tarn/item.front -/
def g_item_front (fuel : Nat) (l2 : List Int) (p4 : Int) (p5 : Int) : Option (List Int) :=
  lt (decide (p5 ≤ 55)) fun c7 => br c7 (lt (wr .i64 (p4 + p5)) fun x32 => lt (wr .u8 x32) fun x33 => gd ((List.length l2 + List.length (([x33] : List Int))) * 1 ≤ 140737488355328) <| lt (l2 ++ (([x33] : List Int))) fun l40 => some l40) (bd (g_item_size fuel p5) fun t8 => lt (wr .i64 (p4 + 55)) fun x12 => lt (wr .i64 (x12 + ((slen t8)))) fun x13 => lt (wr .u8 x13) fun x14 => gd ((List.length l2 + List.length (([x14] : List Int))) * 1 ≤ 140737488355328) <| lt (l2 ++ (([x14] : List Int))) fun l21 => gd ((List.length l21 + List.length (lsb t8)) * 1 ≤ 140737488355328) <| lt (l21 ++ lsb t8) fun l27 => some l27)
theorem g_item_front_w (fuel : Nat) (s1 : Value) (l2 : List Int) (p4 : Int) (p5 : Int) (r : List Int) (h : g_item_front fuel l2 p4 p5 = some r) (w0 : World) (hm : (Own fU8 5 s1 l2).holds w0) :
 Ret Tryz.prog 107 #[s1, vi p4, vi p5] w0 (fun v w' => ∃ (q0 : Value), v = q0 ∧ St (Own fU8 5 s1 l2).fp w0 w' [Own fU8 5 q0 r]) := by
 unfold g_item_front at h
 refine ret_of_wpS Tryz.func107 rfl 30 rfl [(0,s1),(1,vi p4),(2,vi p5)] (by kernel_rfl) (fun G=>?_)
 have H0:=St.start1 hm
 refine zsg ?_
 refine zrd 1 1 [(6,vn)] ?_
 refine zs ?_
 refine zsg ?_
 obtain ⟨c7,e,h⟩:=ls h
 refine zed 2 2 [(9,vb c7),(8,vi p5)] ?_
 cases c7
 rotate_left
 ·replace h:=bt h
  refine zT ?_
  refine zsg ?_
  obtain ⟨x32,hx32,h⟩:=ls h
  obtain ⟨x33,hx33,h⟩:=ls h
  refine zr 5 5 [(14,.int .u8 x33),(13,vi x32),(12,vi p5),(11,vi p4),(10,s1)] ?_ rfl (fun K=>by subst hx33 hx32; kernel_rfl)
  refine WPI.op rfl (Op1.lit (F:=fU8) (E:=5) H0 (by kernel_rfl) ([x33] : List Int) (fun w=>by kernel_rfl) (by simp [maxLen]) (fun s35 w37 H38=>?_))
  obtain ⟨hg39,h⟩:=gs h
  obtain ⟨l40,hl40,h⟩:=ls h
  refine zn ?_
  refine WPI.op rfl (Op1.append (F:=fU8) H38 1 rfl (by kernel_rfl) 106 (.tmp 10) (.tmp 15) 1 rfl (by kernel_rfl) (by kernel_rfl) s35 (([x33] : List Int)) (St.rd H38 0 rfl) (hp_no_le _) (by kernel_rfl) (app_len hg39 (by decide)) (fun s41 w43 H44=>?_))
  rw [← hl40] at H44
  clear H38
  refine zn ?_
  refine zrd 1 8 [(6,s41)] ?_
  refine WP.ret ?_
  obtain rfl:=oi h
  exact then_r (post_r (s41) rfl (by kernel_rfl) ⟨s41,rfl,sl H44 [0]⟩)
 replace h:=bf h
 refine zFn ?_
 refine zsg ?_
 obtain ⟨t8,ht8,h⟩:=bs h
 refine zr 1 1 [(17,vi p5)] ?_
 refine zo (oca (g_item_size_w fuel p5 t8 ht8 _) ?_)
 rintro _ w9 ⟨rfl,Hc10⟩
 have H11:=St.call0' H0 Hc10
 clear Hc10
 refine zn ?_
 refine zrd 1 3 [(7,.string t8)] ?_
 refine zsg ?_
 obtain ⟨x12,e,h⟩:=ls h
 refine ze 4 4 [(22,.string t8),(21,vi x12),(20,vi p4),(19,s1)] ?_
 refine WPI.valueS (vi ((slen t8))) 23 rfl rfl (by kernel_rfl) (ev_slen t8 9 (.tmp 22) rfl (by kernel_rfl) (by kernel_rfl)) ?_
 obtain ⟨x13,hx13,h⟩:=ls h
 obtain ⟨x14,hx14,h⟩:=ls h
 refine zr 2 7 [(25,.int .u8 x14),(24,vi x13)] ?_ rfl (fun K=>by subst hx14 hx13; kernel_rfl)
 refine WPI.op rfl (Op1.lit (F:=fU8) (E:=5) H11 (by kernel_rfl) ([x14] : List Int) (fun w=>by kernel_rfl) (by simp [maxLen]) (fun s16 w18 H19=>?_))
 clear H11
 obtain ⟨hg20,h⟩:=gs h
 obtain ⟨l21,hl21,h⟩:=ls h
 refine zn ?_
 refine WPI.op rfl (Op1.append (F:=fU8) H19 1 rfl (by kernel_rfl) 106 (.tmp 19) (.tmp 26) 1 rfl (by kernel_rfl) (by kernel_rfl) s16 (([x14] : List Int)) (St.rd H19 0 rfl) (hp_no_le _) (by kernel_rfl) (app_len hg20 (by decide)) (fun s22 w24 H25=>?_))
 rw [← hl21] at H25
 clear H19
 obtain ⟨hg26,h⟩:=gs h
 obtain ⟨l27,hl27,h⟩:=ls h
 refine zn ?_
 refine zr 1 10 [(28,.string t8)] ?_
 refine WPI.op rfl (Op1.appendG (F:=fU8) H25 0 rfl (by kernel_rfl) 106 9 (.tmp 27) (.tmp 28) 1 rfl (by kernel_rfl) (by kernel_rfl) (.string t8) (lsb t8) (fun z=>src_str t8 (by kernel_rfl) z) (by kernel_rfl) (app_len hg26 (by decide)) (by decide) (fun s28 w30 H31=>?_))
 rw [← hl27] at H31
 clear H25
 refine zn ?_
 refine zrd 1 12 [(6,s28)] ?_
 refine WP.ret ?_
 obtain rfl:=oi h
 exact post_r (s28) rfl (by kernel_rfl) ⟨s28,rfl,sl H31 [0]⟩
/- tarn/item.copied -/
def g_item_copied_l1 (p1 : TItem) (self : (TItem → Option TItem)) (K26 : (List TItem) → Option TItem) (fuel : Nat) : Nat → (List TItem) → Int → Option TItem
  | 0, _, _ => none
  | n + 1, l30, x34 => lt (decide (x34 < (((List.length p1.Items : Nat) : Int)))) fun c39 => br c39 (gd ((0 : Int) ≤ x34 ∧ x34 < ((List.length p1.Items : Nat) : Int)) <| bd (p1.Items[Int.toNat x34]?) fun x41 => jn (fun (l55 : List TItem) => lt (wr .i64 (x34 + 1)) fun x92 => g_item_copied_l1 p1 self K26 fuel n l55 x92) fun K60 => bd (self x41) fun t62 => gd ((List.length l30 + List.length (([t62] : List TItem))) * 48 ≤ 140737488355328) <| lt (l30 ++ (([t62] : List TItem))) fun l81 => K60 l81) (K26 l30)
def g_item_copied : Nat → TItem → Option TItem
  | 0, _ => none
  | fuel + 1, p1 => (fun (self : (TItem → Option TItem)) => jn (fun (l21 : List TItem) => some (TItem.mk p1.List_ p1.Text l21)) fun K26 => g_item_copied_l1 p1 self K26 fuel fuel ([]) 0) (g_item_copied fuel)
theorem g_item_copied_w : ∀ (fuel : Nat) (s2 : Value) (p1 : TItem) (r : TItem) (h : g_item_copied fuel p1 = some r) (w0 : World) (hb : Hp) (hle0 : hb.le w0) (hs3 : RdD dTItem hb s2 p1.Items),
 Ret Tryz.prog 122 #[.agg #[vb p1.List_, .string p1.Text, s2]] w0 (fun v w' => ∃ (h1 : Hp) (q0_0 : Value), v = .agg #[vb r.List_, .string r.Text, q0_0] ∧ RdD dTItem (un hb h1) q0_0 r.Items ∧ St no w0 w' [Fz h1]) := by
 intro fuel
 induction fuel with
 | zero=>intro s2 p1 r h w0 hb hle0 hs3; unfold g_item_copied at h; cases h
 | succ fuel ih =>
  intro s2 p1 r h w0 hb hle0 hs3
  rw [g_item_copied] at h
  have ih:=ih
  refine ret_of_wpS Tryz.func122 rfl 27 rfl [(0,.agg #[vb p1.List_,.string p1.Text,s2])] (by kernel_rfl) (fun G=>?_)
  have H0:=St.fz0 (St.start w0)
  refine zsg ?_
  refine zo (obx H0 #[vb p1.List_,.string p1.Text,s2] 79 (fun b4 w6 H7=>?_))
  refine zn ?_
  refine zo (oal H7 #[vb false,.string ByteArray.empty,vn] 79 (fun b8 w10 H11=>?_))
  clear H7
  refine zn ?_
  refine zdn ?_
  refine zsg ?_
  refine zr 1 1 [(6,vp b4 0)] ?_
  refine zv (vb p1.List_) (llb H11 1 0) ?_
  refine zr 1 3 [(8,vp b4 1)] ?_
  refine zv (.string p1.Text) (llb H11 1 1) ?_
  refine zr 1 5 [(10,.agg #[vb p1.List_,.string p1.Text,vn])] ?_
  refine zo (oal H11 #[vb false,.string ByteArray.empty,vn] 79 (fun b12 w14 H15=>?_))
  clear H11
  refine zn ?_
  refine zo (osb H15 0 0 (.agg #[vb p1.List_,.string p1.Text,vn]) #[vb p1.List_,.string p1.Text,vn] true (oc1 rfl (oc1 rfl (oc1 rfl oc0))) (fun w16 H17=>?_))
  clear H15
  refine z0 ?_
  refine zdn ?_
  refine zs ?_
  refine zsg ?_
  refine zr 1 1 [(11,vp b4 2)] ?_
  refine zv (s2) (llb H17 2 2) ?_
  refine zv (vi (((List.length p1.Items : Nat) : Int))) (lln (RdD.sl hs3) 79 3 48) ?_
  refine zrd 1 4 [(14,vi 0)] ?_
  obtain ⟨K26,hK26,h⟩:=js h
  refine WP.blockJ (fun a w=>∃ (l21 : List TItem) (h18 : Hp) (s22 : Value) (cs23 : List (Cells dTItem.sz)) (G25 : Nat → Value),a = S 27 G25 [(2,vp b8 0),(3,vp b12 0)] []∧St no w0 w [Fz h18,Box b12 #[vb p1.List_,.string p1.Text,s22] 79,Box b8 #[vb false,.string ByteArray.empty,vn] 79,Box b4 #[vb p1.List_,.string p1.Text,s2] 79,Own (fD dTItem) 79 s22 cs23]∧Hp.sub ((fun _=>none)) h18∧F2 (dTItem.rel ((un hb h18))) l21 cs23∧K26 l21 = some r) ?_ ?_
  ·refine WP.loop (fun n a w=>∃ (l30 : List TItem) (x34 : Int) (h27 : Hp) (s31 : Value) (cs32 : List (Cells dTItem.sz)) (G35 : Nat → Value),a = S 27 G35 [(2,vp b8 0),(3,vp b12 0),(12,s2),(13,vi (((List.length p1.Items : Nat) : Int))),(14,vi x34)] []∧St no w0 w [Fz h27,Box b12 #[vb p1.List_,.string p1.Text,s31] 79,Box b8 #[vb false,.string ByteArray.empty,vn] 79,Box b4 #[vb p1.List_,.string p1.Text,s2] 79,Own (fD dTItem) 79 s31 cs32]∧Hp.sub ((fun _=>none)) h27∧F2 (dTItem.rel ((un hb h27))) l30 cs32∧g_item_copied_l1 p1 (g_item_copied fuel) K26 fuel n l30 x34 = some r) fuel ⟨([]),0,((fun _=>none)),vn,([]),yy (St.nil H17 (fD dTItem) 79) [4,1,2,3,0] ⟨(Hp.sub_refl _),(F2.nil _),h⟩⟩ ?_
   intro n a w hq
   refine Exists.elim hq fun l30 hq=>Exists.elim hq fun x34 hq=>Exists.elim hq fun h27 hq=>Exists.elim hq fun s31 hq=>Exists.elim hq fun cs32 hq=>Exists.elim hq fun G35 hq=>?_
   obtain ⟨rfl,H,hu28,hf33,h⟩:=hq
   obtain _ | n:=n
   ·rw [g_item_copied_l1] at h; cases h
   rw [g_item_copied_l1] at h
   obtain ⟨w36,rfl⟩ : ∃ x,x = w:=⟨_,rfl⟩
   have H37:=H; clear H
   refine zsg ?_
   obtain ⟨c39,e,h⟩:=ls h
   refine zed 1 1 [(15,vb c39)] ?_
   refine zs ?_
   cases c39
   ·replace h:=bf h
    refine zF ?_
    refine WP.exit ?_
    exact then_e (then_e (inb_e (then_n ⟨l30,h27,s31,cs32,yy H37 [0,1,2,3,4] ⟨hu28,hf33,h⟩⟩)))
   replace h:=bt h
   refine zTn ?_
   refine zs ?_
   refine WP.block ?_
   refine zsg ?_
   obtain ⟨hg40,h⟩:=gs h
   refine zv (va (slAt s2 3 (Int.toNat x34))) (lli (RdD.sl hs3) 79 3 48 .i64 x34 hg40) ?_
   obtain ⟨x41,hx41,h⟩:=bs h
   obtain ⟨c44,hr45,hc46⟩:=RdD.at_ hs3 _ _ hx41
   obtain ⟨s42,rfl,hs43⟩:=rTItem.opn hr45
   refine zv (.agg #[vb x41.List_,.string x41.Text,s42]) (lld 0 hc46 (St.hb_le H37 hle0)) ?_
   refine zo (oal H37 #[vb false,.string ByteArray.empty,vn] 79 (fun b47 w49 H50=>?_))
   clear H37
   refine zn ?_
   refine zo (osb H50 0 0 (.agg #[vb x41.List_,.string x41.Text,s42]) #[vb x41.List_,.string x41.Text,s42] true (oc1 rfl (oc1 rfl (oc1 (IsSl.one (RdD.sl hs43)) oc0))) (fun w51 H52=>?_))
   clear H50
   refine z0 ?_
   refine zdn ?_
   obtain ⟨K60,hK60,h⟩:=js h
   refine WP.drawI (by kernel_rfl) (by kernel_rfl) (fun w=>St no w0 w [Box b47 #[vb x41.List_,.string x41.Text,s42] 79,Fz h27,Box b8 #[vb false,.string ByteArray.empty,vn] 79,Box b4 #[vb p1.List_,.string p1.Text,s2] 79]) [5,7] (fun w=>St no w0 w [Box b47 #[vb x41.List_,.string x41.Text,s42] 79,Fz h27,Box b12 #[vb p1.List_,.string p1.Text,s31] 79,Box b8 #[vb false,.string ByteArray.empty,vn] 79,Box b4 #[vb p1.List_,.string p1.Text,s2] 79,Own (fD dTItem) 79 s31 cs32]) (fun a w=>∃ (l55 : List TItem) (h53 : Hp) (s56 : Value) (cs57 : List (Cells dTItem.sz)) (G59 : Nat → Value),a = S 27 G59 [(2,vp b8 0),(3,vp b12 0),(12,s2),(13,vi (((List.length p1.Items : Nat) : Int))),(14,vi x34)] []∧St no w0 w [Fz h53,Box b47 #[vb x41.List_,.string x41.Text,s42] 79,Box b12 #[vb p1.List_,.string p1.Text,s56] 79,Box b8 #[vb false,.string ByteArray.empty,vn] 79,Box b4 #[vb p1.List_,.string p1.Text,s2] 79,Own (fD dTItem) 79 s56 cs57]∧Hp.sub h27 h53∧F2 (dTItem.rel ((un hb h53))) l55 cs57∧K60 l55 = some r) 8 #[F,F,F,F,F,F,F,F] (by kernel_rfl) (by kernel_rfl) ?_ ?_
   ·have H61:=St.drew H52
    refine WI.runS [0] 7 _ #[T,F,F,F,F,F,F,F] [(18,vp b12 2)] rfl (fun K=>by kernel_rfl) ?_
    refine WI.takeT 1 (s31) 19 rfl rfl (by kernel_rfl) (by kernel_rfl) (by kernel_rfl) (fun w H=>ev_loadBox H 2 rfl 77 (.tmp 18) 2 (s31) rfl (by kernel_rfl) (by kernel_rfl)) (li':=#[T,T,F,F,F,F,F,F]) (by kernel_rfl) ?_
    refine WI.takeS 2 (.agg #[vb x41.List_,.string x41.Text,s42]) 20 rfl rfl (by kernel_rfl) (by kernel_rfl) (fun w H=>ev_loadBox H 0 rfl 79 (.tmp 5) 0 (.agg #[vb x41.List_,.string x41.Text,s42]) rfl (by kernel_rfl) (by kernel_rfl)) (li':=#[T,T,T,F,F,F,F,F]) (by kernel_rfl) ?_
    obtain ⟨t62,ht62,h⟩:=bs h
    refine WI.one 3 (by kernel_rfl) (nod (sl H61 [0,1,3,4]) (sl H61 [0,1,2,3,4,5])) rfl (Op1.call (by kernel_rfl) (by kernel_rfl) (ih s42 x41 t62 ht62 _ ((un hb h27)) (un_le (St.hb_le H61 hle0) (St.fz_le H61 1 rfl)) (RdD.mono (un_l _ _) hs43)) ?_)
    rintro _ w66 ⟨h65,s63,rfl,hs64,Hc67⟩
    have H68:=St.call0 H61 Hc67
    clear H61 Hc67
    have H69:=St.fzJoin (St.sel (Rs':=[Fz h65,Fz h27,Box b47 #[vb x41.List_,.string x41.Text,s42] 79,Box b12 #[vb p1.List_,.string p1.Text,s31] 79,Box b8 #[vb false,.string ByteArray.empty,vn] 79,Box b4 #[vb p1.List_,.string p1.Text,s2] 79,Own (fD dTItem) 79 s31 cs32]) H68 [0,2,1,3,4,5,6] (by decide) rfl)
    obtain ⟨h70,eh71⟩ : ∃ x,x = un h27 h65:=⟨_,rfl⟩
    rw [← eh71] at H69
    clear H68
    rw [un_assoc,← eh71] at hs64
    have hu72 : Hp.sub h27 h70:=by rw [eh71]; exact un_l _ _
    refine WI.nS 21 #[T,T,T,T,F,F,F,F] (by kernel_rfl) rfl ?_
    have hd73 : dTItem.rel ((un hb h70)) t62 [vb t62.List_,.string t62.Text,s63]:=rTItem.of (x:=t62) hs64
    have hf77 : F2 (dTItem.rel ((un hb h70))) ([t62] : List TItem) ([dTItem.ce hd73] : List (Cells dTItem.sz)):=(F2.cons hd73 (F2.nil _))
    refine WI.one 4 (by kernel_rfl) (nod (St.sel (St.fzDown (St.sel (Rs':=[Fz h70,Box b47 #[vb x41.List_,.string x41.Text,s42] 79,Box b8 #[vb false,.string ByteArray.empty,vn] 79,Box b4 #[vb p1.List_,.string p1.Text,s2] 79]) H69 [0,1,3,4] (by decide) rfl) hu72) [1,0,2,3] (by decide) rfl) (St.sel (St.fzDown (St.sel (Rs':=[Fz h70,Box b47 #[vb x41.List_,.string x41.Text,s42] 79,Box b12 #[vb p1.List_,.string p1.Text,s31] 79,Box b8 #[vb false,.string ByteArray.empty,vn] 79,Box b4 #[vb p1.List_,.string p1.Text,s2] 79,Own (fD dTItem) 79 s31 cs32]) H69 [0,1,2,3,4,5] (by decide) rfl) hu72) [1,0,2,3,4,5] (by decide) rfl)) rfl (Op1.lit (F:=fD dTItem) (E:=79) H69 (by kernel_rfl) ([dTItem.ce hd73] : List (Cells dTItem.sz)) (fun w=>by kernel_rfl) (by simp [maxLen]) (fun s75 w78 H79=>?_))
    clear H69
    refine WI.nS 22 #[T,T,T,T,T,F,F,F] (by kernel_rfl) rfl ?_
    obtain ⟨hg80,h⟩:=gs h
    obtain ⟨l81,hl81,h⟩:=ls h
    refine WI.one 5 (by kernel_rfl) (nod (St.sel (St.fzDown (St.sel (Rs':=[Fz h70,Box b47 #[vb x41.List_,.string x41.Text,s42] 79,Box b8 #[vb false,.string ByteArray.empty,vn] 79,Box b4 #[vb p1.List_,.string p1.Text,s2] 79]) H79 [1,2,4,5] (by decide) rfl) hu72) [1,0,2,3] (by decide) rfl) (St.sel (St.fzDown (St.sel (Rs':=[Fz h70,Box b47 #[vb x41.List_,.string x41.Text,s42] 79,Box b12 #[vb p1.List_,.string p1.Text,s31] 79,Box b8 #[vb false,.string ByteArray.empty,vn] 79,Box b4 #[vb p1.List_,.string p1.Text,s2] 79,Own (fD dTItem) 79 s31 cs32]) H79 [1,2,3,4,5,6] (by decide) rfl) hu72) [1,0,2,3,4,5] (by decide) rfl)) rfl (Op1.append (F:=fD dTItem) H79 6 rfl (by kernel_rfl) 77 (.tmp 19) (.tmp 22) 48 rfl (by kernel_rfl) (by kernel_rfl) s75 (([dTItem.ce hd73] : List (Cells dTItem.sz))) (St.rd H79 0 rfl) (hp_no_le _) (by kernel_rfl) (app_lenD (F2.up (un_mono hu72) hf33).1 hf77.1 hg80 (by decide)) (fun s82 w85 H86=>?_))
    clear H79
    have hf84 : F2 (dTItem.rel ((un hb h70))) l81 (cs32 ++ ([dTItem.ce hd73] : List (Cells dTItem.sz))):=by rw [hl81]; exact F2.append (F2.up (un_mono hu72) hf33) hf77
    have sf83:=Own.slD (St.get H86 0 rfl) hf84
    refine WI.nS 23 #[T,T,T,T,T,T,F,F] (by kernel_rfl) rfl ?_
    refine WI.runS [6] 1 _ #[T,T,T,T,T,T,T,F] [(24,vp b12 2)] rfl (fun K=>by kernel_rfl) ?_
    refine WI.one 7 (by kernel_rfl) (nod0 (St.sel (St.fzDown (St.sel (Rs':=[Fz h70,Box b47 #[vb x41.List_,.string x41.Text,s42] 79,Box b8 #[vb false,.string ByteArray.empty,vn] 79,Box b4 #[vb p1.List_,.string p1.Text,s2] 79]) H86 [2,3,5,6] (by decide) rfl) hu72) [1,0,2,3] (by decide) rfl) 5 (by decide) (by kernel_rfl)) rfl (Op1.storeBoxS H86 4 rfl (by kernel_rfl) 77 (.tmp 24) (.tmp 23) 2 (s82) #[vb p1.List_,.string p1.Text,s82] sf83 rfl (by kernel_rfl) (by kernel_rfl) (by kernel_rfl) (by kernel_rfl) (by kernel_rfl) (fun w87 H88=>?_))
    clear H86
    refine WI.nS0 #[T,T,T,T,T,T,T,T] (by kernel_rfl) rfl ?_
    refine WI.done (by kernel_rfl) (nod0 (St.sel (St.fzDown (St.sel (Rs':=[Fz h70,Box b47 #[vb x41.List_,.string x41.Text,s42] 79,Box b8 #[vb false,.string ByteArray.empty,vn] 79,Box b4 #[vb p1.List_,.string p1.Text,s2] 79]) H88 [3,4,5,6] (by decide) rfl) hu72) [1,0,2,3] (by decide) rfl) 5 (by decide) (by kernel_rfl)) ?_
    exact ⟨l81,h70,s82,((cs32 ++ ([dTItem.ce hd73] : List (Cells dTItem.sz)))),yy H88 [3,4,0,5,6,1] ⟨hu72,hf84,h⟩⟩
   rintro a w89 ⟨l55,h53,s56,cs57,G59,rfl,H90,hu54,hf58,h⟩
   subst hK60
   refine inb_n (then_n ?_)
   refine zg ?_
   obtain ⟨x92,e,h⟩:=ls h
   refine ze 2 2 [(14,vi x92),(25,vi x92)] ?_
   refine zd ?_
   exact then_n ⟨n,lS n,l55,x92,h53,s56,cs57,yy H90 [0,2,3,4,5] ⟨(Hp.sub_trans hu28 hu54),hf58,h⟩⟩
  rintro a w93 ⟨l21,h18,s22,cs23,G25,rfl,H94,hu19,hf24,h⟩
  subst hK26
  have sf95:=Own.slD (St.get H94 4 rfl) hf24
  refine then_n ?_
  refine zsg ?_
  refine zv (.agg #[vb p1.List_,.string p1.Text,s22]) (llb H94 1 0) ?_
  refine zo (osb H94 2 0 (.agg #[vb p1.List_,.string p1.Text,s22]) #[vb p1.List_,.string p1.Text,s22] true (oc1 rfl (oc1 rfl (oc1 (IsSl.one sf95) oc0))) (fun w96 H97=>?_))
  clear H94
  refine z0 ?_
  refine zdn ?_
  refine WP.ret ?_
  obtain ⟨h98,hu99,hs100,H101⟩:=St.freeze (hb:=hb) (St.sel (Rs':=[Own (fD dTItem) 79 s22 cs23,Fz h18,Box b8 #[vb p1.List_,.string p1.Text,s22] 79,Box b12 #[vb p1.List_,.string p1.Text,s22] 79,Box b4 #[vb p1.List_,.string p1.Text,s2] 79]) H97 [4,1,0,2,3] (by decide) rfl) (St.hb_le H97 hle0)
  have hs102:=RdD.of hs100 (F2.up (un_mono hu99) hf24)
  obtain rfl:=oi h
  exact post_r (.agg #[vb p1.List_,.string p1.Text,s22]) rfl (results_cell rfl (by kernel_rfl) (run_loadAt (ad:=(⟨b8,0,none⟩ : Addr)) (off:=0) (St.boxAt H101 1 rfl) (le_self _) (by kernel_rfl))) ⟨h98,s22,rfl,hs102,sl H101 [0]⟩
/- tarn/item.Each$1 -/
def g_item_Each_1_l1 {σ : Type} (p7 : TItem) (fuel : Nat) (q2 : TItem → σ → Option (σ × Bool)) (K16 : σ → Option σ) : Nat → σ → Int → Option σ
  | 0, _, _ => none
  | n + 1, l19, x21 => lt (decide (x21 < (((List.length p7.Items : Nat) : Int)))) fun c25 => br c25 (gd ((0 : Int) ≤ x21 ∧ x21 < ((List.length p7.Items : Nat) : Int)) <| bd (p7.Items[Int.toNat x21]?) fun x27 => bd (g_item_copied fuel x27) fun t39 => bd2 (q2 t39 l19) fun z50 c51 => lt (!c51) fun c55 => br c55 (some z50) (lt (wr .i64 (x21 + 1)) fun x56 => g_item_Each_1_l1 p7 fuel q2 K16 n z50 x56)) (K16 l19)
def g_item_Each_1 (fuel : Nat) {σ : Type} (q2 : TItem → σ → Option (σ × Bool)) (z3 : σ) (p7 : TItem) : Option σ :=
  lt (!p7.List_) fun c10 => br c10 (some z3) (jn (fun (l13 : σ) => some l13) fun K16 => g_item_Each_1_l1 p7 fuel q2 K16 fuel z3 0)
theorem g_item_Each_1_w (fuel : Nat) {σ τ : Type} (Zs : σ → τ → Res) (q2 : TItem → σ → Option (σ × Bool)) (hh : Hp) (y1 : Value) (z3 : σ) (t4 : τ) (b6 : Nat) (s8 : Value) (p7 : TItem) (r : σ) (h : g_item_Each_1 fuel q2 z3 p7 = some r) (w0 : World) (hy : YW Tryz.prog AR_79 hh y1 Zs q2) (hhl : hh.le w0) (hhd : ∀ k o, hh k = some o → ¬ ((Zs z3 t4).fp) k) (hz : (Zs z3 t4).holds w0) (hbb6 : CellsAt (hp ((Zs z3 t4).fp) w0) ⟨b6, 0, none⟩ [vb p7.List_, .string p7.Text, s8]) (hs9 : RdD dTItem (hp ((Zs z3 t4).fp) w0) s8 p7.Items) :
 Ret Tryz.prog 121 #[y1, vp b6 0] w0 (fun v w' => ∃ (t' : τ), v = .tuple #[] ∧ St (Zs z3 t4).fp w0 w' [Zs r t']) := by
 unfold g_item_Each_1 at h
 refine ret_of_wpS Tryz.func121 rfl 21 rfl [(0,y1),(1,vp b6 0)] (by kernel_rfl) (fun G=>?_)
 have H0:=St.fz0 (St.start1 hz)
 refine zs ?_
 refine zsg ?_
 refine zr 1 1 [(5,vp b6 0)] ?_
 refine zv (vb p7.List_) (lld 0 hbb6 (St.hp_le H0)) ?_
 obtain ⟨c10,e,h⟩:=ls h
 refine zed 1 3 [(7,vb c10)] ?_
 cases c10
 rotate_left
 ·replace h:=bt h
  refine zT ?_
  refine WP.ret ?_
  obtain rfl:=oi h
  exact then_r (post_r (.tuple #[]) rfl (by kernel_rfl) ⟨t4,rfl,sl H0 [1]⟩)
 replace h:=bf h
 refine zFn ?_
 refine zsg ?_
 refine zr 1 1 [(8,vp b6 2)] ?_
 refine zv (s8) (lld 2 hbb6 (St.hp_le H0)) ?_
 refine zv (vi (((List.length p7.Items : Nat) : Int))) (lln (RdD.sl hs9) 79 3 48) ?_
 refine zrd 1 4 [(11,vi 0)] ?_
 obtain ⟨K16,hK16,h⟩:=js h
 refine WP.blockJ (fun a w=>∃ (l13 : σ) (h11 : Hp) (s14 : τ),Y 21 [] [] (Zs z3 t4).fp w0 [Fz h11,Zs l13 s14] (Hp.sub ((fun _=>none)) h11∧K16 l13 = some r) a w) ?_ ?_
 ·refine WP.loop (fun n a w=>∃ (l19 : σ) (x21 : Int) (h17 : Hp) (s20 : τ),Y 21 [(0,y1),(9,s8),(10,vi (((List.length p7.Items : Nat) : Int))),(11,vi x21)] [] (Zs z3 t4).fp w0 [Fz h17,Zs l19 s20] (Hp.sub ((fun _=>none)) h17∧g_item_Each_1_l1 p7 fuel q2 K16 n l19 x21 = some r) a w) fuel ⟨z3,0,((fun _=>none)),t4,yy H0 [0,1] ⟨(Hp.sub_refl _),h⟩⟩ ?_
  rintro n a w23 ⟨l19,x21,h17,s20,G22,rfl,H24,hu18,h⟩
  obtain _ | n:=n
  ·rw [g_item_Each_1_l1] at h; cases h
  rw [g_item_Each_1_l1] at h
  refine zsg ?_
  obtain ⟨c25,e,h⟩:=ls h
  refine zed 1 1 [(12,vb c25)] ?_
  refine zs ?_
  cases c25
  ·replace h:=bf h
   refine zF ?_
   refine WP.exit ?_
   exact then_e (then_e (inb_e (then_n ⟨l19,h17,s20,yy H24 [0,1] ⟨hu18,h⟩⟩)))
  replace h:=bt h
  refine zTn ?_
  refine zs ?_
  refine WP.block ?_
  refine zsg ?_
  obtain ⟨hg26,h⟩:=gs h
  refine zv (va (slAt s8 3 (Int.toNat x21))) (lli (RdD.sl hs9) 79 3 48 .i64 x21 hg26) ?_
  obtain ⟨x27,hx27,h⟩:=bs h
  obtain ⟨c30,hr31,hc32⟩:=RdD.at_ hs9 _ _ hx27
  obtain ⟨s28,rfl,hs29⟩:=rTItem.opn hr31
  refine zv (.agg #[vb x27.List_,.string x27.Text,s28]) (lld 0 hc32 (St.hp_le H24)) ?_
  refine zo (oal H24 #[vb false,.string ByteArray.empty,vn] 79 (fun b33 w35 H36=>?_))
  clear H24
  refine zn ?_
  refine zo (osb H36 0 0 (.agg #[vb x27.List_,.string x27.Text,s28]) #[vb x27.List_,.string x27.Text,s28] true (oc1 rfl (oc1 rfl (oc1 (IsSl.one (RdD.sl hs29)) oc0))) (fun w37 H38=>?_))
  clear H36
  refine z0 ?_
  refine zdn ?_
  refine zsg ?_
  refine zr 1 1 [(15,y1)] ?_
  refine zv (.agg #[vb x27.List_,.string x27.Text,s28]) (llb H38 0 0) ?_
  obtain ⟨t39,ht39,h⟩:=bs h
  refine zo (oca (g_item_copied_w fuel s28 x27 t39 ht39 _ ((un (hp ((Zs z3 t4).fp) w0) h17)) (un_le (St.hp_le H38) (St.fz_le H38 1 rfl)) (RdD.mono (un_l _ _) hs29)) ?_)
  rintro _ w43 ⟨h42,s40,rfl,hs41,Hc44⟩
  have H45:=St.call0 H38 Hc44
  clear H38 Hc44
  have H46:=St.fzJoin (St.sel (Rs':=[Fz h42,Fz h17,Box b33 #[vb x27.List_,.string x27.Text,s28] 79,Zs l19 s20]) H45 [0,2,1,3] (by decide) rfl)
  obtain ⟨h47,eh48⟩ : ∃ x,x = un h17 h42:=⟨_,rfl⟩
  rw [← eh48] at H46
  clear H45
  rw [un_assoc,← eh48] at hs41
  have hu49 : Hp.sub h17 h47:=by rw [eh48]; exact un_l _ _
  obtain ⟨z50,c51,hz50,h⟩:=bd2_some h
  refine zn ?_
  refine YW.call (vs:=#[.agg #[vb t39.List_,.string t39.Text,s40]]) hy H46 hhl hhd 2 rfl hz50 rfl (by kernel_rfl) rfl (by kernel_rfl) (by kernel_rfl) ⟨s40,rfl,(RdD.mono (sub_hpN (un_le (St.hp_le H46) (St.fz_le H46 0 rfl)) (un_dis (St.hb_dis H46 2 rfl) (St.fz_dis H46 2 0 rfl rfl (by decide)))) hs41)⟩ (fun t52 w53 H54=>?_)
  clear H46
  obtain ⟨c55,e,h⟩:=ls h
  refine zn ?_
  refine zed 1 5 [(19,vb c55)] ?_
  cases c55
  rotate_left
  ·replace h:=bt h
   refine zT ?_
   refine WP.ret ?_
   obtain rfl:=oi h
   exact inb_r (then_r (then_r (inb_r (then_r (post_r (.tuple #[]) rfl (by kernel_rfl) ⟨t52,rfl,sl H54 [0]⟩)))))
  replace h:=bf h
  refine zF ?_
  refine WP.skip ?_
  refine inb_n (then_n ?_)
  refine zg ?_
  obtain ⟨x56,e,h⟩:=ls h
  refine ze 2 2 [(11,vi x56),(20,vi x56)] ?_
  refine zd ?_
  exact then_n ⟨n,lS n,z50,x56,h47,t52,yy H54 [1,0] ⟨(Hp.sub_trans hu18 hu49),h⟩⟩
 rintro a w57 ⟨l13,h11,s14,G15,rfl,H58,hu12,h⟩
 subst hK16
 obtain rfl:=oi h
 exact post_n (.tuple #[]) rfl (by kernel_rfl) ⟨s14,rfl,sl H58 [1]⟩
/- tarn/item.Each -/
inductive It_item_Each where
  | c121 (x0 : TItem)
def It_item_Each.ap (fuel : Nat) (it : It_item_Each) (σ : Type) (q : TItem → σ → Option (σ × Bool)) (s : σ) : Option σ := match it with
  | .c121 x0 => g_item_Each_1 fuel q s x0
def g_item_Each (fuel : Nat) (p1 : TItem) : Option It_item_Each :=
  some (It_item_Each.c121 p1)
theorem g_item_Each_w (fuel : Nat) (s2 : Value) (p1 : TItem) (r : It_item_Each) (h : g_item_Each fuel p1 = some r) (w0 : World) (hb : Hp) (hle0 : hb.le w0) (hs3 : RdD dTItem hb s2 p1.Items) :
 Ret Tryz.prog 106 #[.agg #[vb p1.List_, .string p1.Text, s2]] w0 (fun v w' => ∃ (q0 : Value) (C0 : Res), v = q0 ∧ IW Tryz.prog AR_79 q0 (fun σ q s => It_item_Each.ap fuel r σ q s) C0 hb ∧ St no w0 w' [C0]) := by
 unfold g_item_Each at h
 refine ret_of_wpS Tryz.func106 rfl 4 rfl [(0,.agg #[vb p1.List_,.string p1.Text,s2])] (by kernel_rfl) (fun G=>?_)
 have H0:=St.start w0
 refine zsg ?_
 refine zo (obx H0 #[vb p1.List_,.string p1.Text,s2] 79 (fun b4 w6 H7=>?_))
 refine zn ?_
 refine zrd 1 2 [(2,Value.nilFunc)] ?_
 refine zsg ?_
 refine zrd 2 2 [(2,Value.func (.func 121) #[] #[vp b4 0]),(3,Value.func (.func 121) #[] #[vp b4 0])] ?_
 refine WP.ret ?_
 obtain rfl:=oi h
 exact post_r (Value.func (.func 121) #[] #[vp b4 0]) rfl (by kernel_rfl) ⟨(Value.func (.func 121) #[] #[vp b4 0]),(Res.all [Box b4 #[vb p1.List_,.string p1.Text,s2] 79]),rfl,(iw_mk 121 (fun args w=>by kernel_rfl) (fun σ τ Z q hh yv hy hsb hC1 s t r w h hC hl hd hz hdd=>(g_item_Each_1_w fuel Z q hh yv s t b4 s2 p1 r h w hy hl hd hz (box_hp (mem_all hC 0 rfl) (mem_fp hdd 0 rfl)) (RdD.mono (Hp.sub_trans hsb (sub_hpN hl hd)) hs3)).mono (fun v w1 ⟨t1,_,h1⟩=>⟨t1,St.weakM h1 (fun k hk=>.inl hk)⟩))),St.pack (St.sel (Rs':=[Box b4 #[vb p1.List_,.string p1.Text,s2] 79]) H7 [0] (by decide) rfl)⟩
/- tarn/item.laid -/
def g_item_laid : Nat → (List Int) → TItem → Option (List Int)
  | 0, _, _ => none
  | fuel + 1, l2, p4 => (fun (self : ((List Int) → TItem → Option (List Int))) => jn (fun (c12 : Bool) (l14 : List Int) => gd ((List.length l14 + List.length (lsb p4.Text)) * 1 ≤ 140737488355328) <| lt (l14 ++ lsb p4.Text) fun l149 => some l149) fun K17 => jn (fun (c18 : Bool) (l20 : List Int) => K17 c18 l20) fun K23 => br p4.List_ (bd (g_item_Each fuel (TItem.mk true p4.Text p4.Items)) fun t42 => jn (fun (l55 : List Int) => jn (fun (l117 : List Int) => some l117) fun K120 => bd (g_item_front fuel l2 192 (((List.length l55 : Nat) : Int))) fun t122 => gd ((List.length t122 + List.length l55) * 1 ≤ 140737488355328) <| lt (t122 ++ l55) fun l131 => K120 l131) fun K58 => bd2 (It_item_Each.ap fuel t42 ((List Int) × Nat) (rq (fun (x70 : TItem) (l61 : List Int) => bd (self l61 x70) fun t95 => some ((t95, 0), true))) (([]), 0)) fun z65 j66 => sw j66 0 (K58 z65) (none)) (bd (g_item_alone fuel p4.Text) fun t25 => lt (!t25) fun c29 => br c29 (bd (g_item_front fuel l2 128 ((slen p4.Text))) fun t30 => K23 false t30) (K23 false l2))) (g_item_laid fuel)
theorem g_item_laid_w : ∀ (fuel : Nat) (s1 : Value) (l2 : List Int) (s5 : Value) (p4 : TItem) (r : List Int) (h : g_item_laid fuel l2 p4 = some r) (w0 : World) (hm : (Own fU8 5 s1 l2).holds w0) (hs6 : RdD dTItem (hp ((Own fU8 5 s1 l2).fp) w0) s5 p4.Items),
 Ret Tryz.prog 80 #[s1, .agg #[vb p4.List_, .string p4.Text, s5]] w0 (fun v w' => ∃ (q0 : Value), v = q0 ∧ St (Own fU8 5 s1 l2).fp w0 w' [Own fU8 5 q0 r]) := by
 intro fuel
 induction fuel with
 | zero=>intro s1 l2 s5 p4 r h w0 hm hs6; unfold g_item_laid at h; cases h
 | succ fuel ih =>
  intro s1 l2 s5 p4 r h w0 hm hs6
  rw [g_item_laid] at h
  have ih:=ih
  refine ret_of_wpMS Tryz.func80 rfl 36 rfl [(0,s1),(1,.agg #[vb p4.List_,.string p4.Text,s5])] (by kernel_rfl) (fun G=>?_)
  have H0:=St.start1 hm
  refine zsg ?_
  refine zo (obx H0 #[vb p4.List_,.string p4.Text,s5] 79 (fun b8 w10 H11=>?_))
  refine zn ?_
  refine zrd 1 2 [(4,vn)] ?_
  obtain ⟨K17,hK17,h⟩:=js h
  refine WP.seqJ (fun a w=>∃ (c12 : Bool) (l14 : List Int) (s15 : Value),Y 36 [(0,s15),(3,vp b8 0)] [] (Own fU8 5 s1 l2).fp w0 [Box b8 #[vb c12,.string p4.Text,s5] 79,Own fU8 5 s15 l14] (K17 c12 l14 = some r) a w) ?_ ?_
  ·obtain ⟨K23,hK23,h⟩:=js h
   refine WP.blockJ (fun a w=>∃ (c18 : Bool) (l20 : List Int) (s21 : Value),Y 36 [(0,s21),(3,vp b8 0)] [] (Own fU8 5 s1 l2).fp w0 [Box b8 #[vb c18,.string p4.Text,s5] 79,Own fU8 5 s21 l20] (K23 c18 l20 = some r) a w) ?_ ?_
   ·refine zsg ?_
    refine zr 1 1 [(8,vp b8 0)] ?_
    refine zv (vb p4.List_) (llb H11 0 0) ?_
    refine zrd 1 3 [(7,vb p4.List_)] ?_
    cases hq24 : p4.List_
    ·rw [hq24] at h
     try rw [hq24] at H11
     replace h:=bf h
     refine zF ?_
     refine zsg ?_
     refine zr 1 1 [(23,vp b8 1)] ?_
     refine zv (.string p4.Text) (llb H11 0 1) ?_
     obtain ⟨t25,ht25,h⟩:=bs h
     refine zo (oca (g_item_alone_w fuel p4.Text t25 ht25 _) ?_)
     rintro _ w26 ⟨rfl,Hc27⟩
     have H28:=St.call0' H11 Hc27
     clear H11 Hc27
     obtain ⟨c29,e,h⟩:=ls h
     refine zn ?_
     refine zed 2 5 [(22,vb c29),(26,vb c29)] ?_
     cases c29
     ·replace h:=bf h
      refine zF ?_
      refine WP.skip ?_
      exact inb_n (then_n ⟨false,l2,s1,yy H28 [0,1] h⟩)
     replace h:=bt h
     refine zT ?_
     refine zg ?_
     refine zr 2 2 [(28,vp b8 1),(27,s1)] ?_
     refine zv (.string p4.Text) (llb H28 0 1) ?_
     refine WPI.valueS (vi ((slen p4.Text))) 30 rfl rfl (by kernel_rfl) (ev_slen p4.Text 9 (.tmp 29) rfl (by kernel_rfl) (by kernel_rfl)) ?_
     obtain ⟨t30,ht30,h⟩:=bs h
     refine zo (oca (g_item_front_w fuel s1 l2 128 ((slen p4.Text)) t30 ht30 _ (St.get H28 1 rfl)) ?_)
     rintro s31 w35 ⟨_,rfl,Hc36⟩
     have H37:=St.call1 H28 1 rfl Hc36
     clear H28 Hc36
     refine zn ?_
     refine zr 1 6 [(0,s31)] ?_
     refine zd ?_
     exact inb_n (then_n ⟨false,t30,s31,yy H37 [1,0] h⟩)
    rw [hq24] at h
    try rw [hq24] at H11
    replace h:=bt h
    refine zT ?_
    refine zsg ?_
    refine zo (oal H11 #[vn] 106 (fun b38 w40 H41=>?_))
    clear H11
    refine zn ?_
    refine zdn ?_
    refine zs ?_
    refine zsg ?_
    refine zv (.agg #[vb true,.string p4.Text,s5]) (llb H41 1 0) ?_
    obtain ⟨t42,ht42,h⟩:=bs h
    refine zo (oca (g_item_Each_w fuel s5 (TItem.mk true p4.Text p4.Items) t42 ht42 _ (hp ((Own fU8 5 s1 l2).fp) w0) (St.hp_le H41) hs6) ?_)
    rintro _ w47 ⟨q43,C44,rfl,hit46,Hc48⟩
    have H49:=St.call0 H41 Hc48
    clear H41 Hc48
    obtain ⟨k50,cap51,rfl⟩:=IW.form hit46
    refine zn ?_
    refine zdn ?_
    obtain ⟨K58,hK58,h⟩:=js h
    refine WP.blockJ (fun a w=>∃ (l55 : List Int) (D52 : Nat) (s56 : Value),Y 36 [(0,s1),(5,vp b38 0)] [mk D52] (Own fU8 5 s1 l2).fp w0 [DMark D52,Box b38 #[s56] 106,Box b8 #[vb true,.string p4.Text,s5] 79,Own fU8 5 s1 l2,Own fU8 5 s56 l55] (K58 l55 = some r) a w) ?_ ?_
    ·have H63:=St.sel (Rs':=[C44,Box b38 #[vn] 106,Box b8 #[vb true,.string p4.Text,s5] 79,Own fU8 5 s1 l2,Own fU8 5 vn []]) (St.nil H49 fU8 5) [1,2,3,4,0] (by decide) rfl
     have hO64:=St.outer H63
     obtain ⟨z65,j66,hz67,h⟩:=bd2_some h
     refine WP.rangeW H63 hit46 (by kernel_rfl) (outer ((Own fU8 5 s1 l2).fp) w47 [C44,Box b38 #[vn] 106,Box b8 #[vb true,.string p4.Text,s5] 79,Own fU8 5 s1 l2,Own fU8 5 vn []]) hO64 outer_disC outer_le outer_disT (fun (s : List Int) (t : Value)=>[Box b38 #[t] 106,Box b8 #[vb true,.string p4.Text,s5] 79,Own fU8 5 s1 l2,Own fU8 5 t s]) (jmp []) _ ([]) vn rfl rfl (z65,j66) hz67 ?_ ?_ (rq_stop _ _) (jmp_none _) ?_
     ·rintro _ _ _ _ ⟨_,rfl,_⟩; rfl
     ·rintro L68 rc69 _ x70 l61 s62 z80 M72 w71 hr73 hp74 ⟨s81,rfl,hs82⟩ hq76 hL77 hD78 H79
      have h:=rq_get hq76
      try dsimp only at h
      have H83 : St M72 w71 w71 [Thing L68 (.loop rc69),Box b38 #[s62] 106,Box b8 #[vb true,.string p4.Text,s5] 79,Own fU8 5 s1 l2,Own fU8 5 s62 l61]:=H79
      clear H79
      refine WP.roundS [(0,s1),(1,.agg #[vb true,.string p4.Text,s5]),(3,vp b8 0),(4,vn),(5,vp b38 0),(7,vb true),(8,vp b8 0),(9,vb true),(10,.agg #[vb true,.string p4.Text,s5]),(11,Value.func (.func k50) #[] cap51),(12,.agg #[vb x70.List_,.string x70.Text,s81])] (by kernel_rfl) (fun G86=>?_)
      refine zg ?_
      refine zo (oal H83 #[vb false,.string ByteArray.empty,vn] 79 (fun b87 w89 H90=>?_))
      clear H83
      refine zn ?_
      refine zo (osb H90 0 0 (.agg #[vb x70.List_,.string x70.Text,s81]) #[vb x70.List_,.string x70.Text,s81] true (oc1 rfl (oc1 rfl (oc1 (IsSl.one (RdD.sl hs82)) oc0))) (fun w91 H92=>?_))
      clear H90
      refine z0 ?_
      refine zd ?_
      refine (rbegun H92 1 rfl hr73 hp74 (fun w93 H94=>?_))
      clear H92
      refine WP.block ?_
      refine zg ?_
      refine zv (s62) (llb H94 2 0) ?_
      refine zv (.agg #[vb x70.List_,.string x70.Text,s81]) (llb H94 1 0) ?_
      obtain ⟨t95,ht95,h⟩:=bs h
      refine zo (oca (ih s62 l61 s81 x70 t95 ht95 _ (St.get H94 5 rfl) (RdD.arg hs82 H94 (St.own H94 _ (List.mem_of_getElem? (i:=5) rfl)))) ?_)
      rintro s96 w100 ⟨_,rfl,Hc101⟩
      have H102:=St.call1 H94 5 rfl Hc101
      clear H94 Hc101
      have sf98:=Own.isSl (St.get H102 0 rfl)
      refine zn ?_
      refine WPI.op rfl (Op1.storeBoxS H102 3 rfl (by kernel_rfl) 106 (.tmp 5) (.tmp 15) 0 (s96) #[s96] sf98 rfl (by kernel_rfl) (by kernel_rfl) (by kernel_rfl) (by kernel_rfl) (by kernel_rfl) (fun w103 H104=>?_))
      clear H102
      refine z0 ?_
      refine zd ?_
      exact inb_n ⟨0,rfl,t95,s96,(oi h).symm,sl H104 [2,0,4,5,1]⟩
     rintro D105 s62 w106 H107
     obtain ⟨l61,rfl⟩ : ∃ y,y = z65:=⟨_,rfl⟩
     have H109 : St ((Own fU8 5 s1 l2).fp) w0 w106 [DMark D105,Box b38 #[s62] 106,Box b8 #[vb true,.string p4.Text,s5] 79,Own fU8 5 s1 l2,Own fU8 5 s62 l61]:=H107
     clear H107
     refine aftS ?_
     obtain _ | j66:=j66
     ·replace h:=sw_t h
      refine aft_n rfl ?_
      exact inb_n (then_n ⟨l61,D105,s62,yy H109 [0,1,2,3,4] h⟩)
     replace h:=sw_f rfl h
     cases h
    rintro a w112 ⟨l55,D52,s56,G57,rfl,H113,h⟩
    subst hK58
    have sf115:=Own.isSl (St.get H113 4 rfl)
    refine then_n ?_
    refine zs ?_
    obtain ⟨K120,hK120,h⟩:=js h
    refine WP.drawI (by kernel_rfl) (by kernel_rfl) (fun w=>St (Own fU8 5 s1 l2).fp w0 w [Box b38 #[s56] 106,Box b8 #[vb true,.string p4.Text,s5] 79]) [3,5] (fun w=>St (Own fU8 5 s1 l2).fp w0 w [DMark D52,Box b38 #[s56] 106,Box b8 #[vb true,.string p4.Text,s5] 79,Own fU8 5 s1 l2,Own fU8 5 s56 l55]) (fun a w=>∃ (l117 : List Int) (s118 : Value),Y 36 [(4,s118)] [mk D52] (Own fU8 5 s1 l2).fp w0 [DMark D52,Box b38 #[s56] 106,Box b8 #[vb true,.string p4.Text,s5] 79,Own fU8 5 s56 l55,Own fU8 5 s118 l117] (K120 l117 = some r) a w) 7 #[F,F,F,F,F,F,F] (by kernel_rfl) (by kernel_rfl) ?_ ?_
    ·have H121:=St.drew H113
     refine WI.runS [0] 6 _ #[T,F,F,F,F,F,F] [(16,s1)] rfl (fun K=>by kernel_rfl) ?_
     refine WI.takeS 1 (s56) 17 rfl rfl (by kernel_rfl) (by kernel_rfl) (fun w H=>ev_loadBox H 0 rfl 106 (.tmp 5) 0 (s56) rfl (by kernel_rfl) (by kernel_rfl)) (li':=#[T,T,F,F,F,F,F]) (by kernel_rfl) ?_
     refine WI.takeS 2 (vi (((List.length l55 : Nat) : Int))) 18 rfl rfl (by kernel_rfl) (by kernel_rfl) (fun w H=>ev_len sf115 106 (.tmp 17) 5 1 1 rfl (by kernel_rfl) (by kernel_rfl)) (li':=#[T,T,T,F,F,F,F]) (by kernel_rfl) ?_
     refine WI.takeS 4 (s56) 20 rfl rfl (by kernel_rfl) (by kernel_rfl) (fun w H=>ev_loadBox H 0 rfl 106 (.tmp 5) 0 (s56) rfl (by kernel_rfl) (by kernel_rfl)) (li':=#[T,T,T,F,T,F,F]) (by kernel_rfl) ?_
     obtain ⟨t122,ht122,h⟩:=bs h
     refine WI.one 3 (by kernel_rfl) (nod (sl H121 [1,2]) (sl H121 [0,1,2,3,4])) rfl (Op1.call (by kernel_rfl) (by kernel_rfl) (g_item_front_w fuel s1 l2 192 (((List.length l55 : Nat) : Int)) t122 ht122 _ (St.get H121 3 rfl)) ?_)
     rintro s123 w127 ⟨_,rfl,Hc128⟩
     have H129:=St.call1 H121 3 rfl Hc128
     clear H121 Hc128
     refine WI.nS 19 #[T,T,T,T,T,F,F] (by kernel_rfl) rfl ?_
     obtain ⟨hg130,h⟩:=gs h
     obtain ⟨l131,hl131,h⟩:=ls h
     refine WI.one 5 (by kernel_rfl) (nod0 (sl H129 [2,3]) 3 (by decide) (by kernel_rfl)) rfl (Op1.append (F:=fU8) H129 0 rfl (by kernel_rfl) 106 (.tmp 19) (.tmp 20) 1 rfl (by kernel_rfl) (by kernel_rfl) s56 l55 (St.rd H129 4 rfl) (hp_no_le _) (by kernel_rfl) (app_len hg130 (by decide)) (fun s132 w134 H135=>?_))
     rw [← hl131] at H135
     clear H129
     refine WI.nS 21 #[T,T,T,T,T,T,F] (by kernel_rfl) rfl ?_
     refine WI.runS [6] 0 _ #[T,T,T,T,T,T,T] [(4,s132)] rfl (fun K=>by kernel_rfl) ?_
     refine WI.done (by kernel_rfl) (nod0 (sl H135 [2,3]) 3 (by decide) (by kernel_rfl)) ?_
     exact ⟨l131,s132,yy H135 [1,2,3,4,0] h⟩
    rintro a w136 ⟨l117,s118,G119,rfl,H137,h⟩
    subst hK120
    refine then_n ?_
    refine WP.ret ?_
    refine inb_r (then_r (then_r ((postM (.inl rfl) [D52] rfl ?_))))
    refine Unw.mark H137 0 rfl (fun w140 H141=>?_)
    obtain rfl:=oi h
    exact ⟨s118,(by kernel_rfl),⟨s118,rfl,sl H141 [3]⟩⟩
   rintro a w142 ⟨c18,l20,s21,G22,rfl,H143,h⟩
   subst hK23
   exact then_n ⟨c18,l20,s21,yy H143 [0,1] h⟩
  rintro a w145 ⟨c12,l14,s15,G16,rfl,H146,h⟩
  subst hK17
  refine zsg ?_
  refine zr 2 2 [(33,vp b8 1),(32,s15)] ?_
  refine zv (.string p4.Text) (llb H146 0 1) ?_
  obtain ⟨hg148,h⟩:=gs h
  obtain ⟨l149,hl149,h⟩:=ls h
  refine WPI.op rfl (Op1.appendG (F:=fU8) H146 1 rfl (by kernel_rfl) 106 9 (.tmp 32) (.tmp 34) 1 rfl (by kernel_rfl) (by kernel_rfl) (.string p4.Text) (lsb p4.Text) (fun z=>src_str p4.Text (by kernel_rfl) z) (by kernel_rfl) (app_len hg148 (by decide)) (by decide) (fun s150 w152 H153=>?_))
  rw [← hl149] at H153
  clear H146
  refine zn ?_
  refine zrd 1 5 [(4,s150)] ?_
  refine WP.ret ?_
  refine (postM (.inl rfl) [] rfl ?_)
  obtain rfl:=oi h
  exact ⟨s150,(by kernel_rfl),⟨s150,rfl,sl H153 [0]⟩⟩
/- tarn/item.Bytes -/
def g_item_Bytes (fuel : Nat) (p1 : TItem) : Option (ByteArray × Int) :=
  bd (g_item_Check fuel p1) fun t8 => lt (t8 != 0) fun c12 => br c12 (some ((ByteArray.mk #[]), t8)) (bd (g_item_laid fuel ([]) p1) fun t16 => lt (bsl t16) fun t24 => some (t24, 0))
theorem g_item_Bytes_w (fuel : Nat) (s2 : Value) (p1 : TItem) (r : ByteArray × Int) (h : g_item_Bytes fuel p1 = some r) (w0 : World) (hs3 : RdD dTItem (hp no w0) s2 p1.Items) :
 Ret Tryz.prog 59 #[.agg #[vb p1.List_, .string p1.Text, s2]] w0 (fun v w' => v = .tuple #[.string r.1, vi r.2] ∧ St no w0 w' []) := by
 unfold g_item_Bytes at h
 refine ret_of_wpS Tryz.func59 rfl 13 rfl [(0,.agg #[vb p1.List_,.string p1.Text,s2])] (by kernel_rfl) (fun G=>?_)
 have H0:=St.start w0
 refine zsg ?_
 refine zo (obx H0 #[vb p1.List_,.string p1.Text,s2] 79 (fun b4 w6 H7=>?_))
 refine zn ?_
 refine zrd 2 3 [(3,vi 0),(2,.string ((ByteArray.mk #[])))] ?_
 refine zs ?_
 refine zsg ?_
 refine zv (.agg #[vb p1.List_,.string p1.Text,s2]) (llb H7 0 0) ?_
 obtain ⟨t8,ht8,h⟩:=bs h
 refine zo (oca (g_item_Check_w fuel s2 p1 t8 ht8 _ (RdD.mono (sub_hp (St.hp_le H7)) hs3)) ?_)
 rintro _ w9 ⟨rfl,Hc10⟩
 have H11:=St.call0' H7 Hc10
 clear H7 Hc10
 refine zn ?_
 refine zrd 1 3 [(4,vi t8)] ?_
 refine zsg ?_
 obtain ⟨c12,e,h⟩:=ls h
 refine zed 2 2 [(8,vb c12),(7,vi t8)] ?_
 cases c12
 rotate_left
 ·replace h:=bt h
  refine zT ?_
  refine zsg ?_
  refine zrd 3 3 [(3,vi t8),(2,.string ((ByteArray.mk #[]))),(9,vi t8)] ?_
  refine WP.ret ?_
  obtain rfl:=oi h
  exact then_r (post_r (.tuple #[.string ((ByteArray.mk #[])),vi t8]) rfl (by kernel_rfl) ⟨rfl,sl H11 []⟩)
 replace h:=bf h
 refine zFn ?_
 refine zsg ?_
 refine zv (.agg #[vb p1.List_,.string p1.Text,s2]) (llb H11 0 0) ?_
 have H13:=St.nil H11 fU8 5
 obtain ⟨t16,ht16,h⟩:=bs h
 refine zo (oca (g_item_laid_w fuel vn ([]) s2 p1 t16 ht16 _ (St.get H13 0 rfl) (RdD.arg hs3 H13 (St.own H13 _ (List.mem_of_getElem? (i:=0) rfl)))) ?_)
 rintro s17 w21 ⟨_,rfl,Hc22⟩
 have H23:=St.call1 H13 0 rfl Hc22
 clear H13 Hc22
 obtain ⟨t24,ht24,h⟩:=ls h
 refine zn ?_
 refine WPI.valueS (.string t24) 12 rfl rfl (by kernel_rfl) (Eq.trans (ev_b2s (St.rd H23 0 rfl) (hp_no_le _) 106 9 5 (.tmp 11) rfl (by kernel_rfl) (by kernel_rfl) (by kernel_rfl) (by kernel_rfl)) (by rw [← ht24])) ?_
 refine zrd 2 5 [(3,vi 0),(2,.string t24)] ?_
 refine WP.ret ?_
 obtain rfl:=oi h
 exact post_r (.tuple #[.string t24,vi 0]) rfl (by kernel_rfl) ⟨rfl,sl H23 []⟩
/- tarn/tx.Bytes -/
def g_tx_Bytes_l1 (p1 : TTx) (fuel : Nat) (K38 : (List TItem) → (List TItem) → Option (ByteArray × Int)) : Nat → (List TItem) → (List TItem) → Int → Option (ByteArray × Int)
  | 0, _, _, _ => none
  | n + 1, l40, l45, x49 => lt (decide (x49 < (((List.length p1.Blobs : Nat) : Int)))) fun c55 => br c55 (gd ((0 : Int) ≤ x49 ∧ x49 < ((List.length p1.Blobs : Nat) : Int)) <| bd (p1.Blobs[Int.toNat x49]?) fun x57 => jn (fun (l58 : List TItem) => gd ((List.length l40 + List.length (([TItem.mk false x57 ([])] : List TItem))) * 48 ≤ 140737488355328) <| lt (l40 ++ (([TItem.mk false x57 ([])] : List TItem))) fun l99 => lt (wr .i64 (x49 + 1)) fun x107 => g_tx_Bytes_l1 p1 fuel K38 n l99 l58 x107) fun K63 => gd ((0 : Int) ≤ x49 ∧ x49 < ((List.length p1.Hashes : Nat) : Int)) <| bd (p1.Hashes[Int.toNat x49]?) fun x66 => bd (g_mark_Text fuel x66) fun t67 => gd ((List.length l45 + List.length (([TItem.mk false t67 ([])] : List TItem))) * 48 ≤ 140737488355328) <| lt (l45 ++ (([TItem.mk false t67 ([])] : List TItem))) fun l79 => K63 l79) (K38 l40 l45)
def g_tx_Bytes (fuel : Nat) (p1 : TTx) : Option (ByteArray × Int) :=
  bd (g_tx_Check fuel p1) fun t10 => lt (t10 != 0) fun c14 => br c14 (some ((ByteArray.mk #[]), t10)) (jn (fun (l28 : List TItem) (l33 : List TItem) => jn (fun (l123 : List TItem) => bd (g_item_Bytes fuel (TItem.mk true ByteArray.empty l123)) fun t176 => some (t176.1, t176.2)) fun K128 => bd (g_tx_number fuel p1.From) fun t130 => bd (g_tx_number fuel p1.Nonce) fun t134 => bd (g_tx_amount fuel p1.Tip) fun t138 => bd (g_tx_amount fuel p1.Cap) fun t142 => bd (g_tx_amount fuel p1.BlobCap) fun t146 => bd (g_tx_amount fuel p1.Value_) fun t150 => bd (g_tx_number fuel p1.Gas) fun t154 => K128 (([TItem.mk t130.List_ t130.Text ([]), TItem.mk t134.List_ t134.Text ([]), TItem.mk t138.List_ t138.Text ([]), TItem.mk t142.List_ t142.Text ([]), TItem.mk t146.List_ t146.Text ([]), TItem.mk t150.List_ t150.Text ([]), TItem.mk t154.List_ t154.Text ([]), TItem.mk true ByteArray.empty l33, TItem.mk true ByteArray.empty l28] : List TItem))) fun K38 => g_tx_Bytes_l1 p1 fuel K38 fuel ([]) ([]) 0)
theorem g_tx_Bytes_w (fuel : Nat) (s2 s4 : Value) (p1 : TTx) (r : ByteArray × Int) (h : g_tx_Bytes fuel p1 = some r) (w0 : World) (hs3 : Rd fU64 (hp no w0) s2 p1.Hashes) (hs5 : Rd fStr (hp no w0) s4 p1.Blobs) :
 Ret Tryz.prog 25 #[(gTx p1 s2 s4)] w0 (fun v w' => v = .tuple #[.string r.1, vi r.2] ∧ St no w0 w' []) := by
 unfold g_tx_Bytes at h
 refine ret_of_wpS Tryz.func25 rfl 74 rfl [(0,(gTx p1 s2 s4))] (by kernel_rfl) (fun G=>?_)
 have H0:=St.fz0 (St.start w0)
 refine zsg ?_
 refine zo (obx H0 #[vi p1.From,vi p1.Nonce,vu p1.Tip.e0,vu p1.Tip.e1,vu p1.Tip.e2,vu p1.Tip.e3,vu p1.Cap.e0,vu p1.Cap.e1,vu p1.Cap.e2,vu p1.Cap.e3,vu p1.BlobCap.e0,vu p1.BlobCap.e1,vu p1.BlobCap.e2,vu p1.BlobCap.e3,vu p1.Value_.e0,vu p1.Value_.e1,vu p1.Value_.e2,vu p1.Value_.e3,vi p1.Gas,s2,s4] 44 (fun b6 w8 H9=>?_))
 refine zn ?_
 refine zrd 2 3 [(3,vi 0),(2,.string ((ByteArray.mk #[])))] ?_
 refine zs ?_
 refine zsg ?_
 refine zv ((gTx p1 s2 s4)) (llb H9 0 0) ?_
 obtain ⟨t10,ht10,h⟩:=bs h
 refine zo (oca (g_tx_Check_w fuel s2 s4 p1 t10 ht10 _ (Rd.arg0 hs3 H9) (Rd.arg0 hs5 H9)) ?_)
 rintro _ w11 ⟨rfl,Hc12⟩
 have H13:=St.call0' H9 Hc12
 clear H9 Hc12
 refine zn ?_
 refine zrd 1 3 [(4,vi t10)] ?_
 refine zsg ?_
 obtain ⟨c14,e,h⟩:=ls h
 refine zed 2 2 [(13,vb c14),(12,vi t10)] ?_
 cases c14
 rotate_left
 ·replace h:=bt h
  refine zT ?_
  refine zsg ?_
  refine zrd 3 3 [(3,vi t10),(2,.string ((ByteArray.mk #[]))),(14,vi t10)] ?_
  refine WP.ret ?_
  obtain rfl:=oi h
  exact then_r (post_r (.tuple #[.string ((ByteArray.mk #[])),vi t10]) rfl (by kernel_rfl) ⟨rfl,sl H13 []⟩)
 replace h:=bf h
 refine zFn ?_
 refine zsg ?_
 refine zr 2 2 [(16,.agg #[vb true,.string ByteArray.empty,vn]),(15,.agg #[vb true,.string ByteArray.empty,vn])] ?_
 refine zo (oal H13 #[vb false,.string ByteArray.empty,vn] 79 (fun b15 w17 H18=>?_))
 clear H13
 refine zn ?_
 refine zo (oal H18 #[vb false,.string ByteArray.empty,vn] 79 (fun b19 w21 H22=>?_))
 clear H18
 refine zn ?_
 refine zo (osb H22 1 0 (.agg #[vb true,.string ByteArray.empty,vn]) #[vb true,.string ByteArray.empty,vn] true (oc1 rfl (oc1 rfl (oc1 rfl oc0))) (fun w23 H24=>?_))
 clear H22
 refine z0 ?_
 refine zo (osb H24 1 0 (.agg #[vb true,.string ByteArray.empty,vn]) #[vb true,.string ByteArray.empty,vn] true (oc1 rfl (oc1 rfl (oc1 rfl oc0))) (fun w25 H26=>?_))
 clear H24
 refine z0 ?_
 refine zdn ?_
 refine zs ?_
 refine zsg ?_
 refine zr 1 1 [(17,vp b6 20)] ?_
 refine zv (s4) (llb H26 2 20) ?_
 refine zv (vi (((List.length p1.Blobs : Nat) : Int))) (lln (Rd.sl hs5) 9 1 16) ?_
 refine zrd 1 4 [(20,vi 0)] ?_
 obtain ⟨K38,hK38,h⟩:=js h
 refine WP.blockJ (fun a w=>∃ (l28 : List TItem) (l33 : List TItem) (s29 : Value) (cs30 : List (Cells dTItem.sz)) (s34 : Value) (cs35 : List (Cells dTItem.sz)) (G37 : Nat → Value),a = S 74 G37 [(1,vp b6 0),(5,vp b15 0),(6,vp b19 0)] []∧St no w0 w [Fz (fun _=>none),Box b19 #[vb true,.string ByteArray.empty,s29] 79,Box b15 #[vb true,.string ByteArray.empty,s34] 79,Box b6 #[vi p1.From,vi p1.Nonce,vu p1.Tip.e0,vu p1.Tip.e1,vu p1.Tip.e2,vu p1.Tip.e3,vu p1.Cap.e0,vu p1.Cap.e1,vu p1.Cap.e2,vu p1.Cap.e3,vu p1.BlobCap.e0,vu p1.BlobCap.e1,vu p1.BlobCap.e2,vu p1.BlobCap.e3,vu p1.Value_.e0,vu p1.Value_.e1,vu p1.Value_.e2,vu p1.Value_.e3,vi p1.Gas,s2,s4] 44,Own (fD dTItem) 79 s29 cs30,Own (fD dTItem) 79 s34 cs35]∧F2 (dTItem.rel ((un (hp no w0) (fun _=>none)))) l28 cs30∧F2 (dTItem.rel ((un (hp no w0) (fun _=>none)))) l33 cs35∧K38 l28 l33 = some r) ?_ ?_
 ·refine WP.loop (fun n a w=>∃ (l40 : List TItem) (l45 : List TItem) (x49 : Int) (s41 : Value) (cs42 : List (Cells dTItem.sz)) (s46 : Value) (cs47 : List (Cells dTItem.sz)) (G50 : Nat → Value),a = S 74 G50 [(1,vp b6 0),(5,vp b15 0),(6,vp b19 0),(18,s4),(19,vi (((List.length p1.Blobs : Nat) : Int))),(20,vi x49)] []∧St no w0 w [Fz (fun _=>none),Box b19 #[vb true,.string ByteArray.empty,s41] 79,Box b15 #[vb true,.string ByteArray.empty,s46] 79,Box b6 #[vi p1.From,vi p1.Nonce,vu p1.Tip.e0,vu p1.Tip.e1,vu p1.Tip.e2,vu p1.Tip.e3,vu p1.Cap.e0,vu p1.Cap.e1,vu p1.Cap.e2,vu p1.Cap.e3,vu p1.BlobCap.e0,vu p1.BlobCap.e1,vu p1.BlobCap.e2,vu p1.BlobCap.e3,vu p1.Value_.e0,vu p1.Value_.e1,vu p1.Value_.e2,vu p1.Value_.e3,vi p1.Gas,s2,s4] 44,Own (fD dTItem) 79 s41 cs42,Own (fD dTItem) 79 s46 cs47]∧F2 (dTItem.rel ((un (hp no w0) (fun _=>none)))) l40 cs42∧F2 (dTItem.rel ((un (hp no w0) (fun _=>none)))) l45 cs47∧g_tx_Bytes_l1 p1 fuel K38 n l40 l45 x49 = some r) fuel ⟨([]),([]),0,vn,([]),vn,([]),yy (St.nil (St.nil H26 (fD dTItem) 79) (fD dTItem) 79) [5,2,3,4,1,0] ⟨(F2.nil _),(F2.nil _),h⟩⟩ ?_
  intro n a w hq
  refine Exists.elim hq fun l40 hq=>Exists.elim hq fun l45 hq=>Exists.elim hq fun x49 hq=>Exists.elim hq fun s41 hq=>Exists.elim hq fun cs42 hq=>Exists.elim hq fun s46 hq=>Exists.elim hq fun cs47 hq=>Exists.elim hq fun G50 hq=>?_
  obtain ⟨rfl,H,hf43,hf48,h⟩:=hq
  obtain _ | n:=n
  ·rw [g_tx_Bytes_l1] at h; cases h
  rw [g_tx_Bytes_l1] at h
  obtain ⟨w51,rfl⟩ : ∃ x,x = w:=⟨_,rfl⟩
  have H52:=H; clear H
  refine zsg ?_
  obtain ⟨c55,e,h⟩:=ls h
  refine zed 1 1 [(21,vb c55)] ?_
  refine zs ?_
  cases c55
  ·replace h:=bf h
   refine zF ?_
   refine WP.exit ?_
   exact then_e (then_e (inb_e (then_n ⟨l40,l45,s41,cs42,s46,cs47,yy H52 [0,1,2,3,4,5] ⟨hf43,hf48,h⟩⟩)))
  replace h:=bt h
  refine zTn ?_
  refine zs ?_
  refine WP.block ?_
  refine zsg ?_
  obtain ⟨hg56,h⟩:=gs h
  refine zr 1 1 [(22,vi x49)] ?_
  refine zv (va (slAt s4 1 (Int.toNat x49))) (lli (Rd.sl hs5) 9 1 16 .i64 x49 hg56) ?_
  obtain ⟨x57,hx57,h⟩:=bs h
  refine zv (.string x57) (lle fStr hs5 (St.hp_le H52) hx57 0) ?_
  refine zrd 2 5 [(8,.string x57),(7,vi x49)] ?_
  refine zs ?_
  obtain ⟨K63,hK63,h⟩:=js h
  refine WP.drawI (by kernel_rfl) (by kernel_rfl) (fun w=>St no w0 w [Fz (fun _=>none),Box b19 #[vb true,.string ByteArray.empty,s41] 79,Box b6 #[vi p1.From,vi p1.Nonce,vu p1.Tip.e0,vu p1.Tip.e1,vu p1.Tip.e2,vu p1.Tip.e3,vu p1.Cap.e0,vu p1.Cap.e1,vu p1.Cap.e2,vu p1.Cap.e3,vu p1.BlobCap.e0,vu p1.BlobCap.e1,vu p1.BlobCap.e2,vu p1.BlobCap.e3,vu p1.Value_.e0,vu p1.Value_.e1,vu p1.Value_.e2,vu p1.Value_.e3,vi p1.Gas,s2,s4] 44]) [10,12] (fun w=>St no w0 w [Fz (fun _=>none),Box b19 #[vb true,.string ByteArray.empty,s41] 79,Box b15 #[vb true,.string ByteArray.empty,s46] 79,Box b6 #[vi p1.From,vi p1.Nonce,vu p1.Tip.e0,vu p1.Tip.e1,vu p1.Tip.e2,vu p1.Tip.e3,vu p1.Cap.e0,vu p1.Cap.e1,vu p1.Cap.e2,vu p1.Cap.e3,vu p1.BlobCap.e0,vu p1.BlobCap.e1,vu p1.BlobCap.e2,vu p1.BlobCap.e3,vu p1.Value_.e0,vu p1.Value_.e1,vu p1.Value_.e2,vu p1.Value_.e3,vi p1.Gas,s2,s4] 44,Own (fD dTItem) 79 s41 cs42,Own (fD dTItem) 79 s46 cs47]) (fun a w=>∃ (l58 : List TItem) (s59 : Value) (cs60 : List (Cells dTItem.sz)) (G62 : Nat → Value),a = S 74 G62 [(1,vp b6 0),(5,vp b15 0),(6,vp b19 0),(8,.string x57),(18,s4),(19,vi (((List.length p1.Blobs : Nat) : Int))),(20,vi x49)] []∧St no w0 w [Fz (fun _=>none),Box b19 #[vb true,.string ByteArray.empty,s41] 79,Box b15 #[vb true,.string ByteArray.empty,s59] 79,Box b6 #[vi p1.From,vi p1.Nonce,vu p1.Tip.e0,vu p1.Tip.e1,vu p1.Tip.e2,vu p1.Tip.e3,vu p1.Cap.e0,vu p1.Cap.e1,vu p1.Cap.e2,vu p1.Cap.e3,vu p1.BlobCap.e0,vu p1.BlobCap.e1,vu p1.BlobCap.e2,vu p1.BlobCap.e3,vu p1.Value_.e0,vu p1.Value_.e1,vu p1.Value_.e2,vu p1.Value_.e3,vi p1.Gas,s2,s4] 44,Own (fD dTItem) 79 s41 cs42,Own (fD dTItem) 79 s59 cs60]∧F2 (dTItem.rel ((un (hp no w0) (fun _=>none)))) l58 cs60∧K63 l58 = some r) 13 #[F,F,F,F,F,F,F,F,F,F,F,F,F] (by kernel_rfl) (by kernel_rfl) ?_ ?_
  ·have H64:=St.drew H52
   refine WI.runS [0] 12 _ #[T,F,F,F,F,F,F,F,F,F,F,F,F] [(25,vp b15 2)] rfl (fun K=>by kernel_rfl) ?_
   refine WI.takeT 1 (s46) 26 rfl rfl (by kernel_rfl) (by kernel_rfl) (by kernel_rfl) (fun w H=>ev_loadBox H 2 rfl 77 (.tmp 25) 2 (s46) rfl (by kernel_rfl) (by kernel_rfl)) (li':=#[T,T,F,F,F,F,F,F,F,F,F,F,F]) (by kernel_rfl) ?_
   refine WI.runS [2] 10 _ #[T,T,T,F,F,F,F,F,F,F,F,F,F] [(27,vp b6 19)] rfl (fun K=>by kernel_rfl) ?_
   refine WI.takeS 3 (s2) 28 rfl rfl (by kernel_rfl) (by kernel_rfl) (fun w H=>ev_loadBox H 2 rfl 41 (.tmp 27) 19 (s2) rfl (by kernel_rfl) (by kernel_rfl)) (li':=#[T,T,T,T,F,F,F,F,F,F,F,F,F]) (by kernel_rfl) ?_
   obtain ⟨hg65,h⟩:=gs h
   refine WI.runS [4] 8 _ #[T,T,T,T,T,F,F,F,F,F,F,F,F] [(29,vi x49)] rfl (fun K=>by kernel_rfl) ?_
   refine WI.takeS 5 (va (slAt s2 1 (Int.toNat x49))) 30 rfl rfl (by kernel_rfl) (by kernel_rfl) (fun w H=>ev_index (Rd.sl hs3) 41 (.tmp 28) (.tmp 29) 22 1 8 .i64 x49 rfl (by kernel_rfl) (by kernel_rfl) (by kernel_rfl) hg65) (li':=#[T,T,T,T,T,T,F,F,F,F,F,F,F]) (by kernel_rfl) ?_
   obtain ⟨x66,hx66,h⟩:=bs h
   refine WI.takeS 6 (vu x66) 31 rfl rfl (by kernel_rfl) (by kernel_rfl) (fun w H=>ev_loadEl (F:=fU64) hs3 (St.hp_le H) hx66 22 (.tmp 30) 0 (vu x66) rfl (by kernel_rfl) (by kernel_rfl)) (li':=#[T,T,T,T,T,T,T,F,F,F,F,F,F]) (by kernel_rfl) ?_
   obtain ⟨t67,ht67,h⟩:=bs h
   refine WI.one 7 (by kernel_rfl) (nod (sl H64 [0,1,3]) (sl H64 [0,1,2,3,4,5])) rfl (Op1.call (by kernel_rfl) (by kernel_rfl) (g_mark_Text_w fuel x66 t67 ht67 _) ?_)
   rintro _ w68 ⟨rfl,Hc69⟩
   have H70:=St.call0' H64 Hc69
   clear H64 Hc69
   refine WI.nS 32 #[T,T,T,T,T,T,T,T,F,F,F,F,F] (by kernel_rfl) rfl ?_
   refine WI.runS [8] 4 _ #[T,T,T,T,T,T,T,T,T,F,F,F,F] [(33,.agg #[vb false,.string t67,vn])] rfl (fun K=>by kernel_rfl) ?_
   have hd71 : dTItem.rel ((un (hp no w0) (fun _=>none))) (TItem.mk false t67 ([])) [vb false,.string t67,vn]:=rTItem.of (x:=TItem.mk false t67 ([])) (RdD.nil dTItem _)
   have hf75 : F2 (dTItem.rel ((un (hp no w0) (fun _=>none)))) ([TItem.mk false t67 ([])] : List TItem) ([dTItem.ce hd71] : List (Cells dTItem.sz)):=(F2.cons hd71 (F2.nil _))
   refine WI.one 9 (by kernel_rfl) (nod (sl H70 [0,1,3]) (sl H70 [0,1,2,3,4,5])) rfl (Op1.lit (F:=fD dTItem) (E:=79) H70 (by kernel_rfl) ([dTItem.ce hd71] : List (Cells dTItem.sz)) (fun w=>by kernel_rfl) (by simp [maxLen]) (fun s73 w76 H77=>?_))
   clear H70
   refine WI.nS 34 #[T,T,T,T,T,T,T,T,T,T,F,F,F] (by kernel_rfl) rfl ?_
   obtain ⟨hg78,h⟩:=gs h
   obtain ⟨l79,hl79,h⟩:=ls h
   refine WI.one 10 (by kernel_rfl) (nod (sl H77 [1,2,4]) (sl H77 [1,2,3,4,5,6])) rfl (Op1.append (F:=fD dTItem) H77 6 rfl (by kernel_rfl) 77 (.tmp 26) (.tmp 34) 48 rfl (by kernel_rfl) (by kernel_rfl) s73 (([dTItem.ce hd71] : List (Cells dTItem.sz))) (St.rd H77 0 rfl) (hp_no_le _) (by kernel_rfl) (app_lenD hf48.1 hf75.1 hg78 (by decide)) (fun s80 w83 H84=>?_))
   clear H77
   have hf82 : F2 (dTItem.rel ((un (hp no w0) (fun _=>none)))) l79 (cs47 ++ ([dTItem.ce hd71] : List (Cells dTItem.sz))):=by rw [hl79]; exact F2.append hf48 hf75
   have sf81:=Own.slD (St.get H84 0 rfl) hf82
   refine WI.nS 35 #[T,T,T,T,T,T,T,T,T,T,T,F,F] (by kernel_rfl) rfl ?_
   refine WI.runS [11] 1 _ #[T,T,T,T,T,T,T,T,T,T,T,T,F] [(36,vp b15 2)] rfl (fun K=>by kernel_rfl) ?_
   refine WI.one 12 (by kernel_rfl) (nod0 (sl H84 [2,3,5]) 10 (by decide) (by kernel_rfl)) rfl (Op1.storeBoxS H84 4 rfl (by kernel_rfl) 77 (.tmp 36) (.tmp 35) 2 (s80) #[vb true,.string ByteArray.empty,s80] sf81 rfl (by kernel_rfl) (by kernel_rfl) (by kernel_rfl) (by kernel_rfl) (by kernel_rfl) (fun w85 H86=>?_))
   clear H84
   refine WI.nS0 #[T,T,T,T,T,T,T,T,T,T,T,T,T] (by kernel_rfl) rfl ?_
   refine WI.done (by kernel_rfl) (nod0 (sl H86 [3,4,5]) 10 (by decide) (by kernel_rfl)) ?_
   exact ⟨l79,s80,((cs47 ++ ([dTItem.ce hd71] : List (Cells dTItem.sz)))),yy H86 [3,4,0,5,6,1] ⟨hf82,h⟩⟩
  rintro a w87 ⟨l58,s59,cs60,G62,rfl,H88,hf61,h⟩
  subst hK63
  refine then_n ?_
  refine zg ?_
  refine zr 1 1 [(37,vp b19 2)] ?_
  refine zv (s41) (llb H88 1 2) ?_
  have hd91 : dTItem.rel ((un (hp no w0) (fun _=>none))) (TItem.mk false x57 ([])) [vb false,.string x57,vn]:=rTItem.of (x:=TItem.mk false x57 ([])) (RdD.nil dTItem _)
  have hf95 : F2 (dTItem.rel ((un (hp no w0) (fun _=>none)))) ([TItem.mk false x57 ([])] : List TItem) ([dTItem.ce hd91] : List (Cells dTItem.sz)):=(F2.cons hd91 (F2.nil _))
  refine zr 2 4 [(40,.agg #[vb false,.string x57,vn]),(39,.string x57)] ?_
  refine WPI.op rfl (Op1.lit (F:=fD dTItem) (E:=79) H88 (by kernel_rfl) ([dTItem.ce hd91] : List (Cells dTItem.sz)) (fun w=>by kernel_rfl) (by simp [maxLen]) (fun s93 w96 H97=>?_))
  clear H88
  obtain ⟨hg98,h⟩:=gs h
  obtain ⟨l99,hl99,h⟩:=ls h
  refine zn ?_
  refine WPI.op rfl (Op1.append (F:=fD dTItem) H97 5 rfl (by kernel_rfl) 77 (.tmp 38) (.tmp 41) 48 rfl (by kernel_rfl) (by kernel_rfl) s93 (([dTItem.ce hd91] : List (Cells dTItem.sz))) (St.rd H97 0 rfl) (hp_no_le _) (by kernel_rfl) (app_lenD hf43.1 hf95.1 hg98 (by decide)) (fun s100 w103 H104=>?_))
  clear H97
  have hf102 : F2 (dTItem.rel ((un (hp no w0) (fun _=>none)))) l99 (cs42 ++ ([dTItem.ce hd91] : List (Cells dTItem.sz))):=by rw [hl99]; exact F2.append hf43 hf95
  have sf101:=Own.slD (St.get H104 0 rfl) hf102
  refine zn ?_
  refine zr 1 7 [(43,vp b19 2)] ?_
  refine WPI.op rfl (Op1.storeBoxS H104 3 rfl (by kernel_rfl) 77 (.tmp 43) (.tmp 42) 2 (s100) #[vb true,.string ByteArray.empty,s100] sf101 rfl (by kernel_rfl) (by kernel_rfl) (by kernel_rfl) (by kernel_rfl) (by kernel_rfl) (fun w105 H106=>?_))
  clear H104
  refine z0 ?_
  refine zd ?_
  refine inb_n (then_n ?_)
  refine zg ?_
  obtain ⟨x107,e,h⟩:=ls h
  refine ze 2 2 [(20,vi x107),(44,vi x107)] ?_
  refine zd ?_
  exact then_n ⟨n,lS n,l99,l58,x107,s100,((cs42 ++ ([dTItem.ce hd91] : List (Cells dTItem.sz)))),s59,cs60,yy H106 [3,0,4,5,1,6] ⟨hf102,hf61,h⟩⟩
 intro a w hq
 refine Exists.elim hq fun l28 hq=>Exists.elim hq fun l33 hq=>Exists.elim hq fun s29 hq=>Exists.elim hq fun cs30 hq=>Exists.elim hq fun s34 hq=>Exists.elim hq fun cs35 hq=>Exists.elim hq fun G37 hq=>?_
 obtain ⟨rfl,H,hf31,hf36,h⟩:=hq
 subst hK38
 obtain ⟨w108,rfl⟩ : ∃ x,x = w:=⟨_,rfl⟩
 have H109:=H; clear H
 refine then_n ?_
 refine zs ?_
 obtain ⟨h112,hu113,hs114,H115⟩:=St.freeze (hb:=hp no w0) (St.sel (Rs':=[Own (fD dTItem) 79 s34 cs35,Fz (fun _=>none),Box b19 #[vb true,.string ByteArray.empty,s29] 79,Box b15 #[vb true,.string ByteArray.empty,s34] 79,Box b6 #[vi p1.From,vi p1.Nonce,vu p1.Tip.e0,vu p1.Tip.e1,vu p1.Tip.e2,vu p1.Tip.e3,vu p1.Cap.e0,vu p1.Cap.e1,vu p1.Cap.e2,vu p1.Cap.e3,vu p1.BlobCap.e0,vu p1.BlobCap.e1,vu p1.BlobCap.e2,vu p1.BlobCap.e3,vu p1.Value_.e0,vu p1.Value_.e1,vu p1.Value_.e2,vu p1.Value_.e3,vi p1.Gas,s2,s4] 44,Own (fD dTItem) 79 s29 cs30]) H109 [5,0,1,2,3,4] (by decide) rfl) (St.hp_le H109)
 have hs116:=RdD.of hs114 (F2.up (un_mono hu113) hf36)
 obtain ⟨h117,hu118,hs119,H120⟩:=St.freeze (hb:=hp no w0) (St.sel (Rs':=[Own (fD dTItem) 79 s29 cs30,Fz h112,Box b19 #[vb true,.string ByteArray.empty,s29] 79,Box b15 #[vb true,.string ByteArray.empty,s34] 79,Box b6 #[vi p1.From,vi p1.Nonce,vu p1.Tip.e0,vu p1.Tip.e1,vu p1.Tip.e2,vu p1.Tip.e3,vu p1.Cap.e0,vu p1.Cap.e1,vu p1.Cap.e2,vu p1.Cap.e3,vu p1.BlobCap.e0,vu p1.BlobCap.e1,vu p1.BlobCap.e2,vu p1.BlobCap.e3,vu p1.Value_.e0,vu p1.Value_.e1,vu p1.Value_.e2,vu p1.Value_.e3,vi p1.Gas,s2,s4] 44]) H115 [4,0,1,2,3] (by decide) rfl) (St.hp_le H115)
 have hs121:=RdD.of hs119 (F2.up (un_mono (Hp.sub_trans hu113 hu118)) hf31)
 obtain ⟨K128,hK128,h⟩:=js h
 refine WP.drawI (by kernel_rfl) (by kernel_rfl) (fun w=>St no w0 w [Fz h117,Box b19 #[vb true,.string ByteArray.empty,s29] 79,Box b15 #[vb true,.string ByteArray.empty,s34] 79,Box b6 #[vi p1.From,vi p1.Nonce,vu p1.Tip.e0,vu p1.Tip.e1,vu p1.Tip.e2,vu p1.Tip.e3,vu p1.Cap.e0,vu p1.Cap.e1,vu p1.Cap.e2,vu p1.Cap.e3,vu p1.BlobCap.e0,vu p1.BlobCap.e1,vu p1.BlobCap.e2,vu p1.BlobCap.e3,vu p1.Value_.e0,vu p1.Value_.e1,vu p1.Value_.e2,vu p1.Value_.e3,vi p1.Gas,s2,s4] 44]) [] (fun w=>St no w0 w [Fz h117,Box b19 #[vb true,.string ByteArray.empty,s29] 79,Box b15 #[vb true,.string ByteArray.empty,s34] 79,Box b6 #[vi p1.From,vi p1.Nonce,vu p1.Tip.e0,vu p1.Tip.e1,vu p1.Tip.e2,vu p1.Tip.e3,vu p1.Cap.e0,vu p1.Cap.e1,vu p1.Cap.e2,vu p1.Cap.e3,vu p1.BlobCap.e0,vu p1.BlobCap.e1,vu p1.BlobCap.e2,vu p1.BlobCap.e3,vu p1.Value_.e0,vu p1.Value_.e1,vu p1.Value_.e2,vu p1.Value_.e3,vi p1.Gas,s2,s4] 44]) (fun a w=>∃ (l123 : List TItem) (s124 : Value) (cs125 : List (Cells dTItem.sz)) (G127 : Nat → Value),a = S 74 G127 [(9,s124)] []∧St no w0 w [Fz h117,Box b19 #[vb true,.string ByteArray.empty,s29] 79,Box b15 #[vb true,.string ByteArray.empty,s34] 79,Box b6 #[vi p1.From,vi p1.Nonce,vu p1.Tip.e0,vu p1.Tip.e1,vu p1.Tip.e2,vu p1.Tip.e3,vu p1.Cap.e0,vu p1.Cap.e1,vu p1.Cap.e2,vu p1.Cap.e3,vu p1.BlobCap.e0,vu p1.BlobCap.e1,vu p1.BlobCap.e2,vu p1.BlobCap.e3,vu p1.Value_.e0,vu p1.Value_.e1,vu p1.Value_.e2,vu p1.Value_.e3,vi p1.Gas,s2,s4] 44,Own (fD dTItem) 79 s124 cs125]∧F2 (dTItem.rel ((un (hp no w0) h117))) l123 cs125∧K128 l123 = some r) 25 #[F,F,F,F,F,F,F,F,F,F,F,F,F,F,F,F,F,F,F,F,F,F,F,F,F] (by kernel_rfl) (by kernel_rfl) ?_ ?_
 ·have H129:=St.drew H120
  refine WI.runS [0] 24 _ #[T,F,F,F,F,F,F,F,F,F,F,F,F,F,F,F,F,F,F,F,F,F,F,F,F] [(45,vp b6 0)] rfl (fun K=>by kernel_rfl) ?_
  refine WI.takeS 1 (vi p1.From) 46 rfl rfl (by kernel_rfl) (by kernel_rfl) (fun w H=>ev_loadBox H 3 rfl 3 (.tmp 45) 0 (vi p1.From) rfl (by kernel_rfl) (by kernel_rfl)) (li':=#[T,T,F,F,F,F,F,F,F,F,F,F,F,F,F,F,F,F,F,F,F,F,F,F,F]) (by kernel_rfl) ?_
  refine WI.runS [3] 22 _ #[T,T,F,T,F,F,F,F,F,F,F,F,F,F,F,F,F,F,F,F,F,F,F,F,F] [(48,vp b6 1)] rfl (fun K=>by kernel_rfl) ?_
  refine WI.takeS 4 (vi p1.Nonce) 49 rfl rfl (by kernel_rfl) (by kernel_rfl) (fun w H=>ev_loadBox H 3 rfl 3 (.tmp 48) 1 (vi p1.Nonce) rfl (by kernel_rfl) (by kernel_rfl)) (li':=#[T,T,F,T,T,F,F,F,F,F,F,F,F,F,F,F,F,F,F,F,F,F,F,F,F]) (by kernel_rfl) ?_
  refine WI.runS [6] 20 _ #[T,T,F,T,T,F,T,F,F,F,F,F,F,F,F,F,F,F,F,F,F,F,F,F,F] [(51,vp b6 2)] rfl (fun K=>by kernel_rfl) ?_
  refine WI.takeS 7 (TU256.val p1.Tip) 52 rfl rfl (by kernel_rfl) (by kernel_rfl) (fun w H=>ev_loadBox H 3 rfl 24 (.tmp 51) 2 (TU256.val p1.Tip) rfl (by kernel_rfl) (by kernel_rfl)) (li':=#[T,T,F,T,T,F,T,T,F,F,F,F,F,F,F,F,F,F,F,F,F,F,F,F,F]) (by kernel_rfl) ?_
  refine WI.runS [9] 18 _ #[T,T,F,T,T,F,T,T,F,T,F,F,F,F,F,F,F,F,F,F,F,F,F,F,F] [(54,vp b6 6)] rfl (fun K=>by kernel_rfl) ?_
  refine WI.takeS 10 (TU256.val p1.Cap) 55 rfl rfl (by kernel_rfl) (by kernel_rfl) (fun w H=>ev_loadBox H 3 rfl 24 (.tmp 54) 6 (TU256.val p1.Cap) rfl (by kernel_rfl) (by kernel_rfl)) (li':=#[T,T,F,T,T,F,T,T,F,T,T,F,F,F,F,F,F,F,F,F,F,F,F,F,F]) (by kernel_rfl) ?_
  refine WI.runS [12] 16 _ #[T,T,F,T,T,F,T,T,F,T,T,F,T,F,F,F,F,F,F,F,F,F,F,F,F] [(57,vp b6 10)] rfl (fun K=>by kernel_rfl) ?_
  refine WI.takeS 13 (TU256.val p1.BlobCap) 58 rfl rfl (by kernel_rfl) (by kernel_rfl) (fun w H=>ev_loadBox H 3 rfl 24 (.tmp 57) 10 (TU256.val p1.BlobCap) rfl (by kernel_rfl) (by kernel_rfl)) (li':=#[T,T,F,T,T,F,T,T,F,T,T,F,T,T,F,F,F,F,F,F,F,F,F,F,F]) (by kernel_rfl) ?_
  refine WI.runS [15] 14 _ #[T,T,F,T,T,F,T,T,F,T,T,F,T,T,F,T,F,F,F,F,F,F,F,F,F] [(60,vp b6 14)] rfl (fun K=>by kernel_rfl) ?_
  refine WI.takeS 16 (TU256.val p1.Value_) 61 rfl rfl (by kernel_rfl) (by kernel_rfl) (fun w H=>ev_loadBox H 3 rfl 24 (.tmp 60) 14 (TU256.val p1.Value_) rfl (by kernel_rfl) (by kernel_rfl)) (li':=#[T,T,F,T,T,F,T,T,F,T,T,F,T,T,F,T,T,F,F,F,F,F,F,F,F]) (by kernel_rfl) ?_
  refine WI.runS [18] 12 _ #[T,T,F,T,T,F,T,T,F,T,T,F,T,T,F,T,T,F,T,F,F,F,F,F,F] [(63,vp b6 18)] rfl (fun K=>by kernel_rfl) ?_
  refine WI.takeS 19 (vi p1.Gas) 64 rfl rfl (by kernel_rfl) (by kernel_rfl) (fun w H=>ev_loadBox H 3 rfl 3 (.tmp 63) 18 (vi p1.Gas) rfl (by kernel_rfl) (by kernel_rfl)) (li':=#[T,T,F,T,T,F,T,T,F,T,T,F,T,T,F,T,T,F,T,T,F,F,F,F,F]) (by kernel_rfl) ?_
  refine WI.takeS 21 (.agg #[vb true,.string ByteArray.empty,s34]) 66 rfl rfl (by kernel_rfl) (by kernel_rfl) (fun w H=>ev_loadBox H 2 rfl 79 (.tmp 5) 0 (.agg #[vb true,.string ByteArray.empty,s34]) rfl (by kernel_rfl) (by kernel_rfl)) (li':=#[T,T,F,T,T,F,T,T,F,T,T,F,T,T,F,T,T,F,T,T,F,T,F,F,F]) (by kernel_rfl) ?_
  refine WI.takeS 22 (.agg #[vb true,.string ByteArray.empty,s29]) 67 rfl rfl (by kernel_rfl) (by kernel_rfl) (fun w H=>ev_loadBox H 1 rfl 79 (.tmp 6) 0 (.agg #[vb true,.string ByteArray.empty,s29]) rfl (by kernel_rfl) (by kernel_rfl)) (li':=#[T,T,F,T,T,F,T,T,F,T,T,F,T,T,F,T,T,F,T,T,F,T,T,F,F]) (by kernel_rfl) ?_
  obtain ⟨t130,ht130,h⟩:=bs h
  refine WI.one 2 (by kernel_rfl) (nod (sl H129 [0,1,2,3]) (sl H129 [0,1,2,3])) rfl (Op1.call (by kernel_rfl) (by kernel_rfl) (g_tx_number_w fuel p1.From t130 ht130 _) ?_)
  rintro _ w131 ⟨rfl,Hc132⟩
  have H133:=St.call0' H129 Hc132
  clear H129 Hc132
  refine WI.nS 47 #[T,T,T,T,T,F,T,T,F,T,T,F,T,T,F,T,T,F,T,T,F,T,T,F,F] (by kernel_rfl) rfl ?_
  obtain ⟨t134,ht134,h⟩:=bs h
  refine WI.one 5 (by kernel_rfl) (nod (sl H133 [0,1,2,3]) (sl H133 [0,1,2,3])) rfl (Op1.call (by kernel_rfl) (by kernel_rfl) (g_tx_number_w fuel p1.Nonce t134 ht134 _) ?_)
  rintro _ w135 ⟨rfl,Hc136⟩
  have H137:=St.call0' H133 Hc136
  clear H133 Hc136
  refine WI.nS 50 #[T,T,T,T,T,T,T,T,F,T,T,F,T,T,F,T,T,F,T,T,F,T,T,F,F] (by kernel_rfl) rfl ?_
  obtain ⟨t138,ht138,h⟩:=bs h
  refine WI.one 8 (by kernel_rfl) (nod (sl H137 [0,1,2,3]) (sl H137 [0,1,2,3])) rfl (Op1.call (by kernel_rfl) (by kernel_rfl) (g_tx_amount_w fuel p1.Tip t138 ht138 _) ?_)
  rintro _ w139 ⟨rfl,Hc140⟩
  have H141:=St.call0' H137 Hc140
  clear H137 Hc140
  refine WI.nS 53 #[T,T,T,T,T,T,T,T,T,T,T,F,T,T,F,T,T,F,T,T,F,T,T,F,F] (by kernel_rfl) rfl ?_
  obtain ⟨t142,ht142,h⟩:=bs h
  refine WI.one 11 (by kernel_rfl) (nod (sl H141 [0,1,2,3]) (sl H141 [0,1,2,3])) rfl (Op1.call (by kernel_rfl) (by kernel_rfl) (g_tx_amount_w fuel p1.Cap t142 ht142 _) ?_)
  rintro _ w143 ⟨rfl,Hc144⟩
  have H145:=St.call0' H141 Hc144
  clear H141 Hc144
  refine WI.nS 56 #[T,T,T,T,T,T,T,T,T,T,T,T,T,T,F,T,T,F,T,T,F,T,T,F,F] (by kernel_rfl) rfl ?_
  obtain ⟨t146,ht146,h⟩:=bs h
  refine WI.one 14 (by kernel_rfl) (nod (sl H145 [0,1,2,3]) (sl H145 [0,1,2,3])) rfl (Op1.call (by kernel_rfl) (by kernel_rfl) (g_tx_amount_w fuel p1.BlobCap t146 ht146 _) ?_)
  rintro _ w147 ⟨rfl,Hc148⟩
  have H149:=St.call0' H145 Hc148
  clear H145 Hc148
  refine WI.nS 59 #[T,T,T,T,T,T,T,T,T,T,T,T,T,T,T,T,T,F,T,T,F,T,T,F,F] (by kernel_rfl) rfl ?_
  obtain ⟨t150,ht150,h⟩:=bs h
  refine WI.one 17 (by kernel_rfl) (nod (sl H149 [0,1,2,3]) (sl H149 [0,1,2,3])) rfl (Op1.call (by kernel_rfl) (by kernel_rfl) (g_tx_amount_w fuel p1.Value_ t150 ht150 _) ?_)
  rintro _ w151 ⟨rfl,Hc152⟩
  have H153:=St.call0' H149 Hc152
  clear H149 Hc152
  refine WI.nS 62 #[T,T,T,T,T,T,T,T,T,T,T,T,T,T,T,T,T,T,T,T,F,T,T,F,F] (by kernel_rfl) rfl ?_
  obtain ⟨t154,ht154,h⟩:=bs h
  refine WI.one 20 (by kernel_rfl) (nod (sl H153 [0,1,2,3]) (sl H153 [0,1,2,3])) rfl (Op1.call (by kernel_rfl) (by kernel_rfl) (g_tx_number_w fuel p1.Gas t154 ht154 _) ?_)
  rintro _ w155 ⟨rfl,Hc156⟩
  have H157:=St.call0' H153 Hc156
  clear H153 Hc156
  refine WI.nS 65 #[T,T,T,T,T,T,T,T,T,T,T,T,T,T,T,T,T,T,T,T,T,T,T,F,F] (by kernel_rfl) rfl ?_
  have hd158 : dTItem.rel ((un (hp no w0) h117)) (TItem.mk t130.List_ t130.Text ([])) [vb t130.List_,.string t130.Text,vn]:=rTItem.of (x:=TItem.mk t130.List_ t130.Text ([])) (RdD.nil dTItem _)
  have hd159 : dTItem.rel ((un (hp no w0) h117)) (TItem.mk t134.List_ t134.Text ([])) [vb t134.List_,.string t134.Text,vn]:=rTItem.of (x:=TItem.mk t134.List_ t134.Text ([])) (RdD.nil dTItem _)
  have hd160 : dTItem.rel ((un (hp no w0) h117)) (TItem.mk t138.List_ t138.Text ([])) [vb t138.List_,.string t138.Text,vn]:=rTItem.of (x:=TItem.mk t138.List_ t138.Text ([])) (RdD.nil dTItem _)
  have hd161 : dTItem.rel ((un (hp no w0) h117)) (TItem.mk t142.List_ t142.Text ([])) [vb t142.List_,.string t142.Text,vn]:=rTItem.of (x:=TItem.mk t142.List_ t142.Text ([])) (RdD.nil dTItem _)
  have hd162 : dTItem.rel ((un (hp no w0) h117)) (TItem.mk t146.List_ t146.Text ([])) [vb t146.List_,.string t146.Text,vn]:=rTItem.of (x:=TItem.mk t146.List_ t146.Text ([])) (RdD.nil dTItem _)
  have hd163 : dTItem.rel ((un (hp no w0) h117)) (TItem.mk t150.List_ t150.Text ([])) [vb t150.List_,.string t150.Text,vn]:=rTItem.of (x:=TItem.mk t150.List_ t150.Text ([])) (RdD.nil dTItem _)
  have hd164 : dTItem.rel ((un (hp no w0) h117)) (TItem.mk t154.List_ t154.Text ([])) [vb t154.List_,.string t154.Text,vn]:=rTItem.of (x:=TItem.mk t154.List_ t154.Text ([])) (RdD.nil dTItem _)
  have hd165 : dTItem.rel ((un (hp no w0) h117)) (TItem.mk true ByteArray.empty l33) [vb true,.string ByteArray.empty,s34]:=rTItem.of (x:=TItem.mk true ByteArray.empty l33) (RdD.mono (un_mono hu118) hs116)
  have hd166 : dTItem.rel ((un (hp no w0) h117)) (TItem.mk true ByteArray.empty l28) [vb true,.string ByteArray.empty,s29]:=rTItem.of (x:=TItem.mk true ByteArray.empty l28) hs121
  have hf170 : F2 (dTItem.rel ((un (hp no w0) h117))) ([TItem.mk t130.List_ t130.Text ([]),TItem.mk t134.List_ t134.Text ([]),TItem.mk t138.List_ t138.Text ([]),TItem.mk t142.List_ t142.Text ([]),TItem.mk t146.List_ t146.Text ([]),TItem.mk t150.List_ t150.Text ([]),TItem.mk t154.List_ t154.Text ([]),TItem.mk true ByteArray.empty l33,TItem.mk true ByteArray.empty l28] : List TItem) ([dTItem.ce hd158,dTItem.ce hd159,dTItem.ce hd160,dTItem.ce hd161,dTItem.ce hd162,dTItem.ce hd163,dTItem.ce hd164,dTItem.ce hd165,dTItem.ce hd166] : List (Cells dTItem.sz)):=(F2.cons hd158 (F2.cons hd159 (F2.cons hd160 (F2.cons hd161 (F2.cons hd162 (F2.cons hd163 (F2.cons hd164 (F2.cons hd165 (F2.cons hd166 (F2.nil _))))))))))
  refine WI.one 23 (by kernel_rfl) (nod (sl H157 [0,1,2,3]) (sl H157 [0,1,2,3])) rfl (Op1.lit (F:=fD dTItem) (E:=79) H157 (by kernel_rfl) ([dTItem.ce hd158,dTItem.ce hd159,dTItem.ce hd160,dTItem.ce hd161,dTItem.ce hd162,dTItem.ce hd163,dTItem.ce hd164,dTItem.ce hd165,dTItem.ce hd166] : List (Cells dTItem.sz)) (fun w=>by kernel_rfl) (by simp [maxLen]) (fun s168 w171 H172=>?_))
  clear H157
  refine WI.nS 68 #[T,T,T,T,T,T,T,T,T,T,T,T,T,T,T,T,T,T,T,T,T,T,T,T,F] (by kernel_rfl) rfl ?_
  refine WI.runS [24] 0 _ #[T,T,T,T,T,T,T,T,T,T,T,T,T,T,T,T,T,T,T,T,T,T,T,T,T] [(9,s168)] rfl (fun K=>by kernel_rfl) ?_
  refine WI.done (by kernel_rfl) (nod (sl H172 [1,2,3,4]) (sl H172 [1,2,3,4])) ?_
  exact ⟨(([TItem.mk t130.List_ t130.Text ([]),TItem.mk t134.List_ t134.Text ([]),TItem.mk t138.List_ t138.Text ([]),TItem.mk t142.List_ t142.Text ([]),TItem.mk t146.List_ t146.Text ([]),TItem.mk t150.List_ t150.Text ([]),TItem.mk t154.List_ t154.Text ([]),TItem.mk true ByteArray.empty l33,TItem.mk true ByteArray.empty l28] : List TItem)),s168,(([dTItem.ce hd158,dTItem.ce hd159,dTItem.ce hd160,dTItem.ce hd161,dTItem.ce hd162,dTItem.ce hd163,dTItem.ce hd164,dTItem.ce hd165,dTItem.ce hd166] : List (Cells dTItem.sz))),yy H172 [1,2,3,4,0] ⟨hf170,h⟩⟩
 rintro a w173 ⟨l123,s124,cs125,G127,rfl,H174,hf126,h⟩
 subst hK128
 have sf175:=Own.slD (St.get H174 4 rfl) hf126
 refine then_n ?_
 refine zsg ?_
 obtain ⟨t176,ht176,h⟩:=bs h
 refine zr 2 2 [(70,.agg #[vb true,.string ByteArray.empty,s124]),(69,s124)] ?_ rfl (fun K=>by obtain ⟨_,_,rfl,_⟩:=sf175; kernel_rfl)
 refine zo (oca (g_item_Bytes_w fuel s124 (TItem.mk true ByteArray.empty l123) t176 ht176 _ (St.rdD H174 4 rfl hf126 (un_le (St.hp_le H174) (St.fz_le H174 0 rfl)))) ?_)
 rintro _ w177 ⟨rfl,Hc178⟩
 have H179:=St.call0' H174 Hc178
 clear H174 Hc178
 refine zn ?_
 refine zrd 4 7 [(3,vi t176.2),(2,.string t176.1),(73,vi t176.2),(72,.string t176.1)] ?_
 refine WP.ret ?_
 obtain rfl:=oi h
 exact post_r (.tuple #[.string t176.1,vi t176.2]) rfl (by kernel_rfl) ⟨rfl,sl H179 []⟩
/- tarn/tx.ID -/
def g_tx_ID (fuel : Nat) (p1 : TTx) : Option (Int × Int) :=
  bd (g_tx_Bytes fuel p1) fun t10 => lt (t10.2 != 0) fun c14 => br c14 (some (0, t10.2)) (bd (g_mark_Mark fuel t10.1) fun t15 => some (t15, 0))
theorem g_tx_ID_w (fuel : Nat) (s2 s4 : Value) (p1 : TTx) (r : Int × Int) (h : g_tx_ID fuel p1 = some r) (w0 : World) (hs3 : Rd fU64 (hp no w0) s2 p1.Hashes) (hs5 : Rd fStr (hp no w0) s4 p1.Blobs) :
 Ret Tryz.prog 52 #[(gTx p1 s2 s4)] w0 (fun v w' => v = .tuple #[vu r.1, vi r.2] ∧ St no w0 w' []) := by
 unfold g_tx_ID at h
 refine ret_of_wpS Tryz.func52 rfl 16 rfl [(0,(gTx p1 s2 s4))] (by kernel_rfl) (fun G=>?_)
 have H0:=St.start w0
 refine zsg ?_
 refine zo (obx H0 #[vi p1.From,vi p1.Nonce,vu p1.Tip.e0,vu p1.Tip.e1,vu p1.Tip.e2,vu p1.Tip.e3,vu p1.Cap.e0,vu p1.Cap.e1,vu p1.Cap.e2,vu p1.Cap.e3,vu p1.BlobCap.e0,vu p1.BlobCap.e1,vu p1.BlobCap.e2,vu p1.BlobCap.e3,vu p1.Value_.e0,vu p1.Value_.e1,vu p1.Value_.e2,vu p1.Value_.e3,vi p1.Gas,s2,s4] 44 (fun b6 w8 H9=>?_))
 refine zn ?_
 refine zrd 2 3 [(3,vi 0),(2,vu 0)] ?_
 refine zsg ?_
 refine zv ((gTx p1 s2 s4)) (llb H9 0 0) ?_
 obtain ⟨t10,ht10,h⟩:=bs h
 refine zo (oca (g_tx_Bytes_w fuel s2 s4 p1 t10 ht10 _ (Rd.arg0 hs3 H9) (Rd.arg0 hs5 H9)) ?_)
 rintro _ w11 ⟨rfl,Hc12⟩
 have H13:=St.call0' H9 Hc12
 clear H9 Hc12
 refine zn ?_
 refine zrd 5 7 [(5,vi t10.2),(4,.string t10.1),(10,vi t10.2),(9,.string t10.1),(6,.tuple #[.string t10.1,vi t10.2])] ?_
 refine zs ?_
 refine zsg ?_
 obtain ⟨c14,e,h⟩:=ls h
 refine zed 2 2 [(12,vb c14),(11,vi t10.2)] ?_
 cases c14
 rotate_left
 ·replace h:=bt h
  refine zT ?_
  refine zsg ?_
  refine zrd 3 3 [(3,vi t10.2),(2,vu 0),(13,vi t10.2)] ?_
  refine WP.ret ?_
  obtain rfl:=oi h
  exact then_r (post_r (.tuple #[vu 0,vi t10.2]) rfl (by kernel_rfl) ⟨rfl,sl H13 []⟩)
 replace h:=bf h
 refine zFn ?_
 refine zsg ?_
 obtain ⟨t15,ht15,h⟩:=bs h
 refine zr 1 1 [(14,.string t10.1)] ?_
 refine zo (oca (g_mark_Mark_w fuel t10.1 t15 ht15 _) ?_)
 rintro _ w16 ⟨rfl,Hc17⟩
 have H18:=St.call0' H13 Hc17
 clear H13 Hc17
 refine zn ?_
 refine zrd 2 4 [(3,vi 0),(2,vu t15)] ?_
 refine WP.ret ?_
 obtain rfl:=oi h
 exact post_r (.tuple #[vu t15,vi 0]) rfl (by kernel_rfl) ⟨rfl,sl H18 []⟩
/- tarn/pool.Limbo -/
def g_pool_Limbo_l1 (l2 : List THeld) (fuel : Nat) (K5 : Option Bool) : Nat → Int → Int → Option Bool
  | 0, _, _ => none
  | n + 1, x6, x7 => lt (decide (x7 < (((List.length l2 : Nat) : Int)))) fun c11 => br c11 (gd ((0 : Int) ≤ x7 ∧ x7 < ((List.length l2 : Nat) : Int)) <| bd (l2[Int.toNat x7]?) fun x13 => bd (g_tx_ID fuel x13.Tx) fun t27 => jn (fun (c31 : Bool) => br c31 (some false) (lt (wr .i64 (x7 + 1)) fun x43 => g_pool_Limbo_l1 l2 fuel K5 n t27.1 x43)) fun K33 => lt (t27.2 != 0) fun c34 => br c34 (K33 true) (lt (decide (x7 > 0)) fun c35 => br c35 (lt (decide (t27.1 ≤ x6)) fun c38 => br c38 (K33 true) (lt (decide (x13.Block < 0)) fun c39 => br c39 (K33 true) (lt (decide (x13.Block > 1099511627776)) fun c40 => K33 c40))) (lt (decide (x13.Block < 0)) fun c36 => br c36 (K33 true) (lt (decide (x13.Block > 1099511627776)) fun c37 => K33 c37)))) (K5)
def g_pool_Limbo (fuel : Nat) (l2 : List THeld) : Option Bool :=
  lt (decide ((((List.length l2 : Nat) : Int)) > 48)) fun c3 => br c3 (some false) (jn (some true) fun K5 => g_pool_Limbo_l1 l2 fuel K5 fuel 0 0)
theorem g_pool_Limbo_w (fuel : Nat) (s1 : Value) (l2 : List THeld) (r : Bool) (h : g_pool_Limbo fuel l2 = some r) (w0 : World) (hs1 : RdD dTHeld (hp no w0) s1 l2) :
 Ret Tryz.prog 47 #[s1] w0 (fun v w' => v = vb r ∧ St no w0 w' []) := by
 unfold g_pool_Limbo at h
 refine ret_of_wpS Tryz.func47 rfl 47 rfl [(0,s1)] (by kernel_rfl) (fun G=>?_)
 have H0:=St.start w0
 refine zsg ?_
 refine zrd 1 1 [(2,vb false)] ?_
 refine zs ?_
 refine zsg ?_
 refine zr 1 1 [(8,s1)] ?_
 refine zv (vi (((List.length l2 : Nat) : Int))) (lln (RdD.sl hs1) 46 22 208) ?_
 obtain ⟨c3,e,h⟩:=ls h
 refine zed 1 3 [(10,vb c3)] ?_
 cases c3
 rotate_left
 ·replace h:=bt h
  refine zT ?_
  refine zsg ?_
  refine zrd 1 1 [(2,vb false)] ?_
  refine WP.ret ?_
  obtain rfl:=oi h
  exact then_r (post_r (vb false) rfl (by kernel_rfl) ⟨rfl,sl H0 []⟩)
 replace h:=bf h
 refine zFn ?_
 refine zsg ?_
 refine zrd 1 1 [(3,vu 0)] ?_
 refine zs ?_
 refine zsg ?_
 refine zr 1 1 [(11,s1)] ?_
 refine zv (vi (((List.length l2 : Nat) : Int))) (lln (RdD.sl hs1) 46 22 208) ?_
 refine zrd 1 3 [(13,vi 0)] ?_
 obtain ⟨K5,hK5,h⟩:=js h
 refine WP.blockJ (fun a w=>Y 47 [] [] no w0 [] (K5 = some r) a w) ?_ ?_
 ·refine WP.loop (fun n a w=>∃ (x6 : Int) (x7 : Int),Y 47 [(3,vu x6),(11,s1),(12,vi (((List.length l2 : Nat) : Int))),(13,vi x7)] [] no w0 [] (g_pool_Limbo_l1 l2 fuel K5 n x6 x7 = some r) a w) fuel ⟨0,0,yy H0 [] h⟩ ?_
  rintro n a w9 ⟨x6,x7,G8,rfl,H10,h⟩
  obtain _ | n:=n
  ·rw [g_pool_Limbo_l1] at h; cases h
  rw [g_pool_Limbo_l1] at h
  refine zsg ?_
  obtain ⟨c11,e,h⟩:=ls h
  refine zed 1 1 [(14,vb c11)] ?_
  refine zs ?_
  cases c11
  ·replace h:=bf h
   refine zF ?_
   refine WP.exit ?_
   exact then_e (then_e (inb_e (then_n (yy H10 [] h))))
  replace h:=bt h
  refine zTn ?_
  refine zs ?_
  refine WP.block ?_
  refine zsg ?_
  obtain ⟨hg12,h⟩:=gs h
  refine zr 1 1 [(15,vi x7)] ?_
  refine zv (va (slAt s1 22 (Int.toNat x7))) (lli (RdD.sl hs1) 46 22 208 .i64 x7 hg12) ?_
  obtain ⟨x13,hx13,h⟩:=bs h
  obtain ⟨c18,hr19,hc20⟩:=RdD.at_ hs1 _ _ hx13
  obtain ⟨s14,s16,rfl,hs15,hs17⟩:=hr19
  refine zv ((gHd x13 s14 s16)) (lld 0 hc20 (St.hp_le H10)) ?_
  refine zo (oal H10 #[vi 0,vi 0,vu 0,vu 0,vu 0,vu 0,vu 0,vu 0,vu 0,vu 0,vu 0,vu 0,vu 0,vu 0,vu 0,vu 0,vu 0,vu 0,vi 0,vn,vn,vi 0] 46 (fun b21 w23 H24=>?_))
  clear H10
  refine zn ?_
  refine zr 1 5 [(4,vi x7)] ?_
  refine zo (osb H24 0 0 ((gHd x13 s14 s16)) #[vi x13.Tx.From,vi x13.Tx.Nonce,vu x13.Tx.Tip.e0,vu x13.Tx.Tip.e1,vu x13.Tx.Tip.e2,vu x13.Tx.Tip.e3,vu x13.Tx.Cap.e0,vu x13.Tx.Cap.e1,vu x13.Tx.Cap.e2,vu x13.Tx.Cap.e3,vu x13.Tx.BlobCap.e0,vu x13.Tx.BlobCap.e1,vu x13.Tx.BlobCap.e2,vu x13.Tx.BlobCap.e3,vu x13.Tx.Value_.e0,vu x13.Tx.Value_.e1,vu x13.Tx.Value_.e2,vu x13.Tx.Value_.e3,vi x13.Tx.Gas,s14,s16,vi x13.Block] true (oc1 rfl (oc1 rfl (oc1 rfl (oc1 rfl (oc1 rfl (oc1 rfl (oc1 rfl (oc1 rfl (oc1 rfl (oc1 rfl (oc1 rfl (oc1 rfl (oc1 rfl (oc1 rfl (oc1 rfl (oc1 rfl (oc1 rfl (oc1 rfl (oc1 rfl (oc1 (IsSl.one (Rd.sl hs15)) (oc1 (IsSl.one (Rd.sl hs17)) (oc1 rfl oc0)))))))))))))))))))))) (fun w25 H26=>?_))
  clear H24
  refine z0 ?_
  refine zdn ?_
  refine zsg ?_
  refine zr 1 1 [(19,vp b21 0)] ?_
  refine zv ((gTx x13.Tx s14 s16)) (llb H26 0 0) ?_
  obtain ⟨t27,ht27,h⟩:=bs h
  refine zo (oca (g_tx_ID_w fuel s14 s16 x13.Tx t27 ht27 _ (Rd.arg0 hs15 H26) (Rd.arg0 hs17 H26)) ?_)
  rintro _ w28 ⟨rfl,Hc29⟩
  have H30:=St.call0' H26 Hc29
  clear H26 Hc29
  refine zn ?_
  refine zrd 5 8 [(7,vi t27.2),(6,vu t27.1),(23,vi t27.2),(22,vu t27.1),(18,.tuple #[vu t27.1,vi t27.2])] ?_
  refine zs ?_
  refine zs ?_
  obtain ⟨K33,hK33,h⟩:=js h
  refine WP.onlyN (fun a w=>∃ (c31 : Bool),Y 47 [(6,vu t27.1),(11,s1),(12,vi (((List.length l2 : Nat) : Int))),(13,vi x7),(44,vb c31)] [] no w0 [Box b21 #[vi x13.Tx.From,vi x13.Tx.Nonce,vu x13.Tx.Tip.e0,vu x13.Tx.Tip.e1,vu x13.Tx.Tip.e2,vu x13.Tx.Tip.e3,vu x13.Tx.Cap.e0,vu x13.Tx.Cap.e1,vu x13.Tx.Cap.e2,vu x13.Tx.Cap.e3,vu x13.Tx.BlobCap.e0,vu x13.Tx.BlobCap.e1,vu x13.Tx.BlobCap.e2,vu x13.Tx.BlobCap.e3,vu x13.Tx.Value_.e0,vu x13.Tx.Value_.e1,vu x13.Tx.Value_.e2,vu x13.Tx.Value_.e3,vi x13.Tx.Gas,s14,s16,vi x13.Block] 46] (K33 c31 = some r) a w) ?_ ?_
  ·refine zg ?_
   obtain ⟨c34,e,h⟩:=ls h
   refine ze 3 3 [(26,vb c34),(25,vb c34),(24,vi t27.2)] ?_
   cases c34
   rotate_left
   ·replace h:=bt h
    refine zr 18 21 [(44,vb true),(43,Z),(42,Z),(41,Z),(40,vb true),(39,vb true),(38,Z),(37,Z),(36,Z),(35,vb true),(34,vb true),(33,Z),(32,Z),(31,Z),(30,Z),(29,Z),(28,Z),(27,Z)] ?_
    refine zd ?_
    exact ⟨true,yy H30 [0] h⟩
   replace h:=bf h
   obtain ⟨c35,e,h⟩:=ls h
   refine ze 3 6 [(29,vb c35),(28,vb c35),(27,vi x7)] ?_
   cases c35
   ·replace h:=bf h
    refine zr 7 13 [(36,vp b21 21),(35,vb false),(34,vb false),(33,vb false),(32,Z),(31,Z),(30,Z)] ?_
    refine zv (vi x13.Block) (llb H30 0 21) ?_
    obtain ⟨c36,e,h⟩:=ls h
    refine ze 3 17 [(40,vb c36),(39,vb c36),(38,vb c36)] ?_
    cases c36
    rotate_left
    ·replace h:=bt h
     refine zr 4 21 [(44,vb true),(43,Z),(42,Z),(41,Z)] ?_
     refine zd ?_
     exact ⟨true,yy H30 [0] h⟩
    replace h:=bf h
    refine zr 1 18 [(41,vp b21 21)] ?_
    refine zv (vi x13.Block) (llb H30 0 21) ?_
    obtain ⟨c37,e,h⟩:=ls h
    refine ze 2 21 [(44,vb c37),(43,vb c37)] ?_
    refine zd ?_
    exact ⟨c37,yy H30 [0] h⟩
   replace h:=bt h
   obtain ⟨c38,e,h⟩:=ls h
   refine ze 6 12 [(35,vb c38),(34,vb c38),(33,vb c38),(32,vb c38),(31,vu x6),(30,vu t27.1)] ?_
   cases c38
   rotate_left
   ·replace h:=bt h
    refine zr 9 21 [(44,vb true),(43,Z),(42,Z),(41,Z),(40,vb true),(39,vb true),(38,Z),(37,Z),(36,Z)] ?_
    refine zd ?_
    exact ⟨true,yy H30 [0] h⟩
   replace h:=bf h
   refine zr 1 13 [(36,vp b21 21)] ?_
   refine zv (vi x13.Block) (llb H30 0 21) ?_
   obtain ⟨c39,e,h⟩:=ls h
   refine ze 3 17 [(40,vb c39),(39,vb c39),(38,vb c39)] ?_
   cases c39
   rotate_left
   ·replace h:=bt h
    refine zr 4 21 [(44,vb true),(43,Z),(42,Z),(41,Z)] ?_
    refine zd ?_
    exact ⟨true,yy H30 [0] h⟩
   replace h:=bf h
   refine zr 1 18 [(41,vp b21 21)] ?_
   refine zv (vi x13.Block) (llb H30 0 21) ?_
   obtain ⟨c40,e,h⟩:=ls h
   refine ze 2 21 [(44,vb c40),(43,vb c40)] ?_
   refine zd ?_
   exact ⟨c40,yy H30 [0] h⟩
  rintro a w41 ⟨c31,G32,rfl,H42,h⟩
  subst hK33
  refine then_n ?_
  cases c31
  rotate_left
  ·replace h:=bt h
   refine zT ?_
   refine zsg ?_
   refine zrd 1 1 [(2,vb false)] ?_
   refine WP.ret ?_
   obtain rfl:=oi h
   exact then_r (inb_r (then_r (then_r (inb_r (then_r (then_r (post_r (vb false) rfl (by kernel_rfl) ⟨rfl,sl H42 []⟩)))))))
  replace h:=bf h
  refine zFn ?_
  refine zg ?_
  refine zr 2 2 [(3,vu t27.1),(45,vu t27.1)] ?_
  refine zd ?_
  refine inb_n (then_n ?_)
  refine zg ?_
  obtain ⟨x43,e,h⟩:=ls h
  refine ze 2 2 [(13,vi x43),(46,vi x43)] ?_
  refine zd ?_
  exact then_n ⟨n,lS n,t27.1,x43,yy H42 [] h⟩
 rintro a w44 ⟨G4,rfl,H45,h⟩
 subst hK5
 refine then_n ?_
 refine zsg ?_
 refine zrd 1 1 [(2,vb true)] ?_
 refine WP.ret ?_
 obtain rfl:=oi h
 exact post_r (vb true) rfl (by kernel_rfl) ⟨rfl,sl H45 []⟩
/- tarn/pool.chains$1 -/
def g_pool_chains_1_l2 {σ : Type} (K46 : Int → Option σ) (l17 : List TTx) (x36 : TTx) (fuel : Nat) : Nat → Int → Option σ
  | 0, _ => none
  | n + 1, x47 => jn (fun (c51 : Bool) => br c51 (lt (wr .i64 (x47 + 1)) fun x67 => g_pool_chains_1_l2 K46 l17 x36 fuel n x67) (K46 x47)) fun K53 => lt (decide (x47 < (((List.length l17 : Nat) : Int)))) fun c54 => br c54 (gd ((0 : Int) ≤ x47 ∧ x47 < ((List.length l17 : Nat) : Int)) <| bd (l17[Int.toNat x47]?) fun x56 => lt (x56.From == x36.From) fun c64 => K53 c64) (K53 false)
def g_pool_chains_1_l1 {σ : Type} (q2 : (Int × (List TTx)) → σ → Option (σ × Bool)) (fuel : Nat) (K16 : (List TTx) → σ → Option σ) : Nat → (List TTx) → σ → Int → Option σ
  | 0, _, _, _ => none
  | n + 1, l17, l20, x22 => lt (decide ((((List.length l17 : Nat) : Int)) > 0)) fun c26 => br c26 (jn (fun (l27 : List TTx) (l30 : σ) (x32 : Int) => g_pool_chains_1_l1 q2 fuel K16 n l27 l30 x32) fun K34 => gd ((0 : Int) ≤ 0 ∧ 0 < ((List.length l17 : Nat) : Int)) <| bd (l17[Int.toNat 0]?) fun x36 => jn (fun (x44 : Int) => jn (fun (c70 : Bool) => br c70 (bd2 (q2 ((-1), l17) l20) fun z97 c98 => some z97) (gd ((0 : Int) ≤ 0 ∧ 0 ≤ x44 ∧ x44 ≤ ((List.length l17 : Nat) : Int)) <| bd2 (q2 (x36.From, (List.take (Int.toNat x44) l17)) l20) fun z79 c80 => lt (!c80) fun c84 => br c84 (some z79) (jn (fun (l85 : List TTx) => K34 l85 z79 x36.From) fun K89 => gd ((0 : Int) ≤ x44 ∧ x44 ≤ (((List.length l17 : Nat) : Int)) ∧ (((List.length l17 : Nat) : Int)) ≤ ((List.length l17 : Nat) : Int)) <| K89 ((List.drop (Int.toNat x44) (List.take (Int.toNat (((List.length l17 : Nat) : Int))) l17)))))) fun K72 => lt (decide (x36.From ≤ x22)) fun c73 => br c73 (K72 true) (lt (decide (x36.From ≥ 8)) fun c74 => K72 c74)) fun K46 => g_pool_chains_1_l2 K46 l17 x36 fuel fuel 0) (K16 l17 l20)
def g_pool_chains_1 (fuel : Nat) {σ : Type} (q2 : (Int × (List TTx)) → σ → Option (σ × Bool)) (z3 : σ) (p7 : List TTx) : Option σ :=
  jn (fun (l10 : List TTx) (l13 : σ) => some l13) fun K16 => g_pool_chains_1_l1 q2 fuel K16 fuel p7 z3 ((-1))
theorem g_pool_chains_1_w (fuel : Nat) {σ τ : Type} (Zs : σ → τ → Res) (q2 : (Int × (List TTx)) → σ → Option (σ × Bool)) (hh : Hp) (y1 : Value) (z3 : σ) (t4 : τ) (b6 : Nat) (s8 : Value) (p7 : List TTx) (r : σ) (h : g_pool_chains_1 fuel q2 z3 p7 = some r) (w0 : World) (hy : YW Tryz.prog AR_3_28 hh y1 Zs q2) (hhl : hh.le w0) (hhd : ∀ k o, hh k = some o → ¬ ((fun k => (Zs z3 t4).fp k ∨ (Box b6 #[s8] 28).fp k)) k) (hz : (Zs z3 t4).holds w0) (hc : (Box b6 #[s8] 28).holds w0) (hcd : ∀ k, (Box b6 #[s8] 28).fp k → ¬ (Zs z3 t4).fp k) (hs9 : RdD dTTx (hp ((fun k => (Zs z3 t4).fp k ∨ (Box b6 #[s8] 28).fp k)) w0) s8 p7) :
 Ret Tryz.prog 71 #[y1, vp b6 0] w0 (fun v w' => ∃ (t' : τ), v = .tuple #[] ∧ St (fun k => (Zs z3 t4).fp k ∨ (Box b6 #[s8] 28).fp k) w0 w' [Zs r t']) := by
 unfold g_pool_chains_1 at h
 refine ret_of_wpS Tryz.func71 rfl 49 rfl [(0,y1),(1,vp b6 0)] (by kernel_rfl) (fun G=>?_)
 have H0:=St.start2 hz hc hcd
 refine zsg ?_
 refine zrd 1 1 [(3,vi ((-1)))] ?_
 obtain ⟨K16,hK16,h⟩:=js h
 refine WP.blockJ (fun a w=>∃ (l10 : List TTx) (l13 : σ) (s11 : Value) (s14 : τ),Y 49 [] [] (fun k=>(Zs z3 t4).fp k ∨ (Box b6 #[s8] 28).fp k) w0 [Box b6 #[s11] 28,Zs l13 s14] (RdD dTTx (hp ((fun k=>(Zs z3 t4).fp k ∨ (Box b6 #[s8] 28).fp k)) w0) s11 l10∧K16 l10 l13 = some r) a w) ?_ ?_
 ·refine WP.loop (fun n a w=>∃ (l17 : List TTx) (l20 : σ) (x22 : Int) (s18 : Value) (s21 : τ),Y 49 [(0,y1),(1,vp b6 0),(3,vi x22)] [] (fun k=>(Zs z3 t4).fp k ∨ (Box b6 #[s8] 28).fp k) w0 [Box b6 #[s18] 28,Zs l20 s21] (RdD dTTx (hp ((fun k=>(Zs z3 t4).fp k ∨ (Box b6 #[s8] 28).fp k)) w0) s18 l17∧g_pool_chains_1_l1 q2 fuel K16 n l17 l20 x22 = some r) a w) fuel ⟨p7,z3,((-1)),s8,t4,yy H0 [1,0] ⟨hs9,h⟩⟩ ?_
  intro n a w hq
  refine Exists.elim hq fun l17 hq=>Exists.elim hq fun l20 hq=>Exists.elim hq fun x22 hq=>Exists.elim hq fun s18 hq=>Exists.elim hq fun s21 hq=>Exists.elim hq fun G23 hq=>?_
  obtain ⟨rfl,H,hs19,h⟩:=hq
  obtain _ | n:=n
  ·rw [g_pool_chains_1_l1] at h; cases h
  rw [g_pool_chains_1_l1] at h
  obtain ⟨w24,rfl⟩ : ∃ x,x = w:=⟨_,rfl⟩
  have H25:=H; clear H
  refine zs ?_
  refine zsg ?_
  refine zv (s18) (llb H25 0 0) ?_
  refine zv (vi (((List.length l17 : Nat) : Int))) (lln (RdD.sl hs19) 44 21 200) ?_
  obtain ⟨c26,e,h⟩:=ls h
  refine zed 1 3 [(8,vb c26)] ?_
  cases c26
  ·replace h:=bf h
   refine zF ?_
   refine WP.exit ?_
   exact then_e (then_e (inb_e (then_n ⟨l17,l20,s18,s21,yy H25 [0,1] ⟨hs19,h⟩⟩)))
  replace h:=bt h
  refine zTn ?_
  obtain ⟨K34,hK34,h⟩:=js h
  refine WP.blockJ (fun a w=>∃ (l27 : List TTx) (l30 : σ) (x32 : Int) (s28 : Value) (s31 : τ),Y 49 [(0,y1),(1,vp b6 0),(3,vi x32)] [] (fun k=>(Zs z3 t4).fp k ∨ (Box b6 #[s8] 28).fp k) w0 [Box b6 #[s28] 28,Zs l30 s31] (RdD dTTx (hp ((fun k=>(Zs z3 t4).fp k ∨ (Box b6 #[s8] 28).fp k)) w0) s28 l27∧K34 l27 l30 x32 = some r) a w) ?_ ?_
  ·refine zsg ?_
   refine zv (s18) (llb H25 0 0) ?_
   obtain ⟨hg35,h⟩:=gs h
   refine zv (va (slAt s18 21 (Int.toNat 0))) (lli (RdD.sl hs19) 44 21 200 .i64 0 hg35) ?_
   obtain ⟨x36,hx36,h⟩:=bs h
   obtain ⟨c41,hr42,hc43⟩:=RdD.at_ hs19 _ _ hx36
   obtain ⟨s37,s39,rfl,hs38,hs40⟩:=hr42
   refine zr 1 3 [(11,va (slAt s18 21 (Int.toNat 0)))] ?_
   refine zv (vi x36.From) (lld 0 hc43 (St.hp_le H25)) ?_
   refine zrd 2 6 [(5,vi 0),(4,vi x36.From)] ?_
   refine zs ?_
   obtain ⟨K46,hK46,h⟩:=js h
   refine WP.blockJ (fun a w=>∃ (x44 : Int),Y 49 [(0,y1),(1,vp b6 0),(3,vi x22),(4,vi x36.From),(5,vi x44)] [] (fun k=>(Zs z3 t4).fp k ∨ (Box b6 #[s8] 28).fp k) w0 [Box b6 #[s18] 28,Zs l20 s21] (K46 x44 = some r) a w) ?_ ?_
   ·refine WP.loop (fun n a w=>∃ (x47 : Int),Y 49 [(0,y1),(1,vp b6 0),(3,vi x22),(4,vi x36.From),(5,vi x47)] [] (fun k=>(Zs z3 t4).fp k ∨ (Box b6 #[s8] 28).fp k) w0 [Box b6 #[s18] 28,Zs l20 s21] (g_pool_chains_1_l2 K46 l17 x36 fuel n x47 = some r) a w) fuel ⟨0,yy H25 [0,1] h⟩ ?_
    rintro n a w49 ⟨x47,G48,rfl,H50,h⟩
    obtain _ | n:=n
    ·rw [g_pool_chains_1_l2] at h; cases h
    rw [g_pool_chains_1_l2] at h
    refine zs ?_
    refine zs ?_
    obtain ⟨K53,hK53,h⟩:=js h
    refine WP.onlyN (fun a w=>∃ (c51 : Bool),Y 49 [(0,y1),(1,vp b6 0),(3,vi x22),(4,vi x36.From),(5,vi x47),(25,vb c51)] [] (fun k=>(Zs z3 t4).fp k ∨ (Box b6 #[s8] 28).fp k) w0 [Box b6 #[s18] 28,Zs l20 s21] (K53 c51 = some r) a w) ?_ ?_
    ·refine zg ?_
     refine zr 1 1 [(13,vi x47)] ?_
     refine zv (s18) (llb H50 0 0) ?_
     refine zv (vi (((List.length l17 : Nat) : Int))) (lln (RdD.sl hs19) 44 21 200) ?_
     obtain ⟨c54,e,h⟩:=ls h
     refine ze 2 5 [(17,vb c54),(16,vb c54)] ?_
     cases c54
     ·replace h:=bf h
      refine zr 8 13 [(25,vb false),(24,Z),(23,Z),(22,Z),(21,Z),(20,Z),(19,Z),(18,Z)] ?_
      refine zd ?_
      exact ⟨false,yy H50 [0,1] h⟩
     replace h:=bt h
     refine zv (s18) (llb H50 0 0) ?_
     obtain ⟨hg55,h⟩:=gs h
     refine zr 1 7 [(19,vi x47)] ?_
     refine zv (va (slAt s18 21 (Int.toNat x47))) (lli (RdD.sl hs19) 44 21 200 .i64 x47 hg55) ?_
     obtain ⟨x56,hx56,h⟩:=bs h
     obtain ⟨c61,hr62,hc63⟩:=RdD.at_ hs19 _ _ hx56
     obtain ⟨s57,s59,rfl,hs58,hs60⟩:=hr62
     refine zr 1 9 [(21,va (slAt s18 21 (Int.toNat x47)))] ?_
     refine zv (vi x56.From) (lld 0 hc63 (St.hp_le H50)) ?_
     obtain ⟨c64,e,h⟩:=ls h
     refine ze 3 13 [(25,vb c64),(24,vb c64),(23,vi x36.From)] ?_
     refine zd ?_
     exact ⟨c64,yy H50 [0,1] h⟩
    rintro a w65 ⟨c51,G52,rfl,H66,h⟩
    subst hK53
    refine then_n ?_
    cases c51
    ·replace h:=bf h
     refine zF ?_
     refine WP.exit ?_
     exact then_e (then_e (inb_e (then_n ⟨x47,yy H66 [0,1] h⟩)))
    replace h:=bt h
    refine zTn ?_
    refine WP.block ?_
    refine zg ?_
    obtain ⟨x67,e,h⟩:=ls h
    refine ze 3 3 [(5,vi x67),(27,vi x67),(26,vi x47)] ?_
    refine zd ?_
    exact inb_n (then_n ⟨n,lS n,x67,yy H66 [0,1] h⟩)
   rintro a w68 ⟨x44,G45,rfl,H69,h⟩
   subst hK46
   refine then_n ?_
   refine zs ?_
   refine zs ?_
   obtain ⟨K72,hK72,h⟩:=js h
   refine WP.onlyN (fun a w=>∃ (c70 : Bool),Y 49 [(0,y1),(1,vp b6 0),(4,vi x36.From),(5,vi x44),(34,vb c70)] [] (fun k=>(Zs z3 t4).fp k ∨ (Box b6 #[s8] 28).fp k) w0 [Box b6 #[s18] 28,Zs l20 s21] (K72 c70 = some r) a w) ?_ ?_
   ·refine zg ?_
    obtain ⟨c73,e,h⟩:=ls h
    refine ze 4 4 [(31,vb c73),(30,vb c73),(29,vi x22),(28,vi x36.From)] ?_
    cases c73
    rotate_left
    ·replace h:=bt h
     refine zr 3 7 [(34,vb true),(33,Z),(32,Z)] ?_
     refine zd ?_
     exact ⟨true,yy H69 [0,1] h⟩
    replace h:=bf h
    obtain ⟨c74,e,h⟩:=ls h
    refine ze 3 7 [(34,vb c74),(33,vb c74),(32,vi x36.From)] ?_
    refine zd ?_
    exact ⟨c74,yy H69 [0,1] h⟩
   rintro a w75 ⟨c70,G71,rfl,H76,h⟩
   subst hK72
   refine then_n ?_
   cases c70
   rotate_left
   ·replace h:=bt h
    refine zT ?_
    refine zsg ?_
    refine zr 1 1 [(35,y1)] ?_
    refine zv (s18) (llb H76 0 0) ?_
    obtain ⟨z97,c98,hz97,h⟩:=bd2_some h
    refine YW.call (vs:=#[vi ((-1)),s18]) hy H76 hhl hhd 1 rfl hz97 rfl (by kernel_rfl) rfl (by kernel_rfl) (by kernel_rfl) ⟨s18,rfl,(RdD.mono (sub_hpN (St.hp_le H76) (St.hb_dis H76 1 rfl)) hs19)⟩ (fun t99 w100 H101=>?_)
    clear H76
    refine zn ?_
    refine zdn ?_
    refine WP.ret ?_
    obtain rfl:=oi h
    exact then_r (inb_r (then_r (then_r (inb_r (then_r (post_r (.tuple #[]) rfl (by kernel_rfl) ⟨t99,rfl,sl H101 [0]⟩))))))
   replace h:=bf h
   refine zFn ?_
   refine zs ?_
   refine zsg ?_
   refine zr 2 2 [(39,vi x36.From),(38,y1)] ?_
   refine zv (s18) (llb H76 0 0) ?_
   obtain ⟨hg77,h⟩:=gs h
   have hs78:=RdD.sub (lo:=Int.toNat 0) (hi:=Int.toNat x44) hs19 (piece_lo hg77) (piece_hi hg77)
   refine zr 1 4 [(41,vi x44)] ?_
   refine WPI.valueS ((slSub s18 21 0 (Int.toNat x44))) 42 rfl rfl (by kernel_rfl) (ev_slice (RdD.sl hs19) 28 (.tmp 40) none (some (.tmp 41)) 44 21 200 0 x44 rfl (by kernel_rfl) (by kernel_rfl) (.inl ⟨rfl,rfl⟩) (.inr ⟨(.tmp 41),.i64,rfl,by kernel_rfl⟩) hg77) ?_
   obtain ⟨z79,c80,hz79,h⟩:=bd2_some h
   refine YW.call (vs:=#[vi x36.From,(slSub s18 21 0 (Int.toNat x44))]) hy H76 hhl hhd 1 rfl hz79 rfl (by kernel_rfl) rfl (by kernel_rfl) (by kernel_rfl) ⟨(slSub s18 21 0 (Int.toNat x44)),rfl,(RdD.mono (sub_hpN (St.hp_le H76) (St.hb_dis H76 1 rfl)) hs78)⟩ (fun t81 w82 H83=>?_)
   clear H76
   obtain ⟨c84,e,h⟩:=ls h
   refine zn ?_
   refine zed 1 7 [(44,vb c84)] ?_
   cases c84
   rotate_left
   ·replace h:=bt h
    refine zT ?_
    refine WP.ret ?_
    obtain rfl:=oi h
    exact then_r (inb_r (then_r (then_r (inb_r (then_r (post_r (.tuple #[]) rfl (by kernel_rfl) ⟨t81,rfl,sl H83 [0]⟩))))))
   replace h:=bf h
   refine zFn ?_
   obtain ⟨K89,hK89,h⟩:=js h
   refine WP.drawI (by kernel_rfl) (by kernel_rfl) (fun w=>St (fun k=>(Zs z3 t4).fp k ∨ (Box b6 #[s8] 28).fp k) w0 w []) [5] (fun w=>St (fun k=>(Zs z3 t4).fp k ∨ (Box b6 #[s8] 28).fp k) w0 w [Zs z79 t81,Box b6 #[s18] 28]) (fun a w=>∃ (l85 : List TTx) (s86 : Value),Y 49 [(0,y1),(1,vp b6 0),(3,vi x36.From)] [] (fun k=>(Zs z3 t4).fp k ∨ (Box b6 #[s8] 28).fp k) w0 [Box b6 #[s86] 28,Zs z79 t81] (RdD dTTx (hp ((fun k=>(Zs z3 t4).fp k ∨ (Box b6 #[s8] 28).fp k)) w0) s86 l85∧K89 l85 = some r) a w) 6 #[F,F,F,F,F,F] (by kernel_rfl) (by kernel_rfl) ?_ ?_
   ·have H90:=St.drew H83
    refine WI.runS [0] 5 _ #[T,F,F,F,F,F] [(45,vi x36.From)] rfl (fun K=>by kernel_rfl) ?_
    refine WI.takeT 1 (s18) 46 rfl rfl (by kernel_rfl) (by kernel_rfl) (by kernel_rfl) (fun w H=>ev_loadBox H 1 rfl 28 (.tmp 1) 0 (s18) rfl (by kernel_rfl) (by kernel_rfl)) (li':=#[T,T,F,F,F,F]) (by kernel_rfl) ?_
    obtain ⟨hg91,h⟩:=gs h
    have hs92:=RdD.sub (lo:=Int.toNat x44) (hi:=Int.toNat (((List.length l17 : Nat) : Int))) hs19 (piece_lo hg91) (piece_hi hg91)
    refine WI.runS [2] 3 _ #[T,T,T,F,F,F] [(47,vi x44)] rfl (fun K=>by kernel_rfl) ?_
    refine WI.takeS 3 ((slSub s18 21 (Int.toNat x44) (Int.toNat (((List.length l17 : Nat) : Int))))) 48 rfl rfl (by kernel_rfl) (by kernel_rfl) (fun w H=>ev_slice (RdD.sl hs19) 28 (.tmp 46) (some (.tmp 47)) none 44 21 200 x44 (((List.length l17 : Nat) : Int)) rfl (by kernel_rfl) (by kernel_rfl) (.inr ⟨(.tmp 47),.i64,rfl,by kernel_rfl⟩) (.inl ⟨rfl,rfl⟩) hg91) (li':=#[T,T,T,T,F,F]) (by kernel_rfl) ?_
    refine WI.runS [4] 1 _ #[T,T,T,T,T,F] [(3,vi x36.From)] rfl (fun K=>by kernel_rfl) ?_
    refine WI.one 5 (by kernel_rfl) (nod (sl H90 []) (sl H90 [0,1])) rfl (Op1.storeBoxS H90 1 rfl (by kernel_rfl) 28 (.tmp 1) (.tmp 48) 0 ((slSub s18 21 (Int.toNat x44) (Int.toNat (((List.length l17 : Nat) : Int))))) #[(slSub s18 21 (Int.toNat x44) (Int.toNat (((List.length l17 : Nat) : Int))))] (RdD.sl hs92) rfl (by kernel_rfl) (by kernel_rfl) (by kernel_rfl) (by kernel_rfl) (by kernel_rfl) (fun w93 H94=>?_))
    clear H90
    refine WI.nS0 #[T,T,T,T,T,T] (by kernel_rfl) rfl ?_
    refine WI.done (by kernel_rfl) (nod0 (sl H94 []) 5 (by decide) (by kernel_rfl)) ?_
    exact ⟨((List.drop (Int.toNat x44) (List.take (Int.toNat (((List.length l17 : Nat) : Int))) l17))),((slSub s18 21 (Int.toNat x44) (Int.toNat (((List.length l17 : Nat) : Int))))),yy H94 [0,1] ⟨hs92,h⟩⟩
   rintro a w95 ⟨l85,s86,G88,rfl,H96,hs87,h⟩
   subst hK89
   exact inb_n (then_n ⟨l85,z79,x36.From,s86,t81,yy H96 [0,1] ⟨hs87,h⟩⟩)
  intro a w hq
  refine Exists.elim hq fun l27 hq=>Exists.elim hq fun l30 hq=>Exists.elim hq fun x32 hq=>Exists.elim hq fun s28 hq=>Exists.elim hq fun s31 hq=>Exists.elim hq fun G33 hq=>?_
  obtain ⟨rfl,H,hs29,h⟩:=hq
  subst hK34
  obtain ⟨w102,rfl⟩ : ∃ x,x = w:=⟨_,rfl⟩
  have H103:=H; clear H
  exact then_n ⟨n,lS n,l27,l30,x32,s28,s31,yy H103 [0,1] ⟨hs29,h⟩⟩
 rintro a w104 ⟨l10,l13,s11,s14,G15,rfl,H105,hs12,h⟩
 subst hK16
 obtain rfl:=oi h
 exact post_n (.tuple #[]) rfl (by kernel_rfl) ⟨s14,rfl,sl H105 [1]⟩
/- tarn/pool.chains -/
inductive It_pool_chains where
  | c71 (x0 : List TTx)
def It_pool_chains.ap (fuel : Nat) (it : It_pool_chains) (σ : Type) (q : (Int × (List TTx)) → σ → Option (σ × Bool)) (s : σ) : Option σ := match it with
  | .c71 x0 => g_pool_chains_1 fuel q s x0
def g_pool_chains (fuel : Nat) (l2 : List TTx) : Option It_pool_chains :=
  some (It_pool_chains.c71 l2)
theorem g_pool_chains_w (fuel : Nat) (s1 : Value) (l2 : List TTx) (r : It_pool_chains) (h : g_pool_chains fuel l2 = some r) (w0 : World) (hb : Hp) (hle0 : hb.le w0) (hs1 : RdD dTTx hb s1 l2) :
 Ret Tryz.prog 48 #[s1] w0 (fun v w' => ∃ (q0 : Value) (C0 : Res), v = q0 ∧ IW Tryz.prog AR_3_28 q0 (fun σ q s => It_pool_chains.ap fuel r σ q s) C0 hb ∧ St no w0 w' [C0]) := by
 unfold g_pool_chains at h
 refine ret_of_wpS Tryz.func48 rfl 4 rfl [(0,s1)] (by kernel_rfl) (fun G=>?_)
 have H0:=St.start w0
 refine zsg ?_
 refine WPI.op rfl (Op1.box H0 #[s1] (by kernel_rfl) 28 (.tmp 0) rfl (by obtain ⟨_,_,rfl,_⟩:=(RdD.sl hs1); kernel_rfl) (fun b3 w5 H6=>?_))
 refine zn ?_
 refine zrd 1 2 [(2,Value.nilFunc)] ?_
 refine zsg ?_
 refine zrd 2 2 [(2,Value.func (.func 71) #[] #[vp b3 0]),(3,Value.func (.func 71) #[] #[vp b3 0])] ?_
 refine WP.ret ?_
 obtain rfl:=oi h
 exact post_r (Value.func (.func 71) #[] #[vp b3 0]) rfl (by kernel_rfl) ⟨(Value.func (.func 71) #[] #[vp b3 0]),(Res.all [Box b3 #[s1] 28]),rfl,(iw_mk 71 (fun args w=>by kernel_rfl) (fun σ τ Z q hh yv hy hsb hC1 s t r w h hC hl hd hz hdd=>(g_pool_chains_1_w fuel Z q hh yv s t b3 s1 l2 r h w hy hl (fun k o e x=>x.elim (hd k o e) (fun y=>hC1 k o e (all_fp 0 rfl y))) hz (mem_all hC 0 rfl) (mem_fp hdd 0 rfl) (RdD.mono (Hp.sub_trans hsb (sub_hpN hl (fun k o e x=>x.elim (hd k o e) (fun y=>hC1 k o e (all_fp 0 rfl y))))) hs1)).mono (fun v w1 ⟨t1,_,h1⟩=>⟨t1,St.weakM h1 (fun k hk=>hk.imp id (fun y=>all_fp 0 rfl y))⟩))),St.pack (St.sel (Rs':=[Box b3 #[s1] 28]) H6 [0] (by decide) rfl)⟩
/- tarn/tx.Cost -/
def g_tx_Cost (fuel : Nat) (p1 : TTx) : Option (TU256 × Int) :=
  bd (g_tx_Check fuel p1) fun t14 => lt (t14 != 0) fun c18 => br c18 (some (TU256.mk 0 0 0 0, t14)) (bd (g_tx_cost fuel p1) fun t19 => some (t19.1, 0))
theorem g_tx_Cost_w (fuel : Nat) (s2 s4 : Value) (p1 : TTx) (r : TU256 × Int) (h : g_tx_Cost fuel p1 = some r) (w0 : World) (hs3 : Rd fU64 (hp no w0) s2 p1.Hashes) (hs5 : Rd fStr (hp no w0) s4 p1.Blobs) :
 Ret Tryz.prog 88 #[(gTx p1 s2 s4)] w0 (fun v w' => v = .tuple #[TU256.val r.1, vi r.2] ∧ St no w0 w' []) := by
 unfold g_tx_Cost at h
 refine ret_of_wpS Tryz.func88 rfl 19 rfl [(0,(gTx p1 s2 s4))] (by kernel_rfl) (fun G=>?_)
 have H0:=St.start w0
 refine zsg ?_
 refine zo (obx H0 #[vi p1.From,vi p1.Nonce,vu p1.Tip.e0,vu p1.Tip.e1,vu p1.Tip.e2,vu p1.Tip.e3,vu p1.Cap.e0,vu p1.Cap.e1,vu p1.Cap.e2,vu p1.Cap.e3,vu p1.BlobCap.e0,vu p1.BlobCap.e1,vu p1.BlobCap.e2,vu p1.BlobCap.e3,vu p1.Value_.e0,vu p1.Value_.e1,vu p1.Value_.e2,vu p1.Value_.e3,vi p1.Gas,s2,s4] 44 (fun b6 w8 H9=>?_))
 refine zn ?_
 refine zo (oal H9 #[vu 0,vu 0,vu 0,vu 0] 24 (fun b10 w12 H13=>?_))
 clear H9
 refine zn ?_
 refine zrd 1 3 [(3,vi 0)] ?_
 refine zs ?_
 refine zsg ?_
 refine zv ((gTx p1 s2 s4)) (llb H13 1 0) ?_
 obtain ⟨t14,ht14,h⟩:=bs h
 refine zo (oca (g_tx_Check_w fuel s2 s4 p1 t14 ht14 _ (Rd.arg0 hs3 H13) (Rd.arg0 hs5 H13)) ?_)
 rintro _ w15 ⟨rfl,Hc16⟩
 have H17:=St.call0' H13 Hc16
 clear H13 Hc16
 refine zn ?_
 refine zrd 1 3 [(4,vi t14)] ?_
 refine zsg ?_
 obtain ⟨c18,e,h⟩:=ls h
 refine zed 2 2 [(10,vb c18),(9,vi t14)] ?_
 cases c18
 rotate_left
 ·replace h:=bt h
  refine zT ?_
  refine zsg ?_
  refine zr 2 2 [(12,vi t14),(11,.agg #[vu 0,vu 0,vu 0,vu 0])] ?_
  refine zo (osb H17 0 0 (.agg #[vu 0,vu 0,vu 0,vu 0]) #[vu 0,vu 0,vu 0,vu 0] true (flat_one1 fTU256 (TU256.mk 0 0 0 0)) (fun w31 H32=>?_))
  clear H17
  refine z0 ?_
  refine zrd 1 4 [(3,vi t14)] ?_
  refine WP.ret ?_
  obtain rfl:=oi h
  exact then_r (post_r (.tuple #[.agg #[vu 0,vu 0,vu 0,vu 0],vi t14]) rfl (results_cell_tmp rfl (by kernel_rfl) (by kernel_rfl) (run_loadAt (ad:=(⟨b10,0,none⟩ : Addr)) (off:=0) (St.boxAt H32 0 rfl) (le_self _) (by kernel_rfl))) ⟨rfl,sl H32 []⟩)
 replace h:=bf h
 refine zFn ?_
 refine zsg ?_
 refine zv ((gTx p1 s2 s4)) (llb H17 1 0) ?_
 obtain ⟨t19,ht19,h⟩:=bs h
 refine zo (oca (g_tx_cost_w fuel s2 s4 p1 t19 ht19 _ (Rd.arg0 hs3 H17) (Rd.arg0 hs5 H17)) ?_)
 rintro _ w20 ⟨rfl,Hc21⟩
 have H22:=St.call0' H17 Hc21
 clear H17 Hc21
 refine zn ?_
 refine zr 3 5 [(17,vb t19.2),(16,TU256.val t19.1),(13,.tuple #[TU256.val t19.1,vb t19.2])] ?_
 refine zo (oal H22 #[vu 0,vu 0,vu 0,vu 0] 24 (fun b23 w25 H26=>?_))
 clear H22
 refine zn ?_
 refine zo (osb H26 0 0 (TU256.val t19.1) (TU256.cs t19.1).toArray true (flat_one1 fTU256 t19.1) (fun w27 H28=>?_))
 clear H26
 refine z0 ?_
 refine zrd 1 8 [(6,vb t19.2)] ?_
 refine zsg ?_
 refine zv (TU256.val t19.1) (llb H28 0 0) ?_
 refine zo (osb H28 1 0 (TU256.val t19.1) (TU256.cs t19.1).toArray true (flat_one1 fTU256 t19.1) (fun w29 H30=>?_))
 clear H28
 refine z0 ?_
 refine zrd 1 3 [(3,vi 0)] ?_
 refine WP.ret ?_
 obtain rfl:=oi h
 exact post_r (.tuple #[TU256.val t19.1,vi 0]) rfl (results_cell_tmp rfl (by kernel_rfl) (by kernel_rfl) (run_loadAt (ad:=(⟨b10,0,none⟩ : Addr)) (off:=0) (St.boxAt H30 0 rfl) (le_self _) (by kernel_rfl))) ⟨rfl,sl H30 []⟩
end Go.Proofs
