import Derived.Test.YtcbjobfklcefpaaGreatGwz
import Derived.Test.YtcbjobfklcefpaaGreatProg
import Derived.Test.YtcbjobfklcefpaaGreatT
import Derived.Test.YtcbjobfklcefpaaGreatY1
import Derived.Test.YtcbjobfklcefpaaGreatY2
import Derived.Test.YtcbjobfklcefpaaGreatY3
set_option linter.unusedVariables false
set_option linter.unusedSimpArgs false
set_option maxRecDepth 100000
set_option maxHeartbeats 4000000
namespace Go.Proofs
open Gw Go.RowKit
attribute [local irreducible] Gw.WP Gw.WPI Gw.WPL Gw.WA Gw.WQ Gw.PX Gw.PY Gw.WI Gw.PZ Gw.Op1 Gw.Ret Go.Exit.then Go.Exit.inBlock Go.wpOpIn Gw.Rnd Gw.Aft Gw.Begun
/- tarn/tarnref16.Wide -/
def g_tarnref16_Wide_l1 (p1 : TBook) (K39 : Option Bool) (fuel : Nat) : Nat → Int → Option Bool
  | 0, _ => none
  | n + 1, x40 => lt (decide (x40 < (((List.length p1.Txs : Nat) : Int)))) fun c44 => br c44 (jn (fun (l66 : List Int) (l69 : List ByteArray) (x47 : Int) (x48 : Int) (x49 : Int) (x50 : Int) (x51 : Int) (x52 : Int) (x53 : Int) (x54 : Int) (x55 : Int) (x56 : Int) (x57 : Int) (x58 : Int) (x59 : Int) (x60 : Int) (x61 : Int) (x62 : Int) (x63 : Int) (x64 : Int) (x65 : Int) (l93 : List Int) (l96 : List ByteArray) (x74 : Int) (x75 : Int) (x76 : Int) (x77 : Int) (x78 : Int) (x79 : Int) (x80 : Int) (x81 : Int) (x82 : Int) (x83 : Int) (x84 : Int) (x85 : Int) (x86 : Int) (x87 : Int) (x88 : Int) (x89 : Int) (x90 : Int) (x91 : Int) (x92 : Int) => jn (fun (c147 : Bool) => br c147 (some false) (lt (wr .i64 (x40 + 1)) fun x155 => g_tarnref16_Wide_l1 p1 K39 fuel n x155)) fun K149 => lt (decide (x47 > x74)) fun c150 => br c150 (K149 true) (lt (x47 == x74) fun c151 => br c151 (lt (decide (x48 ≥ x75)) fun c152 => K149 c152) (K149 false))) fun K100 => lt (wr .i64 (x40 - 1)) fun x102 => gd ((0 : Int) ≤ x102 ∧ x102 < ((List.length p1.Txs : Nat) : Int)) <| bd (p1.Txs[Int.toNat x102]?) fun x104 => gd ((0 : Int) ≤ x40 ∧ x40 < ((List.length p1.Txs : Nat) : Int)) <| bd (p1.Txs[Int.toNat x40]?) fun x113 => K100 x104.Hashes x104.Blobs x104.From x104.Nonce x104.Tip.e0 x104.Tip.e1 x104.Tip.e2 x104.Tip.e3 x104.Cap.e0 x104.Cap.e1 x104.Cap.e2 x104.Cap.e3 x104.BlobCap.e0 x104.BlobCap.e1 x104.BlobCap.e2 x104.BlobCap.e3 x104.Value_.e0 x104.Value_.e1 x104.Value_.e2 x104.Value_.e3 x104.Gas x113.Hashes x113.Blobs x113.From x113.Nonce x113.Tip.e0 x113.Tip.e1 x113.Tip.e2 x113.Tip.e3 x113.Cap.e0 x113.Cap.e1 x113.Cap.e2 x113.Cap.e3 x113.BlobCap.e0 x113.BlobCap.e1 x113.BlobCap.e2 x113.BlobCap.e3 x113.Value_.e0 x113.Value_.e1 x113.Value_.e2 x113.Value_.e3 x113.Gas) (K39)
def g_tarnref16_Wide_l2 (fuel : Nat) (p1 : TBook) (K161 : Option Bool) : Nat → Int → Option Bool
  | 0, _ => none
  | n + 1, x164 => lt (decide (x164 < 8)) fun c168 => br c168 (bd (g_tarnref16_Of fuel p1.Txs x164) fun t169 => jn (fun (c183 : Bool) => br c183 (some false) (lt (wr .i64 (x164 + 1)) fun x222 => g_tarnref16_Wide_l2 fuel p1 K161 n x222)) fun K185 => bd (g_tarnref14_Chain fuel t169) fun t186 => lt (!t186) fun c187 => br c187 (K185 true) (lt (decide ((((List.length t169 : Nat) : Int)) > 0)) fun c188 => br c188 (gd ((0 : Int) ≤ 0 ∧ 0 < ((List.length t169 : Nat) : Int)) <| bd (t169[Int.toNat 0]?) fun x196 => gd ((0 : Int) ≤ x164 ∧ x164 < ((List.length p1.Accts : Nat) : Int)) <| bd (p1.Accts[Int.toNat x164]?) fun x207 => lt (x196.Nonce != x207.Nonce) fun c208 => br c208 (K185 true) (gd ((0 : Int) ≤ x164 ∧ x164 < ((List.length p1.Accts : Nat) : Int)) <| bd (p1.Accts[Int.toNat x164]?) fun x210 => bd (g_tarnref14_Covered fuel t169 x210.Balance) fun t211 => lt (t211 != (((List.length t169 : Nat) : Int))) fun c212 => K185 c212)) (gd ((0 : Int) ≤ x164 ∧ x164 < ((List.length p1.Accts : Nat) : Int)) <| bd (p1.Accts[Int.toNat x164]?) fun x190 => bd (g_tarnref14_Covered fuel t169 x190.Balance) fun t191 => lt (t191 != (((List.length t169 : Nat) : Int))) fun c192 => K185 c192))) (K161)
def g_tarnref16_Wide_l3 (p1 : TBook) (fuel : Nat) (K229 : (List Int) → Option Bool) : Nat → (List Int) → Int → Option Bool
  | 0, _, _ => none
  | n + 1, l231, x233 => lt (decide (x233 < (((List.length p1.Txs : Nat) : Int)))) fun c238 => br c238 (gd ((0 : Int) ≤ x233 ∧ x233 < ((List.length p1.Txs : Nat) : Int)) <| bd (p1.Txs[Int.toNat x233]?) fun x240 => bd (g_tarnref7_ID fuel x240) fun t248 => bd (g_tarnref0_InMarks fuel l231 t248) fun t252 => lt (decide (t252 ≥ 0)) fun c256 => br c256 (some false) (gd ((List.length l231 + List.length (([t248] : List Int))) * 8 ≤ 140737488355328) <| lt (l231 ++ (([t248] : List Int))) fun l263 => lt (wr .i64 (x233 + 1)) fun x268 => g_tarnref16_Wide_l3 p1 fuel K229 n l263 x268)) (K229 l231)
def g_tarnref16_Wide_l4 (p1 : TBook) (fuel : Nat) (l226 : List Int) (K273 : Option Bool) : Nat → Int → Option Bool
  | 0, _ => none
  | n + 1, x274 => lt (decide (x274 < (((List.length p1.Limbo : Nat) : Int)))) fun c279 => br c279 (gd ((0 : Int) ≤ x274 ∧ x274 < ((List.length p1.Limbo : Nat) : Int)) <| bd (p1.Limbo[Int.toNat x274]?) fun x281 => bd (g_tarnref7_ID fuel x281.Tx) fun t289 => bd (g_tarnref0_InMarks fuel l226 t289) fun t293 => lt (decide (t293 ≥ 0)) fun c297 => br c297 (some false) (lt (wr .i64 (x274 + 1)) fun x298 => g_tarnref16_Wide_l4 p1 fuel l226 K273 n x298)) (K273)
def g_tarnref16_Wide (fuel : Nat) (p1 : TBook) : Option Bool :=
  jn (fun (c12 : Bool) => br c12 (some false) (jn (jn (jn (fun (l226 : List Int) => jn (some true) fun K273 => g_tarnref16_Wide_l4 p1 fuel l226 K273 fuel 0) fun K229 => g_tarnref16_Wide_l3 p1 fuel K229 fuel ([]) 0) fun K161 => g_tarnref16_Wide_l2 fuel p1 K161 fuel 0) fun K39 => g_tarnref16_Wide_l1 p1 K39 fuel fuel 1)) fun K14 => bd (g_tarnref16_Head fuel p1.Head) fun t15 => lt (!t15) fun c19 => br c19 (K14 true) (bd (g_tarnref16_Accts fuel p1.Accts) fun t20 => lt (!t20) fun c24 => br c24 (K14 true) (lt (decide ((((List.length p1.Txs : Nat) : Int)) > 48)) fun c25 => br c25 (K14 true) (bd (g_tarnref7_Txs fuel p1.Txs) fun t26 => lt (!t26) fun c30 => br c30 (K14 true) (bd (g_tarnref16_Limbo fuel p1.Limbo) fun t31 => lt (!t31) fun c35 => K14 c35))))
theorem g_tarnref16_Wide_w (fuel : Nat) (s2 s4 s6 : Value) (p1 : TBook) (r : Bool) (h : g_tarnref16_Wide fuel p1 = some r) (w0 : World) (hs3 : Rd fTAcct (hp no w0) s2 p1.Accts) (hs5 : RdD dTTx (hp no w0) s4 p1.Txs) (hs7 : RdD dTHeld (hp no w0) s6 p1.Limbo) :
 Ret Tryz.prog 14 #[.agg #[vi p1.Room, vi p1.Head.Number, vu p1.Head.Base.e0, vu p1.Head.Base.e1, vu p1.Head.Base.e2, vu p1.Head.Base.e3, vi p1.Head.Excess, s2, s4, s6]] w0 (fun v w' => v = vb r ∧ St no w0 w' []) := by
 unfold g_tarnref16_Wide at h
 refine ret_of_wpS Tryz.func14 rfl 157 rfl [(0,.agg #[vi p1.Room,vi p1.Head.Number,vu p1.Head.Base.e0,vu p1.Head.Base.e1,vu p1.Head.Base.e2,vu p1.Head.Base.e3,vi p1.Head.Excess,s2,s4,s6])] (by kernel_rfl) (fun G=>?_)
 have H0:=St.fz0 (St.start w0)
 refine zsg ?_
 refine zo (obx H0 #[vi p1.Room,vi p1.Head.Number,vu p1.Head.Base.e0,vu p1.Head.Base.e1,vu p1.Head.Base.e2,vu p1.Head.Base.e3,vi p1.Head.Excess,s2,s4,s6] 31 (fun b8 w10 H11=>?_))
 refine zn ?_
 refine zrd 1 2 [(2,vb false)] ?_
 refine zs ?_
 refine zs ?_
 obtain ⟨K14,hK14,h⟩:=js h
 refine WP.onlyN (fun a w=>∃ (c12 : Bool),Y 157 [(1,vp b8 0),(39,vb c12)] [] no w0 [Fz (fun _=>none),Box b8 #[vi p1.Room,vi p1.Head.Number,vu p1.Head.Base.e0,vu p1.Head.Base.e1,vu p1.Head.Base.e2,vu p1.Head.Base.e3,vi p1.Head.Excess,s2,s4,s6] 31] (K14 c12 = some r) a w) ?_ ?_
 ·refine zg ?_
  refine zr 1 1 [(12,vp b8 1)] ?_
  refine zv (THead.val p1.Head) (llb H11 0 1) ?_
  obtain ⟨t15,ht15,h⟩:=bs h
  refine zo (oca (g_tarnref16_Head_w fuel p1.Head t15 ht15 _) ?_)
  rintro _ w16 ⟨rfl,Hc17⟩
  have H18:=St.call0' H11 Hc17
  clear H11 Hc17
  obtain ⟨c19,e,h⟩:=ls h
  refine zn ?_
  refine ze 2 5 [(16,vb c19),(15,vb c19)] ?_
  cases c19
  rotate_left
  ·replace h:=bt h
   refine zr 23 28 [(39,vb true),(38,Z),(37,Z),(36,Z),(35,Z),(34,vb true),(33,vb true),(32,Z),(31,Z),(30,Z),(29,Z),(28,vb true),(27,vb true),(26,Z),(25,Z),(24,Z),(23,Z),(22,vb true),(21,vb true),(20,Z),(19,Z),(18,Z),(17,Z)] ?_
   refine zd ?_
   exact ⟨true,yy H18 [1,0] h⟩
  replace h:=bf h
  refine zr 1 6 [(17,vp b8 7)] ?_
  refine zv (s2) (llb H18 0 7) ?_
  obtain ⟨t20,ht20,h⟩:=bs h
  refine zo (oca (g_tarnref16_Accts_w fuel s2 p1.Accts t20 ht20 _ (Rd.arg0 hs3 H18)) ?_)
  rintro _ w21 ⟨rfl,Hc22⟩
  have H23:=St.call0' H18 Hc22
  clear H18 Hc22
  obtain ⟨c24,e,h⟩:=ls h
  refine zn ?_
  refine ze 3 11 [(22,vb c24),(21,vb c24),(20,vb c24)] ?_
  cases c24
  rotate_left
  ·replace h:=bt h
   refine zr 17 28 [(39,vb true),(38,Z),(37,Z),(36,Z),(35,Z),(34,vb true),(33,vb true),(32,Z),(31,Z),(30,Z),(29,Z),(28,vb true),(27,vb true),(26,Z),(25,Z),(24,Z),(23,Z)] ?_
   refine zd ?_
   exact ⟨true,yy H23 [1,0] h⟩
  replace h:=bf h
  refine zr 1 12 [(23,vp b8 8)] ?_
  refine zv (s4) (llb H23 0 8) ?_
  refine zv (vi (((List.length p1.Txs : Nat) : Int))) (lln (RdD.sl hs5) 44 21 200) ?_
  obtain ⟨c25,e,h⟩:=ls h
  refine ze 3 17 [(28,vb c25),(27,vb c25),(26,vb c25)] ?_
  cases c25
  rotate_left
  ·replace h:=bt h
   refine zr 11 28 [(39,vb true),(38,Z),(37,Z),(36,Z),(35,Z),(34,vb true),(33,vb true),(32,Z),(31,Z),(30,Z),(29,Z)] ?_
   refine zd ?_
   exact ⟨true,yy H23 [1,0] h⟩
  replace h:=bf h
  refine zr 1 18 [(29,vp b8 8)] ?_
  refine zv (s4) (llb H23 0 8) ?_
  obtain ⟨t26,ht26,h⟩:=bs h
  refine zo (oca (g_tarnref7_Txs_w fuel s4 p1.Txs t26 ht26 _ (RdD.mono (sub_hp (St.hp_le H23)) hs5)) ?_)
  rintro _ w27 ⟨rfl,Hc28⟩
  have H29:=St.call0' H23 Hc28
  clear H23 Hc28
  obtain ⟨c30,e,h⟩:=ls h
  refine zn ?_
  refine ze 3 23 [(34,vb c30),(33,vb c30),(32,vb c30)] ?_
  cases c30
  rotate_left
  ·replace h:=bt h
   refine zr 5 28 [(39,vb true),(38,Z),(37,Z),(36,Z),(35,Z)] ?_
   refine zd ?_
   exact ⟨true,yy H29 [1,0] h⟩
  replace h:=bf h
  refine zr 1 24 [(35,vp b8 9)] ?_
  refine zv (s6) (llb H29 0 9) ?_
  obtain ⟨t31,ht31,h⟩:=bs h
  refine zo (oca (g_tarnref16_Limbo_w fuel s6 p1.Limbo t31 ht31 _ (RdD.mono (sub_hp (St.hp_le H29)) hs7)) ?_)
  rintro _ w32 ⟨rfl,Hc33⟩
  have H34:=St.call0' H29 Hc33
  clear H29 Hc33
  obtain ⟨c35,e,h⟩:=ls h
  refine zn ?_
  refine ze 2 28 [(39,vb c35),(38,vb c35)] ?_
  refine zd ?_
  exact ⟨c35,yy H34 [1,0] h⟩
 rintro a w36 ⟨c12,G13,rfl,H37,h⟩
 subst hK14
 refine then_n ?_
 cases c12
 rotate_left
 ·replace h:=bt h
  refine zT ?_
  refine zsg ?_
  refine zrd 1 1 [(2,vb false)] ?_
  refine WP.ret ?_
  obtain rfl:=oi h
  exact then_r (post_r (vb false) rfl (by kernel_rfl) ⟨rfl,sl H37 []⟩)
 replace h:=bf h
 refine zFn ?_
 refine zs ?_
 refine zsg ?_
 refine zrd 1 1 [(3,vi 1)] ?_
 obtain ⟨K39,hK39,h⟩:=js h
 refine WP.blockJ (fun a w=>Y 157 [(1,vp b8 0)] [] no w0 [Fz (fun _=>none),Box b8 #[vi p1.Room,vi p1.Head.Number,vu p1.Head.Base.e0,vu p1.Head.Base.e1,vu p1.Head.Base.e2,vu p1.Head.Base.e3,vi p1.Head.Excess,s2,s4,s6] 31] (K39 = some r) a w) ?_ ?_
 ·refine WP.loop (fun n a w=>∃ (x40 : Int),Y 157 [(1,vp b8 0),(3,vi x40)] [] no w0 [Fz (fun _=>none),Box b8 #[vi p1.Room,vi p1.Head.Number,vu p1.Head.Base.e0,vu p1.Head.Base.e1,vu p1.Head.Base.e2,vu p1.Head.Base.e3,vi p1.Head.Excess,s2,s4,s6] 31] (g_tarnref16_Wide_l1 p1 K39 fuel n x40 = some r) a w) fuel ⟨1,yy H37 [0,1] h⟩ ?_
  rintro n a w42 ⟨x40,G41,rfl,H43,h⟩
  obtain _ | n:=n
  ·rw [g_tarnref16_Wide_l1] at h; cases h
  rw [g_tarnref16_Wide_l1] at h
  refine zs ?_
  refine zsg ?_
  refine zr 2 2 [(41,vp b8 8),(40,vi x40)] ?_
  refine zv (s4) (llb H43 1 8) ?_
  refine zv (vi (((List.length p1.Txs : Nat) : Int))) (lln (RdD.sl hs5) 44 21 200) ?_
  obtain ⟨c44,e,h⟩:=ls h
  refine zed 1 5 [(44,vb c44)] ?_
  cases c44
  ·replace h:=bf h
   refine zF ?_
   refine WP.exit ?_
   exact then_e (then_e (inb_e (then_n (yy H43 [0,1] h))))
  replace h:=bt h
  refine zTn ?_
  refine zs ?_
  refine WP.block ?_
  refine zs ?_
  obtain ⟨K100,hK100,h⟩:=js h
  refine WP.drawI (by kernel_rfl) (by kernel_rfl) (fun w=>St no w0 w [Fz (fun _=>none),Box b8 #[vi p1.Room,vi p1.Head.Number,vu p1.Head.Base.e0,vu p1.Head.Base.e1,vu p1.Head.Base.e2,vu p1.Head.Base.e3,vi p1.Head.Excess,s2,s4,s6] 31]) [13,14] (fun w=>St no w0 w [Fz (fun _=>none),Box b8 #[vi p1.Room,vi p1.Head.Number,vu p1.Head.Base.e0,vu p1.Head.Base.e1,vu p1.Head.Base.e2,vu p1.Head.Base.e3,vi p1.Head.Excess,s2,s4,s6] 31]) (fun a w=>∃ (l66 : List Int) (l69 : List ByteArray) (x47 : Int) (x48 : Int) (x49 : Int) (x50 : Int) (x51 : Int) (x52 : Int) (x53 : Int) (x54 : Int) (x55 : Int) (x56 : Int) (x57 : Int) (x58 : Int) (x59 : Int) (x60 : Int) (x61 : Int) (x62 : Int) (x63 : Int) (x64 : Int) (x65 : Int) (l93 : List Int) (l96 : List ByteArray) (x74 : Int) (x75 : Int) (x76 : Int) (x77 : Int) (x78 : Int) (x79 : Int) (x80 : Int) (x81 : Int) (x82 : Int) (x83 : Int) (x84 : Int) (x85 : Int) (x86 : Int) (x87 : Int) (x88 : Int) (x89 : Int) (x90 : Int) (x91 : Int) (x92 : Int) (s67 : Value) (s70 : Value) (b45 : Nat) (s94 : Value) (s97 : Value) (b72 : Nat),Y 157 [(1,vp b8 0),(3,vi x40),(4,vp b45 0),(5,vp b72 0)] [] no w0 [Fz (fun _=>none),Box b8 #[vi p1.Room,vi p1.Head.Number,vu p1.Head.Base.e0,vu p1.Head.Base.e1,vu p1.Head.Base.e2,vu p1.Head.Base.e3,vi p1.Head.Excess,s2,s4,s6] 31,Box b45 #[vi x47,vi x48,vu x49,vu x50,vu x51,vu x52,vu x53,vu x54,vu x55,vu x56,vu x57,vu x58,vu x59,vu x60,vu x61,vu x62,vu x63,vu x64,vi x65,s67,s70] 44,Box b72 #[vi x74,vi x75,vu x76,vu x77,vu x78,vu x79,vu x80,vu x81,vu x82,vu x83,vu x84,vu x85,vu x86,vu x87,vu x88,vu x89,vu x90,vu x91,vi x92,s94,s97] 44] (Rd fU64 ((un (hp no w0) (fun _=>none))) s67 l66∧Rd fStr ((un (hp no w0) (fun _=>none))) s70 l69∧Rd fU64 ((un (hp no w0) (fun _=>none))) s94 l93∧Rd fStr ((un (hp no w0) (fun _=>none))) s97 l96∧K100 l66 l69 x47 x48 x49 x50 x51 x52 x53 x54 x55 x56 x57 x58 x59 x60 x61 x62 x63 x64 x65 l93 l96 x74 x75 x76 x77 x78 x79 x80 x81 x82 x83 x84 x85 x86 x87 x88 x89 x90 x91 x92 = some r) a w) 15 #[F,F,F,F,F,F,F,F,F,F,F,F,F,F,F] (by kernel_rfl) (by kernel_rfl) ?_ ?_
  ·have H101:=St.drew H43
   refine WI.runS [0] 14 _ #[T,F,F,F,F,F,F,F,F,F,F,F,F,F,F] [(47,vp b8 8)] rfl (fun K=>by kernel_rfl) ?_
   refine WI.takeS 1 (s4) 48 rfl rfl (by kernel_rfl) (by kernel_rfl) (fun w H=>ev_loadBox H 1 rfl 28 (.tmp 47) 8 (s4) rfl (by kernel_rfl) (by kernel_rfl)) (li':=#[T,T,F,F,F,F,F,F,F,F,F,F,F,F,F]) (by kernel_rfl) ?_
   obtain ⟨x102,hx102,h⟩:=ls h
   obtain ⟨hg103,h⟩:=gs h
   refine WI.runS [2,3] 11 _ #[T,T,T,T,F,F,F,F,F,F,F,F,F,F,F] [(50,vi x102),(49,vi x40)] rfl (fun K=>by subst hx102; kernel_rfl) ?_
   refine WI.takeS 4 (va (slAt s4 21 (Int.toNat x102))) 51 rfl rfl (by kernel_rfl) (by kernel_rfl) (fun w H=>ev_index (RdD.sl hs5) 28 (.tmp 48) (.tmp 50) 44 21 200 .i64 x102 rfl (by kernel_rfl) (by kernel_rfl) (by kernel_rfl) hg103) (li':=#[T,T,T,T,T,F,F,F,F,F,F,F,F,F,F]) (by kernel_rfl) ?_
   obtain ⟨x104,hx104,h⟩:=bs h
   obtain ⟨c109,hr110,hc111⟩:=RdD.at_ hs5 _ _ hx104
   obtain ⟨s105,s107,rfl,hs106,hs108⟩:=hr110
   refine WI.takeS 5 ((gTx x104 s105 s107)) 52 rfl rfl (by kernel_rfl) (by kernel_rfl) (fun w H=>ev_load 44 (.tmp 51) 0 ((gTx x104 s105 s107)) hc111 (St.hp_le H) rfl (by kernel_rfl) (by kernel_rfl)) (li':=#[T,T,T,T,T,T,F,F,F,F,F,F,F,F,F]) (by kernel_rfl) ?_
   refine WI.runS [6] 8 _ #[T,T,T,T,T,T,T,F,F,F,F,F,F,F,F] [(53,vp b8 8)] rfl (fun K=>by kernel_rfl) ?_
   refine WI.takeS 7 (s4) 54 rfl rfl (by kernel_rfl) (by kernel_rfl) (fun w H=>ev_loadBox H 1 rfl 28 (.tmp 53) 8 (s4) rfl (by kernel_rfl) (by kernel_rfl)) (li':=#[T,T,T,T,T,T,T,T,F,F,F,F,F,F,F]) (by kernel_rfl) ?_
   obtain ⟨hg112,h⟩:=gs h
   refine WI.runS [8] 6 _ #[T,T,T,T,T,T,T,T,T,F,F,F,F,F,F] [(55,vi x40)] rfl (fun K=>by kernel_rfl) ?_
   refine WI.takeS 9 (va (slAt s4 21 (Int.toNat x40))) 56 rfl rfl (by kernel_rfl) (by kernel_rfl) (fun w H=>ev_index (RdD.sl hs5) 28 (.tmp 54) (.tmp 55) 44 21 200 .i64 x40 rfl (by kernel_rfl) (by kernel_rfl) (by kernel_rfl) hg112) (li':=#[T,T,T,T,T,T,T,T,T,T,F,F,F,F,F]) (by kernel_rfl) ?_
   obtain ⟨x113,hx113,h⟩:=bs h
   obtain ⟨c118,hr119,hc120⟩:=RdD.at_ hs5 _ _ hx113
   obtain ⟨s114,s116,rfl,hs115,hs117⟩:=hr119
   refine WI.takeS 10 ((gTx x113 s114 s116)) 57 rfl rfl (by kernel_rfl) (by kernel_rfl) (fun w H=>ev_load 44 (.tmp 56) 0 ((gTx x113 s114 s116)) hc120 (St.hp_le H) rfl (by kernel_rfl) (by kernel_rfl)) (li':=#[T,T,T,T,T,T,T,T,T,T,T,F,F,F,F]) (by kernel_rfl) ?_
   refine WI.any [11,12] (by kernel_rfl) (by simp) (nod (sl H101 [0,1]) (sl H101 [0,1])) ?_
   simp only [List.mem_cons,List.not_mem_nil,or_false,forall_eq_or_imp,forall_eq]
   refine ⟨⟨_,rfl,?_⟩,⟨_,rfl,?_⟩⟩
   ·refine id (Op1.alloc H101 #[vi 0,vi 0,vu 0,vu 0,vu 0,vu 0,vu 0,vu 0,vu 0,vu 0,vu 0,vu 0,vu 0,vu 0,vu 0,vu 0,vu 0,vu 0,vi 0,vn,vn] (by kernel_rfl) 44 rfl (by kernel_rfl) (fun b121 w123 H124=>?_))
    clear H101
    refine WI.nS 4 #[T,T,T,T,T,T,T,T,T,T,T,T,F,F,F] (by kernel_rfl) rfl ?_
    refine WI.one 12 (by kernel_rfl) (nod (sl H124 [1,2]) (sl H124 [1,2])) rfl (Op1.alloc H124 #[vi 0,vi 0,vu 0,vu 0,vu 0,vu 0,vu 0,vu 0,vu 0,vu 0,vu 0,vu 0,vu 0,vu 0,vu 0,vu 0,vu 0,vu 0,vi 0,vn,vn] (by kernel_rfl) 44 rfl (by kernel_rfl) (fun b125 w127 H128=>?_))
    clear H124
    refine WI.nS 5 #[T,T,T,T,T,T,T,T,T,T,T,T,T,F,F] (by kernel_rfl) rfl ?_
    refine WI.one 13 (by kernel_rfl) (nod (sl H128 [2,3]) (sl H128 [2,3])) rfl (Op1.storeBox H128 1 rfl (by kernel_rfl) 44 (.tmp 4) (.tmp 52) 0 ((gTx x104 s105 s107)) #[vi x104.From,vi x104.Nonce,vu x104.Tip.e0,vu x104.Tip.e1,vu x104.Tip.e2,vu x104.Tip.e3,vu x104.Cap.e0,vu x104.Cap.e1,vu x104.Cap.e2,vu x104.Cap.e3,vu x104.BlobCap.e0,vu x104.BlobCap.e1,vu x104.BlobCap.e2,vu x104.BlobCap.e3,vu x104.Value_.e0,vu x104.Value_.e1,vu x104.Value_.e2,vu x104.Value_.e3,vi x104.Gas,s105,s107] true rfl (by kernel_rfl) (by kernel_rfl) (by kernel_rfl) (by kernel_rfl) (by kernel_rfl) (oc1 rfl (oc1 rfl (oc1 rfl (oc1 rfl (oc1 rfl (oc1 rfl (oc1 rfl (oc1 rfl (oc1 rfl (oc1 rfl (oc1 rfl (oc1 rfl (oc1 rfl (oc1 rfl (oc1 rfl (oc1 rfl (oc1 rfl (oc1 rfl (oc1 rfl (oc1 (IsSl.one (Rd.sl hs106)) (oc1 (IsSl.one (Rd.sl hs108)) oc0))))))))))))))))))))) (fun w129 H130=>?_))
    clear H128
    refine WI.nS0 #[T,T,T,T,T,T,T,T,T,T,T,T,T,T,F] (by kernel_rfl) rfl ?_
    refine WI.one 14 (by kernel_rfl) (nod0 (sl H130 [2,3]) 13 (by decide) (by kernel_rfl)) rfl (Op1.storeBox H130 1 rfl (by kernel_rfl) 44 (.tmp 5) (.tmp 57) 0 ((gTx x113 s114 s116)) #[vi x113.From,vi x113.Nonce,vu x113.Tip.e0,vu x113.Tip.e1,vu x113.Tip.e2,vu x113.Tip.e3,vu x113.Cap.e0,vu x113.Cap.e1,vu x113.Cap.e2,vu x113.Cap.e3,vu x113.BlobCap.e0,vu x113.BlobCap.e1,vu x113.BlobCap.e2,vu x113.BlobCap.e3,vu x113.Value_.e0,vu x113.Value_.e1,vu x113.Value_.e2,vu x113.Value_.e3,vi x113.Gas,s114,s116] true rfl (by kernel_rfl) (by kernel_rfl) (by kernel_rfl) (by kernel_rfl) (by kernel_rfl) (oc1 rfl (oc1 rfl (oc1 rfl (oc1 rfl (oc1 rfl (oc1 rfl (oc1 rfl (oc1 rfl (oc1 rfl (oc1 rfl (oc1 rfl (oc1 rfl (oc1 rfl (oc1 rfl (oc1 rfl (oc1 rfl (oc1 rfl (oc1 rfl (oc1 rfl (oc1 (IsSl.one (Rd.sl hs115)) (oc1 (IsSl.one (Rd.sl hs117)) oc0))))))))))))))))))))) (fun w131 H132=>?_))
    clear H130
    refine WI.nS0 #[T,T,T,T,T,T,T,T,T,T,T,T,T,T,T] (by kernel_rfl) rfl ?_
    refine WI.done (by kernel_rfl) (nod0 (sl H132 [2,3]) 13 (by decide) (by kernel_rfl)) ?_
    exact ⟨x104.Hashes,x104.Blobs,x104.From,x104.Nonce,x104.Tip.e0,x104.Tip.e1,x104.Tip.e2,x104.Tip.e3,x104.Cap.e0,x104.Cap.e1,x104.Cap.e2,x104.Cap.e3,x104.BlobCap.e0,x104.BlobCap.e1,x104.BlobCap.e2,x104.BlobCap.e3,x104.Value_.e0,x104.Value_.e1,x104.Value_.e2,x104.Value_.e3,x104.Gas,x113.Hashes,x113.Blobs,x113.From,x113.Nonce,x113.Tip.e0,x113.Tip.e1,x113.Tip.e2,x113.Tip.e3,x113.Cap.e0,x113.Cap.e1,x113.Cap.e2,x113.Cap.e3,x113.BlobCap.e0,x113.BlobCap.e1,x113.BlobCap.e2,x113.BlobCap.e3,x113.Value_.e0,x113.Value_.e1,x113.Value_.e2,x113.Value_.e3,x113.Gas,s105,s107,b121,s114,s116,b125,yy H132 [2,3,1,0] ⟨(Rd.mono (un_l _ _) hs106),(Rd.mono (un_l _ _) hs108),(Rd.mono (un_l _ _) hs115),(Rd.mono (un_l _ _) hs117),h⟩⟩
   refine id (Op1.alloc H101 #[vi 0,vi 0,vu 0,vu 0,vu 0,vu 0,vu 0,vu 0,vu 0,vu 0,vu 0,vu 0,vu 0,vu 0,vu 0,vu 0,vu 0,vu 0,vi 0,vn,vn] (by kernel_rfl) 44 rfl (by kernel_rfl) (fun b133 w135 H136=>?_))
   clear H101
   refine WI.nS 5 #[T,T,T,T,T,T,T,T,T,T,T,F,T,F,F] (by kernel_rfl) rfl ?_
   refine WI.one 11 (by kernel_rfl) (nod (sl H136 [1,2]) (sl H136 [1,2])) rfl (Op1.alloc H136 #[vi 0,vi 0,vu 0,vu 0,vu 0,vu 0,vu 0,vu 0,vu 0,vu 0,vu 0,vu 0,vu 0,vu 0,vu 0,vu 0,vu 0,vu 0,vi 0,vn,vn] (by kernel_rfl) 44 rfl (by kernel_rfl) (fun b137 w139 H140=>?_))
   clear H136
   refine WI.nS 4 #[T,T,T,T,T,T,T,T,T,T,T,T,T,F,F] (by kernel_rfl) rfl ?_
   refine WI.one 13 (by kernel_rfl) (nod (sl H140 [2,3]) (sl H140 [2,3])) rfl (Op1.storeBox H140 0 rfl (by kernel_rfl) 44 (.tmp 4) (.tmp 52) 0 ((gTx x104 s105 s107)) #[vi x104.From,vi x104.Nonce,vu x104.Tip.e0,vu x104.Tip.e1,vu x104.Tip.e2,vu x104.Tip.e3,vu x104.Cap.e0,vu x104.Cap.e1,vu x104.Cap.e2,vu x104.Cap.e3,vu x104.BlobCap.e0,vu x104.BlobCap.e1,vu x104.BlobCap.e2,vu x104.BlobCap.e3,vu x104.Value_.e0,vu x104.Value_.e1,vu x104.Value_.e2,vu x104.Value_.e3,vi x104.Gas,s105,s107] true rfl (by kernel_rfl) (by kernel_rfl) (by kernel_rfl) (by kernel_rfl) (by kernel_rfl) (oc1 rfl (oc1 rfl (oc1 rfl (oc1 rfl (oc1 rfl (oc1 rfl (oc1 rfl (oc1 rfl (oc1 rfl (oc1 rfl (oc1 rfl (oc1 rfl (oc1 rfl (oc1 rfl (oc1 rfl (oc1 rfl (oc1 rfl (oc1 rfl (oc1 rfl (oc1 (IsSl.one (Rd.sl hs106)) (oc1 (IsSl.one (Rd.sl hs108)) oc0))))))))))))))))))))) (fun w141 H142=>?_))
   clear H140
   refine WI.nS0 #[T,T,T,T,T,T,T,T,T,T,T,T,T,T,F] (by kernel_rfl) rfl ?_
   refine WI.one 14 (by kernel_rfl) (nod0 (sl H142 [2,3]) 13 (by decide) (by kernel_rfl)) rfl (Op1.storeBox H142 1 rfl (by kernel_rfl) 44 (.tmp 5) (.tmp 57) 0 ((gTx x113 s114 s116)) #[vi x113.From,vi x113.Nonce,vu x113.Tip.e0,vu x113.Tip.e1,vu x113.Tip.e2,vu x113.Tip.e3,vu x113.Cap.e0,vu x113.Cap.e1,vu x113.Cap.e2,vu x113.Cap.e3,vu x113.BlobCap.e0,vu x113.BlobCap.e1,vu x113.BlobCap.e2,vu x113.BlobCap.e3,vu x113.Value_.e0,vu x113.Value_.e1,vu x113.Value_.e2,vu x113.Value_.e3,vi x113.Gas,s114,s116] true rfl (by kernel_rfl) (by kernel_rfl) (by kernel_rfl) (by kernel_rfl) (by kernel_rfl) (oc1 rfl (oc1 rfl (oc1 rfl (oc1 rfl (oc1 rfl (oc1 rfl (oc1 rfl (oc1 rfl (oc1 rfl (oc1 rfl (oc1 rfl (oc1 rfl (oc1 rfl (oc1 rfl (oc1 rfl (oc1 rfl (oc1 rfl (oc1 rfl (oc1 rfl (oc1 (IsSl.one (Rd.sl hs115)) (oc1 (IsSl.one (Rd.sl hs117)) oc0))))))))))))))))))))) (fun w143 H144=>?_))
   clear H142
   refine WI.nS0 #[T,T,T,T,T,T,T,T,T,T,T,T,T,T,T] (by kernel_rfl) rfl ?_
   refine WI.done (by kernel_rfl) (nod0 (sl H144 [2,3]) 13 (by decide) (by kernel_rfl)) ?_
   exact ⟨x104.Hashes,x104.Blobs,x104.From,x104.Nonce,x104.Tip.e0,x104.Tip.e1,x104.Tip.e2,x104.Tip.e3,x104.Cap.e0,x104.Cap.e1,x104.Cap.e2,x104.Cap.e3,x104.BlobCap.e0,x104.BlobCap.e1,x104.BlobCap.e2,x104.BlobCap.e3,x104.Value_.e0,x104.Value_.e1,x104.Value_.e2,x104.Value_.e3,x104.Gas,x113.Hashes,x113.Blobs,x113.From,x113.Nonce,x113.Tip.e0,x113.Tip.e1,x113.Tip.e2,x113.Tip.e3,x113.Cap.e0,x113.Cap.e1,x113.Cap.e2,x113.Cap.e3,x113.BlobCap.e0,x113.BlobCap.e1,x113.BlobCap.e2,x113.BlobCap.e3,x113.Value_.e0,x113.Value_.e1,x113.Value_.e2,x113.Value_.e3,x113.Gas,s105,s107,b137,s114,s116,b133,yy H144 [2,3,1,0] ⟨(Rd.mono (un_l _ _) hs106),(Rd.mono (un_l _ _) hs108),(Rd.mono (un_l _ _) hs115),(Rd.mono (un_l _ _) hs117),h⟩⟩
  intro a w hq
  refine Exists.elim hq fun l66 hq=>Exists.elim hq fun l69 hq=>Exists.elim hq fun x47 hq=>Exists.elim hq fun x48 hq=>Exists.elim hq fun x49 hq=>Exists.elim hq fun x50 hq=>Exists.elim hq fun x51 hq=>Exists.elim hq fun x52 hq=>Exists.elim hq fun x53 hq=>Exists.elim hq fun x54 hq=>Exists.elim hq fun x55 hq=>Exists.elim hq fun x56 hq=>Exists.elim hq fun x57 hq=>Exists.elim hq fun x58 hq=>Exists.elim hq fun x59 hq=>Exists.elim hq fun x60 hq=>Exists.elim hq fun x61 hq=>Exists.elim hq fun x62 hq=>Exists.elim hq fun x63 hq=>Exists.elim hq fun x64 hq=>Exists.elim hq fun x65 hq=>Exists.elim hq fun l93 hq=>Exists.elim hq fun l96 hq=>Exists.elim hq fun x74 hq=>Exists.elim hq fun x75 hq=>Exists.elim hq fun x76 hq=>Exists.elim hq fun x77 hq=>Exists.elim hq fun x78 hq=>Exists.elim hq fun x79 hq=>Exists.elim hq fun x80 hq=>Exists.elim hq fun x81 hq=>Exists.elim hq fun x82 hq=>Exists.elim hq fun x83 hq=>Exists.elim hq fun x84 hq=>Exists.elim hq fun x85 hq=>Exists.elim hq fun x86 hq=>Exists.elim hq fun x87 hq=>Exists.elim hq fun x88 hq=>Exists.elim hq fun x89 hq=>Exists.elim hq fun x90 hq=>Exists.elim hq fun x91 hq=>Exists.elim hq fun x92 hq=>Exists.elim hq fun s67 hq=>Exists.elim hq fun s70 hq=>Exists.elim hq fun b45 hq=>Exists.elim hq fun s94 hq=>Exists.elim hq fun s97 hq=>Exists.elim hq fun b72 hq=>Exists.elim hq fun G99 hq=>?_
  obtain ⟨rfl,H,hs68,hs71,hs95,hs98,h⟩:=hq
  subst hK100
  obtain ⟨w145,rfl⟩ : ∃ x,x = w:=⟨_,rfl⟩
  have H146:=H; clear H
  refine then_n ?_
  refine zs ?_
  obtain ⟨K149,hK149,h⟩:=js h
  refine WP.onlyN (fun a w=>∃ (c147 : Bool),Y 157 [(1,vp b8 0),(3,vi x40),(76,vb c147)] [] no w0 [Fz (fun _=>none),Box b8 #[vi p1.Room,vi p1.Head.Number,vu p1.Head.Base.e0,vu p1.Head.Base.e1,vu p1.Head.Base.e2,vu p1.Head.Base.e3,vi p1.Head.Excess,s2,s4,s6] 31,Box b45 #[vi x47,vi x48,vu x49,vu x50,vu x51,vu x52,vu x53,vu x54,vu x55,vu x56,vu x57,vu x58,vu x59,vu x60,vu x61,vu x62,vu x63,vu x64,vi x65,s67,s70] 44,Box b72 #[vi x74,vi x75,vu x76,vu x77,vu x78,vu x79,vu x80,vu x81,vu x82,vu x83,vu x84,vu x85,vu x86,vu x87,vu x88,vu x89,vu x90,vu x91,vi x92,s94,s97] 44] (K149 c147 = some r) a w) ?_ ?_
  ·refine zg ?_
   refine zr 1 1 [(58,vp b45 0)] ?_
   refine zv (vi x47) (llb H146 2 0) ?_
   refine zr 1 3 [(60,vp b72 0)] ?_
   refine zv (vi x74) (llb H146 3 0) ?_
   obtain ⟨c150,e,h⟩:=ls h
   refine ze 2 6 [(63,vb c150),(62,vb c150)] ?_
   cases c150
   rotate_left
   ·replace h:=bt h
    refine zr 13 19 [(76,vb true),(75,Z),(74,Z),(73,Z),(72,Z),(71,Z),(70,Z),(69,Z),(68,Z),(67,Z),(66,Z),(65,Z),(64,Z)] ?_
    refine zd ?_
    exact ⟨true,yy H146 [0,1,2,3] h⟩
   replace h:=bf h
   refine zr 1 7 [(64,vp b45 0)] ?_
   refine zv (vi x47) (llb H146 2 0) ?_
   refine zr 1 9 [(66,vp b72 0)] ?_
   refine zv (vi x74) (llb H146 3 0) ?_
   obtain ⟨c151,e,h⟩:=ls h
   refine ze 2 12 [(69,vb c151),(68,vb c151)] ?_
   cases c151
   ·replace h:=bf h
    refine zr 7 19 [(76,vb false),(75,vb false),(74,Z),(73,Z),(72,Z),(71,Z),(70,Z)] ?_
    refine zd ?_
    exact ⟨false,yy H146 [0,1,2,3] h⟩
   replace h:=bt h
   refine zr 1 13 [(70,vp b45 1)] ?_
   refine zv (vi x48) (llb H146 2 1) ?_
   refine zr 1 15 [(72,vp b72 1)] ?_
   refine zv (vi x75) (llb H146 3 1) ?_
   obtain ⟨c152,e,h⟩:=ls h
   refine ze 3 19 [(76,vb c152),(75,vb c152),(74,vb c152)] ?_
   refine zd ?_
   exact ⟨c152,yy H146 [0,1,2,3] h⟩
  rintro a w153 ⟨c147,G148,rfl,H154,h⟩
  subst hK149
  refine then_n ?_
  cases c147
  rotate_left
  ·replace h:=bt h
   refine zT ?_
   refine zsg ?_
   refine zrd 1 1 [(2,vb false)] ?_
   refine WP.ret ?_
   obtain rfl:=oi h
   exact inb_r (then_r (then_r (inb_r (then_r (then_r (post_r (vb false) rfl (by kernel_rfl) ⟨rfl,sl H154 []⟩))))))
  replace h:=bf h
  refine zF ?_
  refine WP.skip ?_
  refine inb_n (then_n ?_)
  refine zg ?_
  obtain ⟨x155,e,h⟩:=ls h
  refine ze 3 3 [(3,vi x155),(46,vi x155),(45,vi x40)] ?_
  refine zd ?_
  exact then_n ⟨n,lS n,x155,yy H154 [0,1] h⟩
 rintro a w156 ⟨G38,rfl,H157,h⟩
 subst hK39
 refine then_n ?_
 refine zs ?_
 refine zsg ?_
 refine zrd 1 1 [(6,vi 0)] ?_
 obtain ⟨K161,hK161,h⟩:=js h
 refine WP.blockJ (fun a w=>∃ (h158 : Hp),Y 157 [(1,vp b8 0)] [] no w0 [Fz h158,Box b8 #[vi p1.Room,vi p1.Head.Number,vu p1.Head.Base.e0,vu p1.Head.Base.e1,vu p1.Head.Base.e2,vu p1.Head.Base.e3,vi p1.Head.Excess,s2,s4,s6] 31] (Hp.sub ((fun _=>none)) h158∧K161 = some r) a w) ?_ ?_
 ·refine WP.loop (fun n a w=>∃ (x164 : Int) (h162 : Hp),Y 157 [(1,vp b8 0),(6,vi x164)] [] no w0 [Fz h162,Box b8 #[vi p1.Room,vi p1.Head.Number,vu p1.Head.Base.e0,vu p1.Head.Base.e1,vu p1.Head.Base.e2,vu p1.Head.Base.e3,vi p1.Head.Excess,s2,s4,s6] 31] (Hp.sub ((fun _=>none)) h162∧g_tarnref16_Wide_l2 fuel p1 K161 n x164 = some r) a w) fuel ⟨0,((fun _=>none)),yy H157 [0,1] ⟨(Hp.sub_refl _),h⟩⟩ ?_
  rintro n a w166 ⟨x164,h162,G165,rfl,H167,hu163,h⟩
  obtain _ | n:=n
  ·rw [g_tarnref16_Wide_l2] at h; cases h
  rw [g_tarnref16_Wide_l2] at h
  refine zs ?_
  refine zsg ?_
  obtain ⟨c168,e,h⟩:=ls h
  refine zed 2 2 [(78,vb c168),(77,vi x164)] ?_
  cases c168
  ·replace h:=bf h
   refine zF ?_
   refine WP.exit ?_
   exact then_e (then_e (inb_e (then_n ⟨h162,yy H167 [0,1] ⟨hu163,h⟩⟩)))
  replace h:=bt h
  refine zTn ?_
  refine zs ?_
  refine WP.block ?_
  refine zsg ?_
  refine zr 1 1 [(81,vp b8 8)] ?_
  refine zv (s4) (llb H167 1 8) ?_
  obtain ⟨t169,ht169,h⟩:=bs h
  refine zr 1 3 [(83,vi x164)] ?_
  refine zo (oca (g_tarnref16_Of_w fuel s4 p1.Txs x164 t169 ht169 _ ((un (hp no w0) h162)) (un_le (St.hp_le H167) (St.fz_le H167 0 rfl)) (RdD.mono (un_l _ _) hs5)) ?_)
  rintro s170 w176 ⟨h175,_,cs171,rfl,hf173,Hc177⟩
  have H178:=St.call0 H167 Hc177
  clear H167 Hc177
  have H179:=St.fzJoin (St.sel (Rs':=[Fz h175,Fz h162,Own (fD dTTx) 44 s170 cs171,Box b8 #[vi p1.Room,vi p1.Head.Number,vu p1.Head.Base.e0,vu p1.Head.Base.e1,vu p1.Head.Base.e2,vu p1.Head.Base.e3,vi p1.Head.Excess,s2,s4,s6] 31]) H178 [0,2,1,3] (by decide) rfl)
  obtain ⟨h180,eh181⟩ : ∃ x,x = un h162 h175:=⟨_,rfl⟩
  rw [← eh181] at H179
  clear H178
  rw [un_assoc,← eh181] at hf173
  have hu182 : Hp.sub h162 h180:=by rw [eh181]; exact un_l _ _
  have sf174:=Own.slD (St.get H179 1 rfl) hf173
  refine zn ?_
  refine zrd 1 5 [(7,s170)] ?_
  refine zs ?_
  obtain ⟨K185,hK185,h⟩:=js h
  refine WP.onlyN (fun a w=>∃ (c183 : Bool),Y 157 [(1,vp b8 0),(6,vi x164),(118,vb c183)] [] no w0 [Fz h180,Box b8 #[vi p1.Room,vi p1.Head.Number,vu p1.Head.Base.e0,vu p1.Head.Base.e1,vu p1.Head.Base.e2,vu p1.Head.Base.e3,vi p1.Head.Excess,s2,s4,s6] 31,Own (fD dTTx) 44 s170 cs171] (K185 c183 = some r) a w) ?_ ?_
  ·refine WP.quiet (by kernel_rfl) (by kernel_rfl) (by kernel_rfl) (fun w=>St no w0 w [Fz h180,Own (fD dTTx) 44 s170 cs171,Box b8 #[vi p1.Room,vi p1.Head.Number,vu p1.Head.Base.e0,vu p1.Head.Base.e1,vu p1.Head.Base.e2,vu p1.Head.Base.e3,vi p1.Head.Excess,s2,s4,s6] 31]) (St.drew H179) ?_
   obtain ⟨t186,ht186,h⟩:=bs h
   refine qr 1 1 [(85,s170)] ?_
   refine qc (vb t186) (fun w H=>Ret.mono (g_tarnref14_Chain_w fuel s170 t169 t186 ht186 _ (St.rdD H 1 rfl hf173 (un_le (St.hp_le H) (St.fz_le H 0 rfl)))) fun u w1 hu=>⟨hu.1,St.call0' H hu.2⟩) ?_
   obtain ⟨c187,e,h⟩:=ls h
   refine qe 2 4 [(88,vb c187),(87,vb c187)] ?_
   cases c187
   rotate_left
   ·replace h:=bt h
    refine qr 30 34 [(118,vb true),(117,Z),(116,Z),(115,Z),(114,Z),(113,Z),(112,Z),(111,Z),(110,Z),(109,Z),(108,Z),(107,Z),(106,vb true),(105,vb true),(104,Z),(103,Z),(102,Z),(101,Z),(100,Z),(99,Z),(98,Z),(97,Z),(96,Z),(95,Z),(94,Z),(93,Z),(92,Z),(91,Z),(90,Z),(89,Z)] ?_
    refine qd fun w217 H218=>?_
    exact ⟨true,yy H218 [0,2,1] h⟩
   replace h:=bf h
   refine qr 1 5 [(89,s170)] ?_
   refine qv (vi (((List.length t169 : Nat) : Int))) (fun w H=>lln sf174 44 21 200) ?_
   obtain ⟨c188,e,h⟩:=ls h
   refine qe 2 8 [(92,vb c188),(91,vb c188)] ?_
   cases c188
   ·replace h:=bf h
    refine qr 16 24 [(108,vp b8 7),(107,s170),(106,vb false),(105,vb false),(104,vb false),(103,Z),(102,Z),(101,Z),(100,Z),(99,Z),(98,Z),(97,Z),(96,Z),(95,Z),(94,Z),(93,Z)] ?_
    refine qv (s2) (fun w H=>llb H 2 7) ?_
    obtain ⟨hg189,h⟩:=gs h
    refine qr 1 26 [(110,vi x164)] ?_
    refine qv (va (slAt s2 5 (Int.toNat x164))) (fun w H=>lli (Rd.sl hs3) 71 5 40 .i64 x164 hg189) ?_
    obtain ⟨x190,hx190,h⟩:=bs h
    refine qr 1 28 [(112,va ((slAt s2 5 (Int.toNat x164)).add 1))] ?_
    refine qv (TU256.val x190.Balance) (fun w H=>lle fTAcct hs3 (St.hp_le H) hx190 1) ?_
    obtain ⟨t191,ht191,h⟩:=bs h
    refine qc (vi t191) (fun w H=>Ret.mono (g_tarnref14_Covered_w fuel s170 t169 x190.Balance t191 ht191 _ (St.rdD H 1 rfl hf173 (un_le (St.hp_le H) (St.fz_le H 0 rfl)))) fun u w1 hu=>⟨hu.1,St.call0' H hu.2⟩) ?_
    refine qr 1 31 [(115,s170)] ?_
    refine qv (vi (((List.length t169 : Nat) : Int))) (fun w H=>lln sf174 44 21 200) ?_
    obtain ⟨c192,e,h⟩:=ls h
    refine qe 2 34 [(118,vb c192),(117,vb c192)] ?_
    refine qd fun w193 H194=>?_
    exact ⟨c192,yy H194 [0,2,1] h⟩
   replace h:=bt h
   obtain ⟨hg195,h⟩:=gs h
   refine qr 1 9 [(93,s170)] ?_
   refine qv (va (slAt s170 21 (Int.toNat 0))) (fun w H=>lli sf174 44 21 200 .i64 0 hg195) ?_
   obtain ⟨x196,hx196,h⟩:=bs h
   obtain ⟨c201,hr202,ha203,hb204,hc205⟩:=F2.get hf173 hx196
   obtain ⟨s197,s199,rfl,hs198,hs200⟩:=hr202
   refine qr 1 11 [(95,va ((slAt s170 21 (Int.toNat 0)).add 1))] ?_
   refine qv (vi x196.Nonce) (fun w H=>lle (fD dTTx) (St.rd H 1 rfl) (hp_no_le _) hc205 1) ?_
   refine qr 1 13 [(97,vp b8 7)] ?_
   refine qv (s2) (fun w H=>llb H 2 7) ?_
   obtain ⟨hg206,h⟩:=gs h
   refine qr 1 15 [(99,vi x164)] ?_
   refine qv (va (slAt s2 5 (Int.toNat x164))) (fun w H=>lli (Rd.sl hs3) 71 5 40 .i64 x164 hg206) ?_
   obtain ⟨x207,hx207,h⟩:=bs h
   refine qr 1 17 [(101,va (slAt s2 5 (Int.toNat x164)))] ?_
   refine qv (vi x207.Nonce) (fun w H=>lle fTAcct hs3 (St.hp_le H) hx207 0) ?_
   obtain ⟨c208,e,h⟩:=ls h
   refine qe 4 22 [(106,vb c208),(105,vb c208),(104,vb c208),(103,vb c208)] ?_
   cases c208
   rotate_left
   ·replace h:=bt h
    refine qr 12 34 [(118,vb true),(117,Z),(116,Z),(115,Z),(114,Z),(113,Z),(112,Z),(111,Z),(110,Z),(109,Z),(108,Z),(107,Z)] ?_
    refine qd fun w215 H216=>?_
    exact ⟨true,yy H216 [0,2,1] h⟩
   replace h:=bf h
   refine qr 2 24 [(108,vp b8 7),(107,s170)] ?_
   refine qv (s2) (fun w H=>llb H 2 7) ?_
   obtain ⟨hg209,h⟩:=gs h
   refine qr 1 26 [(110,vi x164)] ?_
   refine qv (va (slAt s2 5 (Int.toNat x164))) (fun w H=>lli (Rd.sl hs3) 71 5 40 .i64 x164 hg209) ?_
   obtain ⟨x210,hx210,h⟩:=bs h
   refine qr 1 28 [(112,va ((slAt s2 5 (Int.toNat x164)).add 1))] ?_
   refine qv (TU256.val x210.Balance) (fun w H=>lle fTAcct hs3 (St.hp_le H) hx210 1) ?_
   obtain ⟨t211,ht211,h⟩:=bs h
   refine qc (vi t211) (fun w H=>Ret.mono (g_tarnref14_Covered_w fuel s170 t169 x210.Balance t211 ht211 _ (St.rdD H 1 rfl hf173 (un_le (St.hp_le H) (St.fz_le H 0 rfl)))) fun u w1 hu=>⟨hu.1,St.call0' H hu.2⟩) ?_
   refine qr 1 31 [(115,s170)] ?_
   refine qv (vi (((List.length t169 : Nat) : Int))) (fun w H=>lln sf174 44 21 200) ?_
   obtain ⟨c212,e,h⟩:=ls h
   refine qe 2 34 [(118,vb c212),(117,vb c212)] ?_
   refine qd fun w213 H214=>?_
   exact ⟨c212,yy H214 [0,2,1] h⟩
  rintro a w219 ⟨c183,G184,rfl,H220,h⟩
  subst hK185
  refine then_n ?_
  cases c183
  rotate_left
  ·replace h:=bt h
   refine zT ?_
   refine zsg ?_
   refine zrd 1 1 [(2,vb false)] ?_
   refine WP.ret ?_
   obtain rfl:=oi h
   exact inb_r (then_r (then_r (inb_r (then_r (then_r (post_r (vb false) rfl (by kernel_rfl) ⟨rfl,sl H220 []⟩))))))
  replace h:=bf h
  refine zF ?_
  refine WP.skip ?_
  refine inb_n (then_n ?_)
  refine zg ?_
  obtain ⟨x222,e,h⟩:=ls h
  refine ze 3 3 [(6,vi x222),(80,vi x222),(79,vi x164)] ?_
  refine zd ?_
  exact then_n ⟨n,lS n,x222,h180,yy H220 [0,1] ⟨(Hp.sub_trans hu163 hu182),h⟩⟩
 rintro a w223 ⟨h158,G160,rfl,H224,hu159,h⟩
 subst hK161
 refine then_n ?_
 refine zsg ?_
 refine zrd 1 1 [(8,vn)] ?_
 refine zs ?_
 refine zsg ?_
 refine zrd 1 1 [(9,vi 0)] ?_
 obtain ⟨K229,hK229,h⟩:=js h
 refine WP.blockJ (fun a w=>∃ (l226 : List Int) (s227 : Value),Y 157 [(1,vp b8 0),(8,s227)] [] no w0 [Fz h158,Box b8 #[vi p1.Room,vi p1.Head.Number,vu p1.Head.Base.e0,vu p1.Head.Base.e1,vu p1.Head.Base.e2,vu p1.Head.Base.e3,vi p1.Head.Excess,s2,s4,s6] 31,Own fU64 22 s227 l226] (K229 l226 = some r) a w) ?_ ?_
 ·refine WP.loop (fun n a w=>∃ (l231 : List Int) (x233 : Int) (s232 : Value),Y 157 [(1,vp b8 0),(8,s232),(9,vi x233)] [] no w0 [Fz h158,Box b8 #[vi p1.Room,vi p1.Head.Number,vu p1.Head.Base.e0,vu p1.Head.Base.e1,vu p1.Head.Base.e2,vu p1.Head.Base.e3,vi p1.Head.Excess,s2,s4,s6] 31,Own fU64 22 s232 l231] (g_tarnref16_Wide_l3 p1 fuel K229 n l231 x233 = some r) a w) fuel ⟨([]),0,vn,yy (St.nil H224 fU64 22) [1,2,0] h⟩ ?_
  rintro n a w235 ⟨l231,x233,s232,G234,rfl,H236,h⟩
  obtain _ | n:=n
  ·rw [g_tarnref16_Wide_l3] at h; cases h
  rw [g_tarnref16_Wide_l3] at h
  refine zs ?_
  refine zsg ?_
  refine zr 2 2 [(120,vp b8 8),(119,vi x233)] ?_
  refine zv (s4) (llb H236 1 8) ?_
  refine zv (vi (((List.length p1.Txs : Nat) : Int))) (lln (RdD.sl hs5) 44 21 200) ?_
  obtain ⟨c238,e,h⟩:=ls h
  refine zed 1 5 [(123,vb c238)] ?_
  cases c238
  ·replace h:=bf h
   refine zF ?_
   refine WP.exit ?_
   exact then_e (then_e (inb_e (then_n ⟨l231,s232,yy H236 [0,1,2] h⟩)))
  replace h:=bt h
  refine zTn ?_
  refine zs ?_
  refine WP.block ?_
  refine zsg ?_
  refine zr 1 1 [(126,vp b8 8)] ?_
  refine zv (s4) (llb H236 1 8) ?_
  obtain ⟨hg239,h⟩:=gs h
  refine zr 1 3 [(128,vi x233)] ?_
  refine zv (va (slAt s4 21 (Int.toNat x233))) (lli (RdD.sl hs5) 44 21 200 .i64 x233 hg239) ?_
  obtain ⟨x240,hx240,h⟩:=bs h
  obtain ⟨c245,hr246,hc247⟩:=RdD.at_ hs5 _ _ hx240
  obtain ⟨s241,s243,rfl,hs242,hs244⟩:=hr246
  refine zv ((gTx x240 s241 s243)) (lld 0 hc247 (St.hp_le H236)) ?_
  obtain ⟨t248,ht248,h⟩:=bs h
  refine zo (oca (g_tarnref7_ID_w fuel s241 s243 x240 t248 ht248 _ (Rd.arg0 hs242 H236) (Rd.arg0 hs244 H236)) ?_)
  rintro _ w249 ⟨rfl,Hc250⟩
  have H251:=St.call0' H236 Hc250
  clear H236 Hc250
  refine zn ?_
  refine zrd 1 7 [(10,vu t248)] ?_
  refine zs ?_
  refine zsg ?_
  obtain ⟨t252,ht252,h⟩:=bs h
  refine zr 2 2 [(133,vu t248),(132,s232)] ?_
  refine zo (oca (g_tarnref0_InMarks_w fuel s232 l231 t248 t252 ht252 _ (St.rd H251 2 rfl)) ?_)
  rintro _ w253 ⟨rfl,Hc254⟩
  have H255:=St.call0' H251 Hc254
  clear H251 Hc254
  obtain ⟨c256,e,h⟩:=ls h
  refine zn ?_
  refine zed 1 4 [(135,vb c256)] ?_
  cases c256
  rotate_left
  ·replace h:=bt h
   refine zT ?_
   refine zsg ?_
   refine zrd 1 1 [(2,vb false)] ?_
   refine WP.ret ?_
   obtain rfl:=oi h
   exact then_r (inb_r (then_r (then_r (inb_r (then_r (then_r (post_r (vb false) rfl (by kernel_rfl) ⟨rfl,sl H255 []⟩)))))))
  replace h:=bf h
  refine zFn ?_
  refine zg ?_
  refine zr 2 2 [(137,vu t248),(136,s232)] ?_
  refine WPI.op rfl (Op1.lit (F:=fU64) (E:=22) H255 (by kernel_rfl) ([t248] : List Int) (fun w=>by kernel_rfl) (by simp [maxLen]) (fun s258 w260 H261=>?_))
  clear H255
  obtain ⟨hg262,h⟩:=gs h
  obtain ⟨l263,hl263,h⟩:=ls h
  refine zn ?_
  refine WPI.op rfl (Op1.append (F:=fU64) H261 3 rfl (by kernel_rfl) 41 (.tmp 136) (.tmp 138) 8 rfl (by kernel_rfl) (by kernel_rfl) s258 (([t248] : List Int)) (St.rd H261 0 rfl) (hp_no_le _) (by kernel_rfl) (app_len hg262 (by decide)) (fun s264 w266 H267=>?_))
  rw [← hl263] at H267
  clear H261
  refine zn ?_
  refine zr 1 5 [(8,s264)] ?_
  refine zd ?_
  refine inb_n (then_n ?_)
  refine zg ?_
  obtain ⟨x268,e,h⟩:=ls h
  refine ze 3 3 [(9,vi x268),(125,vi x268),(124,vi x233)] ?_
  refine zd ?_
  exact then_n ⟨n,lS n,l263,x268,s264,yy H267 [2,3,0] h⟩
 rintro a w269 ⟨l226,s227,G228,rfl,H270,h⟩
 subst hK229
 refine then_n ?_
 refine zs ?_
 refine zsg ?_
 refine zrd 1 1 [(11,vi 0)] ?_
 obtain ⟨K273,hK273,h⟩:=js h
 refine WP.blockJ (fun a w=>Y 157 [] [] no w0 [Fz h158,Box b8 #[vi p1.Room,vi p1.Head.Number,vu p1.Head.Base.e0,vu p1.Head.Base.e1,vu p1.Head.Base.e2,vu p1.Head.Base.e3,vi p1.Head.Excess,s2,s4,s6] 31,Own fU64 22 s227 l226] (K273 = some r) a w) ?_ ?_
 ·refine WP.loop (fun n a w=>∃ (x274 : Int),Y 157 [(1,vp b8 0),(8,s227),(11,vi x274)] [] no w0 [Fz h158,Box b8 #[vi p1.Room,vi p1.Head.Number,vu p1.Head.Base.e0,vu p1.Head.Base.e1,vu p1.Head.Base.e2,vu p1.Head.Base.e3,vi p1.Head.Excess,s2,s4,s6] 31,Own fU64 22 s227 l226] (g_tarnref16_Wide_l4 p1 fuel l226 K273 n x274 = some r) a w) fuel ⟨0,yy H270 [0,1,2] h⟩ ?_
  rintro n a w276 ⟨x274,G275,rfl,H277,h⟩
  obtain _ | n:=n
  ·rw [g_tarnref16_Wide_l4] at h; cases h
  rw [g_tarnref16_Wide_l4] at h
  refine zs ?_
  refine zsg ?_
  refine zr 2 2 [(141,vp b8 9),(140,vi x274)] ?_
  refine zv (s6) (llb H277 1 9) ?_
  refine zv (vi (((List.length p1.Limbo : Nat) : Int))) (lln (RdD.sl hs7) 46 22 208) ?_
  obtain ⟨c279,e,h⟩:=ls h
  refine zed 1 5 [(144,vb c279)] ?_
  cases c279
  ·replace h:=bf h
   refine zF ?_
   refine WP.exit ?_
   exact then_e (then_e (inb_e (then_n (yy H277 [0,1,2] h))))
  replace h:=bt h
  refine zTn ?_
  refine zs ?_
  refine WP.block ?_
  refine zsg ?_
  refine zr 2 2 [(148,vp b8 9),(147,s227)] ?_
  refine zv (s6) (llb H277 1 9) ?_
  obtain ⟨hg280,h⟩:=gs h
  refine zr 1 4 [(150,vi x274)] ?_
  refine zv (va (slAt s6 22 (Int.toNat x274))) (lli (RdD.sl hs7) 46 22 208 .i64 x274 hg280) ?_
  obtain ⟨x281,hx281,h⟩:=bs h
  obtain ⟨c286,hr287,hc288⟩:=RdD.at_ hs7 _ _ hx281
  obtain ⟨s282,s284,rfl,hs283,hs285⟩:=hr287
  refine zr 1 6 [(152,va (slAt s6 22 (Int.toNat x274)))] ?_
  refine zv ((gTx x281.Tx s282 s284)) (lld 0 hc288 (St.hp_le H277)) ?_
  obtain ⟨t289,ht289,h⟩:=bs h
  refine zo (oca (g_tarnref7_ID_w fuel s282 s284 x281.Tx t289 ht289 _ (Rd.arg0 hs283 H277) (Rd.arg0 hs285 H277)) ?_)
  rintro _ w290 ⟨rfl,Hc291⟩
  have H292:=St.call0' H277 Hc291
  clear H277 Hc291
  obtain ⟨t293,ht293,h⟩:=bs h
  refine zn ?_
  refine zo (oca (g_tarnref0_InMarks_w fuel s227 l226 t289 t293 ht293 _ (St.rd H292 2 rfl)) ?_)
  rintro _ w294 ⟨rfl,Hc295⟩
  have H296:=St.call0' H292 Hc295
  clear H292 Hc295
  obtain ⟨c297,e,h⟩:=ls h
  refine zn ?_
  refine zed 1 10 [(156,vb c297)] ?_
  cases c297
  rotate_left
  ·replace h:=bt h
   refine zT ?_
   refine zsg ?_
   refine zrd 1 1 [(2,vb false)] ?_
   refine WP.ret ?_
   obtain rfl:=oi h
   exact inb_r (then_r (then_r (inb_r (then_r (then_r (post_r (vb false) rfl (by kernel_rfl) ⟨rfl,sl H296 []⟩))))))
  replace h:=bf h
  refine zF ?_
  refine WP.skip ?_
  refine inb_n (then_n ?_)
  refine zg ?_
  obtain ⟨x298,e,h⟩:=ls h
  refine ze 3 3 [(11,vi x298),(146,vi x298),(145,vi x274)] ?_
  refine zd ?_
  exact then_n ⟨n,lS n,x298,yy H296 [0,1,2] h⟩
 rintro a w299 ⟨G272,rfl,H300,h⟩
 subst hK273
 refine then_n ?_
 refine zsg ?_
 refine zrd 1 1 [(2,vb true)] ?_
 refine WP.ret ?_
 obtain rfl:=oi h
 exact post_r (vb true) rfl (by kernel_rfl) ⟨rfl,sl H300 []⟩
/- tarn/tarnref7.Slot -/
def g_tarnref7_Slot (fuel : Nat) (p1 : Int) : Option Int :=
  gd ((0 : Int) ≤ p1) <| lt (ishl .i64 128 p1) fun x3 => some x3
theorem g_tarnref7_Slot_w (fuel : Nat) (p1 : Int) (r : Int) (h : g_tarnref7_Slot fuel p1 = some r) (w0 : World) :
 Ret Tryz.prog 36 #[vi p1] w0 (fun v w' => v = vi r ∧ St no w0 w' []) := by
 unfold g_tarnref7_Slot at h
 refine ret_of_wpS Tryz.func36 rfl 5 rfl [(0,vi p1)] (by kernel_rfl) (fun G=>?_)
 have H0:=St.start w0
 refine zsg ?_
 refine zrd 1 1 [(2,vi 0)] ?_
 refine zsg ?_
 obtain ⟨hg2,h⟩:=gs h
 obtain ⟨x3,hx3,h⟩:=ls h
 refine zr 1 1 [(3,vi p1)] ?_
 refine WPI.valueS (vi x3) 4 rfl rfl (by kernel_rfl) (Eq.trans (ev_shl .i64 .i64 128 p1 3 3 (.const (vi 128)) (.tmp 3) rfl (by kernel_rfl) (by kernel_rfl) hg2) (by rw [← hx3])) ?_
 refine zrd 1 3 [(2,vi x3)] ?_
 refine WP.ret ?_
 obtain rfl:=oi h
 exact post_r (vi x3) rfl (by kernel_rfl) ⟨rfl,sl H0 []⟩
/- tarn/tarnref16.Room -/
def g_tarnref16_Room (fuel : Nat) (p1 : Int) : Option Bool :=
  jn (fun (c2 : Bool) => some c2) fun K4 => bd (g_tarnref7_Slot fuel 3) fun t5 => lt (decide (p1 ≥ t5)) fun c9 => br c9 (lt (decide (p1 ≤ 1048576)) fun c10 => K4 c10) (K4 false)
theorem g_tarnref16_Room_w (fuel : Nat) (p1 : Int) (r : Bool) (h : g_tarnref16_Room fuel p1 = some r) (w0 : World) :
 Ret Tryz.prog 15 #[vi p1] w0 (fun v w' => v = vb r ∧ St no w0 w' []) := by
 unfold g_tarnref16_Room at h
 refine ret_of_wpS Tryz.func15 rfl 10 rfl [(0,vi p1)] (by kernel_rfl) (fun G=>?_)
 have H0:=St.start w0
 refine zsg ?_
 refine zrd 1 1 [(2,vb false)] ?_
 refine zs ?_
 obtain ⟨K4,hK4,h⟩:=js h
 refine WP.onlyN (fun a w=>∃ (c2 : Bool),Y 10 [(2,vb c2)] [] no w0 [] (K4 c2 = some r) a w) ?_ ?_
 ·refine zg ?_
  obtain ⟨t5,ht5,h⟩:=bs h
  refine zr 1 1 [(3,vi p1)] ?_
  refine zo (oca (g_tarnref7_Slot_w fuel 3 t5 ht5 _) ?_)
  rintro _ w6 ⟨rfl,Hc7⟩
  have H8:=St.call0' H0 Hc7
  clear Hc7
  obtain ⟨c9,e,h⟩:=ls h
  refine zn ?_
  refine ze 2 4 [(6,vb c9),(5,vb c9)] ?_
  cases c9
  ·replace h:=bf h
   refine zr 4 8 [(2,vb false),(9,vb false),(8,Z),(7,Z)] ?_
   refine zd ?_
   exact ⟨false,yy H8 [] h⟩
  replace h:=bt h
  obtain ⟨c10,e,h⟩:=ls h
  refine ze 4 8 [(2,vb c10),(9,vb c10),(8,vb c10),(7,vi p1)] ?_
  refine zd ?_
  exact ⟨c10,yy H8 [] h⟩
 rintro a w11 ⟨c2,G3,rfl,H12,h⟩
 subst hK4
 refine then_n ?_
 refine WP.ret ?_
 obtain rfl:=oi h
 exact post_r (vb c2) rfl (by kernel_rfl) ⟨rfl,sl H12 []⟩
/- tarn/tarnref7.Shelf -/
def g_tarnref7_Shelf_l1 (fuel : Nat) (p1 : Int) (K3 : Option (Int × Bool)) : Nat → Int → Option (Int × Bool)
  | 0, _ => none
  | n + 1, x4 => lt (decide (x4 < 4)) fun c8 => br c8 (bd (g_tarnref7_Slot fuel x4) fun t9 => lt (wr .i64 (t9 - 16)) fun x13 => lt (decide (p1 ≤ x13)) fun c14 => br c14 (some (x4, true)) (lt (wr .i64 (x4 + 1)) fun x15 => g_tarnref7_Shelf_l1 fuel p1 K3 n x15)) (K3)
def g_tarnref7_Shelf (fuel : Nat) (p1 : Int) : Option (Int × Bool) :=
  jn (some (0, false)) fun K3 => g_tarnref7_Shelf_l1 fuel p1 K3 fuel 0
theorem g_tarnref7_Shelf_w (fuel : Nat) (p1 : Int) (r : Int × Bool) (h : g_tarnref7_Shelf fuel p1 = some r) (w0 : World) :
 Ret Tryz.prog 18 #[vi p1] w0 (fun v w' => v = .tuple #[vi r.1, vb r.2] ∧ St no w0 w' []) := by
 unfold g_tarnref7_Shelf at h
 refine ret_of_wpS Tryz.func18 rfl 15 rfl [(0,vi p1)] (by kernel_rfl) (fun G=>?_)
 have H0:=St.start w0
 refine zsg ?_
 refine zrd 2 2 [(3,vb false),(2,vi 0)] ?_
 refine zs ?_
 refine zsg ?_
 refine zrd 1 1 [(4,vi 0)] ?_
 obtain ⟨K3,hK3,h⟩:=js h
 refine WP.blockJ (fun a w=>Y 15 [] [] no w0 [] (K3 = some r) a w) ?_ ?_
 ·refine WP.loop (fun n a w=>∃ (x4 : Int),Y 15 [(0,vi p1),(4,vi x4)] [] no w0 [] (g_tarnref7_Shelf_l1 fuel p1 K3 n x4 = some r) a w) fuel ⟨0,yy H0 [] h⟩ ?_
  rintro n a w6 ⟨x4,G5,rfl,H7,h⟩
  obtain _ | n:=n
  ·rw [g_tarnref7_Shelf_l1] at h; cases h
  rw [g_tarnref7_Shelf_l1] at h
  refine zs ?_
  refine zsg ?_
  obtain ⟨c8,e,h⟩:=ls h
  refine zed 2 2 [(6,vb c8),(5,vi x4)] ?_
  cases c8
  ·replace h:=bf h
   refine zF ?_
   refine WP.exit ?_
   exact then_e (then_e (inb_e (then_n (yy H7 [] h))))
  replace h:=bt h
  refine zTn ?_
  refine zs ?_
  refine WP.block ?_
  refine zsg ?_
  obtain ⟨t9,ht9,h⟩:=bs h
  refine zr 2 2 [(10,vi x4),(9,vi p1)] ?_
  refine zo (oca (g_tarnref7_Slot_w fuel x4 t9 ht9 _) ?_)
  rintro _ w10 ⟨rfl,Hc11⟩
  have H12:=St.call0' H7 Hc11
  clear H7 Hc11
  obtain ⟨x13,hx13,h⟩:=ls h
  obtain ⟨c14,hc14,h⟩:=ls h
  refine zn ?_
  refine zr 2 5 [(13,vb c14),(12,vi x13)] ?_ rfl (fun K=>by subst hc14 hx13; kernel_rfl)
  refine zdn ?_
  cases c14
  ·replace h:=bf h
   refine zF ?_
   refine WP.skip ?_
   refine inb_n (then_n ?_)
   refine zg ?_
   obtain ⟨x15,e,h⟩:=ls h
   refine ze 3 3 [(4,vi x15),(8,vi x15),(7,vi x4)] ?_
   refine zd ?_
   exact then_n ⟨n,lS n,x15,yy H12 [] h⟩
  replace h:=bt h
  refine zT ?_
  refine zsg ?_
  refine zrd 3 3 [(3,vb true),(2,vi x4),(14,vi x4)] ?_
  refine WP.ret ?_
  obtain rfl:=oi h
  exact inb_r (then_r (then_r (inb_r (then_r (then_r (post_r (.tuple #[vi x4,vb true]) rfl (by kernel_rfl) ⟨rfl,sl H12 []⟩))))))
 rintro a w16 ⟨G2,rfl,H17,h⟩
 subst hK3
 refine then_n ?_
 refine zsg ?_
 refine zrd 2 2 [(3,vb false),(2,vi 0)] ?_
 refine WP.ret ?_
 obtain rfl:=oi h
 exact post_r (.tuple #[vi 0,vb false]) rfl (by kernel_rfl) ⟨rfl,sl H17 []⟩
/- tarn/tarnref7.Room -/
def g_tarnref7_Room (fuel : Nat) (p1 : TTx) : Option Int :=
  bd (g_tarnref7_Bytes fuel p1) fun t10 => bd (g_tarnref7_Shelf fuel ((slen t10))) fun t14 => bd (g_tarnref7_Slot fuel t14.1) fun t18 => some t18
theorem g_tarnref7_Room_w (fuel : Nat) (s2 s4 : Value) (p1 : TTx) (r : Int) (h : g_tarnref7_Room fuel p1 = some r) (w0 : World) (hs3 : Rd fU64 (hp no w0) s2 p1.Hashes) (hs5 : Rd fStr (hp no w0) s4 p1.Blobs) :
 Ret Tryz.prog 37 #[(gTx p1 s2 s4)] w0 (fun v w' => v = vi r ∧ St no w0 w' []) := by
 unfold g_tarnref7_Room at h
 refine ret_of_wpS Tryz.func37 rfl 14 rfl [(0,(gTx p1 s2 s4))] (by kernel_rfl) (fun G=>?_)
 have H0:=St.start w0
 refine zsg ?_
 refine zo (obx H0 #[vi p1.From,vi p1.Nonce,vu p1.Tip.e0,vu p1.Tip.e1,vu p1.Tip.e2,vu p1.Tip.e3,vu p1.Cap.e0,vu p1.Cap.e1,vu p1.Cap.e2,vu p1.Cap.e3,vu p1.BlobCap.e0,vu p1.BlobCap.e1,vu p1.BlobCap.e2,vu p1.BlobCap.e3,vu p1.Value_.e0,vu p1.Value_.e1,vu p1.Value_.e2,vu p1.Value_.e3,vi p1.Gas,s2,s4] 44 (fun b6 w8 H9=>?_))
 refine zn ?_
 refine zrd 1 2 [(2,vi 0)] ?_
 refine zsg ?_
 refine zv ((gTx p1 s2 s4)) (llb H9 0 0) ?_
 obtain ⟨t10,ht10,h⟩:=bs h
 refine zo (oca (g_tarnref7_Bytes_w fuel s2 s4 p1 t10 ht10 _ (Rd.arg0 hs3 H9) (Rd.arg0 hs5 H9)) ?_)
 rintro _ w11 ⟨rfl,Hc12⟩
 have H13:=St.call0' H9 Hc12
 clear H9 Hc12
 refine zn ?_
 refine WPI.valueS (vi ((slen t10))) 8 rfl rfl (by kernel_rfl) (ev_slen t10 9 (.tmp 7) rfl (by kernel_rfl) (by kernel_rfl)) ?_
 obtain ⟨t14,ht14,h⟩:=bs h
 refine zo (oca (g_tarnref7_Shelf_w fuel ((slen t10)) t14 ht14 _) ?_)
 rintro _ w15 ⟨rfl,Hc16⟩
 have H17:=St.call0' H13 Hc16
 clear H13 Hc16
 refine zn ?_
 refine zrd 5 9 [(4,vb t14.2),(3,vi t14.1),(11,vb t14.2),(10,vi t14.1),(5,.tuple #[vi t14.1,vb t14.2])] ?_
 refine zsg ?_
 obtain ⟨t18,ht18,h⟩:=bs h
 refine zr 1 1 [(12,vi t14.1)] ?_
 refine zo (oca (g_tarnref7_Slot_w fuel t14.1 t18 ht18 _) ?_)
 rintro _ w19 ⟨rfl,Hc20⟩
 have H21:=St.call0' H17 Hc20
 clear H17 Hc20
 refine zn ?_
 refine zrd 1 3 [(2,vi t18)] ?_
 refine WP.ret ?_
 obtain rfl:=oi h
 exact post_r (vi t18) rfl (by kernel_rfl) ⟨rfl,sl H21 []⟩
/- tarn/tarnref16.Bytes -/
def g_tarnref16_Bytes_l1 (l2 : List TTx) (fuel : Nat) (K5 : Int → Option Int) : Nat → Int → Int → Option Int
  | 0, _, _ => none
  | n + 1, x6, x7 => lt (decide (x7 < (((List.length l2 : Nat) : Int)))) fun c11 => br c11 (gd ((0 : Int) ≤ x7 ∧ x7 < ((List.length l2 : Nat) : Int)) <| bd (l2[Int.toNat x7]?) fun x13 => bd (g_tarnref7_Room fuel x13) fun t21 => lt (wr .i64 (x6 + t21)) fun x25 => lt (wr .i64 (x7 + 1)) fun x26 => g_tarnref16_Bytes_l1 l2 fuel K5 n x25 x26) (K5 x6)
def g_tarnref16_Bytes (fuel : Nat) (l2 : List TTx) : Option Int :=
  jn (fun (x3 : Int) => some x3) fun K5 => g_tarnref16_Bytes_l1 l2 fuel K5 fuel 0 0
theorem g_tarnref16_Bytes_w (fuel : Nat) (s1 : Value) (l2 : List TTx) (r : Int) (h : g_tarnref16_Bytes fuel l2 = some r) (w0 : World) (hs1 : RdD dTTx (hp no w0) s1 l2) :
 Ret Tryz.prog 16 #[s1] w0 (fun v w' => v = vi r ∧ St no w0 w' []) := by
 unfold g_tarnref16_Bytes at h
 refine ret_of_wpS Tryz.func16 rfl 19 rfl [(0,s1)] (by kernel_rfl) (fun G=>?_)
 have H0:=St.start w0
 refine zsg ?_
 refine zrd 1 1 [(2,vi 0)] ?_
 refine zsg ?_
 refine zrd 1 1 [(3,vi 0)] ?_
 refine zs ?_
 refine zsg ?_
 refine zrd 1 1 [(4,vi 0)] ?_
 obtain ⟨K5,hK5,h⟩:=js h
 refine WP.blockJ (fun a w=>∃ (x3 : Int),Y 19 [(3,vi x3)] [] no w0 [] (K5 x3 = some r) a w) ?_ ?_
 ·refine WP.loop (fun n a w=>∃ (x6 : Int) (x7 : Int),Y 19 [(0,s1),(3,vi x6),(4,vi x7)] [] no w0 [] (g_tarnref16_Bytes_l1 l2 fuel K5 n x6 x7 = some r) a w) fuel ⟨0,0,yy H0 [] h⟩ ?_
  rintro n a w9 ⟨x6,x7,G8,rfl,H10,h⟩
  obtain _ | n:=n
  ·rw [g_tarnref16_Bytes_l1] at h; cases h
  rw [g_tarnref16_Bytes_l1] at h
  refine zs ?_
  refine zsg ?_
  refine zr 2 2 [(6,s1),(5,vi x7)] ?_
  refine zv (vi (((List.length l2 : Nat) : Int))) (lln (RdD.sl hs1) 44 21 200) ?_
  obtain ⟨c11,e,h⟩:=ls h
  refine zed 1 4 [(8,vb c11)] ?_
  cases c11
  ·replace h:=bf h
   refine zF ?_
   refine WP.exit ?_
   exact then_e (then_e (inb_e (then_n ⟨x6,yy H10 [] h⟩)))
  replace h:=bt h
  refine zTn ?_
  refine zs ?_
  refine WP.block ?_
  refine zg ?_
  obtain ⟨hg12,h⟩:=gs h
  refine zr 3 3 [(13,vi x7),(12,s1),(11,vi x6)] ?_
  refine zv (va (slAt s1 21 (Int.toNat x7))) (lli (RdD.sl hs1) 44 21 200 .i64 x7 hg12) ?_
  obtain ⟨x13,hx13,h⟩:=bs h
  obtain ⟨c18,hr19,hc20⟩:=RdD.at_ hs1 _ _ hx13
  obtain ⟨s14,s16,rfl,hs15,hs17⟩:=hr19
  refine zv ((gTx x13 s14 s16)) (lld 0 hc20 (St.hp_le H10)) ?_
  obtain ⟨t21,ht21,h⟩:=bs h
  refine zo (oca (g_tarnref7_Room_w fuel s14 s16 x13 t21 ht21 _ (Rd.arg0 hs15 H10) (Rd.arg0 hs17 H10)) ?_)
  rintro _ w22 ⟨rfl,Hc23⟩
  have H24:=St.call0' H10 Hc23
  clear H10 Hc23
  obtain ⟨x25,e,h⟩:=ls h
  refine zn ?_
  refine ze 2 8 [(3,vi x25),(17,vi x25)] ?_
  refine zd ?_
  refine inb_n (then_n ?_)
  refine zg ?_
  obtain ⟨x26,e,h⟩:=ls h
  refine ze 3 3 [(4,vi x26),(10,vi x26),(9,vi x7)] ?_
  refine zd ?_
  exact then_n ⟨n,lS n,x25,x26,yy H24 [] h⟩
 rintro a w27 ⟨x3,G4,rfl,H28,h⟩
 subst hK5
 refine then_n ?_
 refine zsg ?_
 refine zrd 2 2 [(2,vi x3),(18,vi x3)] ?_
 refine WP.ret ?_
 obtain rfl:=oi h
 exact post_r (vi x3) rfl (by kernel_rfl) ⟨rfl,sl H28 []⟩
/- tarn/tarnref16.Book -/
def g_tarnref16_Book (fuel : Nat) (p1 : TBook) : Option Bool :=
  jn (fun (c12 : Bool) => some c12) fun K14 => bd (g_tarnref16_Wide fuel p1) fun t15 => br t15 (bd (g_tarnref16_Room fuel p1.Room) fun t18 => br t18 (bd (g_tarnref16_Bytes fuel p1.Txs) fun t21 => lt (decide (t21 ≤ p1.Room)) fun c22 => K14 c22) (K14 false)) (K14 false)
theorem g_tarnref16_Book_w (fuel : Nat) (s2 s4 s6 : Value) (p1 : TBook) (r : Bool) (h : g_tarnref16_Book fuel p1 = some r) (w0 : World) (hs3 : Rd fTAcct (hp no w0) s2 p1.Accts) (hs5 : RdD dTTx (hp no w0) s4 p1.Txs) (hs7 : RdD dTHeld (hp no w0) s6 p1.Limbo) :
 Ret Tryz.prog 6 #[.agg #[vi p1.Room, vi p1.Head.Number, vu p1.Head.Base.e0, vu p1.Head.Base.e1, vu p1.Head.Base.e2, vu p1.Head.Base.e3, vi p1.Head.Excess, s2, s4, s6]] w0 (fun v w' => v = vb r ∧ St no w0 w' []) := by
 unfold g_tarnref16_Book at h
 refine ret_of_wpS Tryz.func6 rfl 18 rfl [(0,.agg #[vi p1.Room,vi p1.Head.Number,vu p1.Head.Base.e0,vu p1.Head.Base.e1,vu p1.Head.Base.e2,vu p1.Head.Base.e3,vi p1.Head.Excess,s2,s4,s6])] (by kernel_rfl) (fun G=>?_)
 have H0:=St.start w0
 refine zsg ?_
 refine zo (obx H0 #[vi p1.Room,vi p1.Head.Number,vu p1.Head.Base.e0,vu p1.Head.Base.e1,vu p1.Head.Base.e2,vu p1.Head.Base.e3,vi p1.Head.Excess,s2,s4,s6] 31 (fun b8 w10 H11=>?_))
 refine zn ?_
 refine zrd 1 2 [(2,vb false)] ?_
 refine zs ?_
 obtain ⟨K14,hK14,h⟩:=js h
 refine WP.onlyN (fun a w=>∃ (c12 : Bool),Y 18 [(2,vb c12)] [] no w0 [Box b8 #[vi p1.Room,vi p1.Head.Number,vu p1.Head.Base.e0,vu p1.Head.Base.e1,vu p1.Head.Base.e2,vu p1.Head.Base.e3,vi p1.Head.Excess,s2,s4,s6] 31] (K14 c12 = some r) a w) ?_ ?_
 ·refine WP.quiet (by kernel_rfl) (by kernel_rfl) (by kernel_rfl) (fun w=>St no w0 w [Box b8 #[vi p1.Room,vi p1.Head.Number,vu p1.Head.Base.e0,vu p1.Head.Base.e1,vu p1.Head.Base.e2,vu p1.Head.Base.e3,vi p1.Head.Excess,s2,s4,s6] 31]) (St.drew H11) ?_
  refine qv (.agg #[vi p1.Room,vi p1.Head.Number,vu p1.Head.Base.e0,vu p1.Head.Base.e1,vu p1.Head.Base.e2,vu p1.Head.Base.e3,vi p1.Head.Excess,s2,s4,s6]) (fun w H=>llb H 0 0) ?_
  obtain ⟨t15,ht15,h⟩:=bs h
  refine qc (vb t15) (fun w H=>Ret.mono (g_tarnref16_Wide_w fuel s2 s4 s6 p1 t15 ht15 _ (Rd.arg0 hs3 H) (RdD.mono (sub_hp (St.hp_le H)) hs5) (RdD.mono (sub_hp (St.hp_le H)) hs7)) fun u w1 hu=>⟨hu.1,St.call0' H hu.2⟩) ?_
  refine qr 1 3 [(5,vb t15)] ?_
  cases t15
  ·replace h:=bf h
   refine qr 13 16 [(2,vb false),(17,vb false),(16,Z),(15,Z),(14,Z),(13,Z),(12,Z),(11,Z),(10,vb false),(9,vb false),(8,Z),(7,Z),(6,Z)] ?_
   refine qd fun w16 H17=>?_
   exact ⟨false,yy H17 [0] h⟩
  replace h:=bt h
  refine qr 1 4 [(6,vp b8 0)] ?_
  refine qv (vi p1.Room) (fun w H=>llb H 0 0) ?_
  obtain ⟨t18,ht18,h⟩:=bs h
  refine qc (vb t18) (fun w H=>Ret.mono (g_tarnref16_Room_w fuel p1.Room t18 ht18 _) fun u w1 hu=>⟨hu.1,St.call0' H hu.2⟩) ?_
  refine qr 2 8 [(10,vb t18),(9,vb t18)] ?_
  cases t18
  ·replace h:=bf h
   refine qr 8 16 [(2,vb false),(17,vb false),(16,Z),(15,Z),(14,Z),(13,Z),(12,Z),(11,Z)] ?_
   refine qd fun w19 H20=>?_
   exact ⟨false,yy H20 [0] h⟩
  replace h:=bt h
  refine qr 1 9 [(11,vp b8 8)] ?_
  refine qv (s4) (fun w H=>llb H 0 8) ?_
  obtain ⟨t21,ht21,h⟩:=bs h
  refine qc (vi t21) (fun w H=>Ret.mono (g_tarnref16_Bytes_w fuel s4 p1.Txs t21 ht21 _ (RdD.mono (sub_hp (St.hp_le H)) hs5)) fun u w1 hu=>⟨hu.1,St.call0' H hu.2⟩) ?_
  refine qr 1 12 [(14,vp b8 0)] ?_
  refine qv (vi p1.Room) (fun w H=>llb H 0 0) ?_
  obtain ⟨c22,e,h⟩:=ls h
  refine qe 3 16 [(2,vb c22),(17,vb c22),(16,vb c22)] ?_
  refine qd fun w23 H24=>?_
  exact ⟨c22,yy H24 [0] h⟩
 rintro a w25 ⟨c12,G13,rfl,H26,h⟩
 subst hK14
 refine then_n ?_
 refine WP.ret ?_
 obtain rfl:=oi h
 exact post_r (vb c12) rfl (by kernel_rfl) ⟨rfl,sl H26 []⟩
/- tarn/tarnlaw27.num -/
def g_tarnlaw27_num (fuel : Nat) (p1 : Int) : Option Int :=
  some p1
theorem g_tarnlaw27_num_w (fuel : Nat) (p1 : Int) (r : Int) (h : g_tarnlaw27_num fuel p1 = some r) (w0 : World) :
 Ret Tryz.prog 7 #[vi p1] w0 (fun v w' => v = vi r ∧ St no w0 w' []) := by
 unfold g_tarnlaw27_num at h
 refine ret_of_wpS Tryz.func7 rfl 4 rfl [(0,vi p1)] (by kernel_rfl) (fun G=>?_)
 have H0:=St.start w0
 refine zsg ?_
 refine zrd 1 1 [(2,vi 0)] ?_
 refine zsg ?_
 refine zrd 2 2 [(2,vi p1),(3,vi p1)] ?_
 refine WP.ret ?_
 obtain rfl:=oi h
 exact post_r (vi p1) rfl (by kernel_rfl) ⟨rfl,sl H0 []⟩
/- tarn/tarnlaw27.slots -/
def g_tarnlaw27_slots_l1 (l2 : List TTx) (fuel : Nat) (K11 : (List Int) → Option (List Int)) : Nat → (List Int) → Int → Option (List Int)
  | 0, _, _ => none
  | n + 1, l12, x13 => lt (decide (x13 < (((List.length l2 : Nat) : Int)))) fun c18 => br c18 (jn (fun (l19 : List Int) => lt (wr .i64 (x13 + 1)) fun x56 => g_tarnlaw27_slots_l1 l2 fuel K11 n l19 x56) fun K21 => jn (fun (l22 : List Int) => K21 l22) fun K24 => gd ((0 : Int) ≤ x13 ∧ x13 < ((List.length l2 : Nat) : Int)) <| bd (l2[Int.toNat x13]?) fun x26 => bd (g_tarnref7_Bytes fuel x26) fun t34 => bd (g_tarnref7_Shelf fuel ((slen t34))) fun t38 => br t38.2 (gd ((0 : Int) ≤ t38.1 ∧ t38.1 < ((List.length l12 : Nat) : Int)) <| bd (l12[Int.toNat t38.1]?) fun x44 => lt (wr .i64 (x44 + 1)) fun x45 => gd ((0 : Int) ≤ t38.1 ∧ t38.1 < ((List.length l12 : Nat) : Int)) <| lt (List.set l12 (Int.toNat t38.1) x45) fun l47 => K24 l47) (K24 l12)) (K11 l12)
def g_tarnlaw27_slots (fuel : Nat) (l2 : List TTx) : Option (List Int) :=
  gd ((0 : Int) ≤ 4 ∧ (4 : Int) * 8 ≤ 140737488355328) <| jn (fun (l9 : List Int) => some l9) fun K11 => g_tarnlaw27_slots_l1 l2 fuel K11 fuel ((List.replicate (Int.toNat 4) (0 : Int))) 0
theorem g_tarnlaw27_slots_w (fuel : Nat) (s1 : Value) (l2 : List TTx) (r : List Int) (h : g_tarnlaw27_slots fuel l2 = some r) (w0 : World) (hs1 : RdD dTTx (hp no w0) s1 l2) :
 Ret Tryz.prog 10 #[s1] w0 (fun v w' => ∃ (q0 : Value), v = q0 ∧ St no w0 w' [Own fI64 3 q0 r]) := by
 unfold g_tarnlaw27_slots at h
 refine ret_of_wpS Tryz.func10 rfl 32 rfl [(0,s1)] (by kernel_rfl) (fun G=>?_)
 have H0:=St.start w0
 refine zsg ?_
 refine zrd 1 1 [(2,vn)] ?_
 refine zsg ?_
 obtain ⟨hg3,h⟩:=gs h
 refine WPI.op rfl (Op1.make (F:=fI64) (E:=3) H0 (by kernel_rfl) 32 (.const (vi 4)) (.const (vi 4)) 8 .i64 4 rfl (vi 0) (by kernel_rfl) rfl rfl (by kernel_rfl) (by kernel_rfl) hg3 (by decide) (fun s5 w7 H8=>?_))
 refine zn ?_
 refine zrd 1 2 [(3,s5)] ?_
 refine zs ?_
 refine zsg ?_
 refine zrd 1 1 [(4,vi 0)] ?_
 obtain ⟨K11,hK11,h⟩:=js h
 refine WP.blockJ (fun a w=>∃ (l9 : List Int),Y 32 [(3,s5)] [] no w0 [Own fI64 3 s5 l9] (K11 l9 = some r) a w) ?_ ?_
 ·refine WP.loop (fun n a w=>∃ (l12 : List Int) (x13 : Int),Y 32 [(0,s1),(3,s5),(4,vi x13)] [] no w0 [Own fI64 3 s5 l12] (g_tarnlaw27_slots_l1 l2 fuel K11 n l12 x13 = some r) a w) fuel ⟨((List.replicate (Int.toNat 4) (0 : Int))),0,yy H8 [0] h⟩ ?_
  rintro n a w15 ⟨l12,x13,G14,rfl,H16,h⟩
  obtain _ | n:=n
  ·rw [g_tarnlaw27_slots_l1] at h; cases h
  rw [g_tarnlaw27_slots_l1] at h
  have sf17:=Own.isSl (St.get H16 0 rfl)
  refine zs ?_
  refine zsg ?_
  refine zr 2 2 [(9,s1),(8,vi x13)] ?_
  refine zv (vi (((List.length l2 : Nat) : Int))) (lln (RdD.sl hs1) 44 21 200) ?_
  obtain ⟨c18,e,h⟩:=ls h
  refine zed 1 4 [(11,vb c18)] ?_
  cases c18
  ·replace h:=bf h
   refine zF ?_
   refine WP.exit ?_
   exact then_e (then_e (inb_e (then_n ⟨l12,yy H16 [0] h⟩)))
  replace h:=bt h
  refine zTn ?_
  obtain ⟨K21,hK21,h⟩:=js h
  refine WP.seqJ (fun a w=>∃ (l19 : List Int),Y 32 [(0,s1),(3,s5),(4,vi x13)] [] no w0 [Own fI64 3 s5 l19] (K21 l19 = some r) a w) ?_ ?_
  ·obtain ⟨K24,hK24,h⟩:=js h
   refine WP.blockJ (fun a w=>∃ (l22 : List Int),Y 32 [(0,s1),(3,s5),(4,vi x13)] [] no w0 [Own fI64 3 s5 l22] (K24 l22 = some r) a w) ?_ ?_
   ·refine zsg ?_
    obtain ⟨hg25,h⟩:=gs h
    refine zr 2 2 [(16,vi x13),(15,s1)] ?_
    refine zv (va (slAt s1 21 (Int.toNat x13))) (lli (RdD.sl hs1) 44 21 200 .i64 x13 hg25) ?_
    obtain ⟨x26,hx26,h⟩:=bs h
    obtain ⟨c31,hr32,hc33⟩:=RdD.at_ hs1 _ _ hx26
    obtain ⟨s27,s29,rfl,hs28,hs30⟩:=hr32
    refine zv ((gTx x26 s27 s29)) (lld 0 hc33 (St.hp_le H16)) ?_
    obtain ⟨t34,ht34,h⟩:=bs h
    refine zo (oca (g_tarnref7_Bytes_w fuel s27 s29 x26 t34 ht34 _ (Rd.arg0 hs28 H16) (Rd.arg0 hs30 H16)) ?_)
    rintro _ w35 ⟨rfl,Hc36⟩
    have H37:=St.call0' H16 Hc36
    clear H16 Hc36
    refine zn ?_
    refine WPI.valueS (vi ((slen t34))) 20 rfl rfl (by kernel_rfl) (ev_slen t34 9 (.tmp 19) rfl (by kernel_rfl) (by kernel_rfl)) ?_
    obtain ⟨t38,ht38,h⟩:=bs h
    refine zo (oca (g_tarnref7_Shelf_w fuel ((slen t34)) t38 ht38 _) ?_)
    rintro _ w39 ⟨rfl,Hc40⟩
    have H41:=St.call0' H37 Hc40
    clear H37 Hc40
    refine zn ?_
    refine zrd 5 12 [(6,vb t38.2),(5,vi t38.1),(23,vb t38.2),(22,vi t38.1),(14,.tuple #[vi t38.1,vb t38.2])] ?_
    refine zsg ?_
    refine zrd 1 1 [(24,vb t38.2)] ?_
    cases hq42 : t38.2
    ·rw [hq42] at h
     try rw [hq42] at H41
     replace h:=bf h
     refine zF ?_
     refine WP.skip ?_
     exact inb_n (then_n ⟨l12,yy H41 [0] h⟩)
    rw [hq42] at h
    try rw [hq42] at H41
    replace h:=bt h
    refine zT ?_
    refine zg ?_
    obtain ⟨hg43,h⟩:=gs h
    refine zr 2 2 [(26,vi t38.1),(25,s5)] ?_
    refine zv (va (slAt s5 1 (Int.toNat t38.1))) (lli sf17 3 1 8 .i64 t38.1 hg43) ?_
    obtain ⟨x44,hx44,h⟩:=bs h
    refine zv (vi x44) (lle fI64 (St.rd H41 0 rfl) (hp_no_le _) hx44 0) ?_
    obtain ⟨x45,e,h⟩:=ls h
    obtain ⟨hg46,h⟩:=gs h
    refine ze 1 5 [(29,vi x45)] ?_
    refine zv (va (slAt s5 1 (Int.toNat t38.1))) (lli sf17 3 1 8 .i64 t38.1 hg46) ?_
    obtain ⟨l47,hl47,h⟩:=ls h
    refine zo (oow H41 0 (Int.toNat t38.1) x45 false (idx_lt hg46) (fun w48 H49=>?_))
    rw [← hl47] at H49
    clear H41
    refine z0 ?_
    refine zd ?_
    exact inb_n (then_n ⟨l47,yy H49 [0] h⟩)
   rintro a w50 ⟨l22,G23,rfl,H51,h⟩
   subst hK24
   exact then_n ⟨l22,yy H51 [0] h⟩
  rintro a w53 ⟨l19,G20,rfl,H54,h⟩
  subst hK21
  refine zg ?_
  obtain ⟨x56,e,h⟩:=ls h
  refine ze 3 3 [(4,vi x56),(13,vi x56),(12,vi x13)] ?_
  refine zd ?_
  exact then_n ⟨n,lS n,l19,x56,yy H54 [0] h⟩
 rintro a w57 ⟨l9,G10,rfl,H58,h⟩
 subst hK11
 refine then_n ?_
 refine zsg ?_
 refine zrd 2 2 [(2,s5),(31,s5)] ?_
 refine WP.ret ?_
 obtain rfl:=oi h
 exact post_r (s5) rfl (by kernel_rfl) ⟨s5,rfl,sl H58 [0]⟩
/- tarn/tarnref0.EqNumbers -/
def g_tarnref0_EqNumbers_l1 (l2 : List Int) (l4 : List Int) (K7 : Option Bool) (fuel : Nat) : Nat → Int → Option Bool
  | 0, _ => none
  | n + 1, x8 => lt (decide (x8 < (((List.length l2 : Nat) : Int)))) fun c12 => br c12 (gd ((0 : Int) ≤ x8 ∧ x8 < ((List.length l2 : Nat) : Int)) <| bd (l2[Int.toNat x8]?) fun x14 => gd ((0 : Int) ≤ x8 ∧ x8 < ((List.length l4 : Nat) : Int)) <| bd (l4[Int.toNat x8]?) fun x16 => lt (x14 != x16) fun c17 => br c17 (some false) (lt (wr .i64 (x8 + 1)) fun x20 => g_tarnref0_EqNumbers_l1 l2 l4 K7 fuel n x20)) (K7)
def g_tarnref0_EqNumbers (fuel : Nat) (l2 : List Int) (l4 : List Int) : Option Bool :=
  lt ((((List.length l2 : Nat) : Int)) != (((List.length l4 : Nat) : Int))) fun c5 => br c5 (some false) (jn (some true) fun K7 => g_tarnref0_EqNumbers_l1 l2 l4 K7 fuel fuel 0)
theorem g_tarnref0_EqNumbers_w (fuel : Nat) (s1 : Value) (l2 : List Int) (s3 : Value) (l4 : List Int) (r : Bool) (h : g_tarnref0_EqNumbers fuel l2 l4 = some r) (w0 : World) (hs1 : Rd fI64 (hp no w0) s1 l2) (hs3 : Rd fI64 (hp no w0) s3 l4) :
 Ret Tryz.prog 9 #[s1, s3] w0 (fun v w' => v = vb r ∧ St no w0 w' []) := by
 unfold g_tarnref0_EqNumbers at h
 refine ret_of_wpS Tryz.func9 rfl 26 rfl [(0,s1),(1,s3)] (by kernel_rfl) (fun G=>?_)
 have H0:=St.start w0
 refine zsg ?_
 refine zrd 1 1 [(4,vb false)] ?_
 refine zs ?_
 refine zsg ?_
 refine zr 1 1 [(6,s1)] ?_
 refine zv (vi (((List.length l2 : Nat) : Int))) (lln (Rd.sl hs1) 3 1 8) ?_
 refine zr 1 3 [(8,s3)] ?_
 refine zv (vi (((List.length l4 : Nat) : Int))) (lln (Rd.sl hs3) 3 1 8) ?_
 obtain ⟨c5,e,h⟩:=ls h
 refine zed 1 5 [(10,vb c5)] ?_
 cases c5
 rotate_left
 ·replace h:=bt h
  refine zT ?_
  refine zsg ?_
  refine zrd 1 1 [(4,vb false)] ?_
  refine WP.ret ?_
  obtain rfl:=oi h
  exact then_r (post_r (vb false) rfl (by kernel_rfl) ⟨rfl,sl H0 []⟩)
 replace h:=bf h
 refine zFn ?_
 refine zs ?_
 refine zsg ?_
 refine zrd 1 1 [(5,vi 0)] ?_
 obtain ⟨K7,hK7,h⟩:=js h
 refine WP.blockJ (fun a w=>Y 26 [] [] no w0 [] (K7 = some r) a w) ?_ ?_
 ·refine WP.loop (fun n a w=>∃ (x8 : Int),Y 26 [(0,s1),(1,s3),(5,vi x8)] [] no w0 [] (g_tarnref0_EqNumbers_l1 l2 l4 K7 fuel n x8 = some r) a w) fuel ⟨0,yy H0 [] h⟩ ?_
  rintro n a w10 ⟨x8,G9,rfl,H11,h⟩
  obtain _ | n:=n
  ·rw [g_tarnref0_EqNumbers_l1] at h; cases h
  rw [g_tarnref0_EqNumbers_l1] at h
  refine zs ?_
  refine zsg ?_
  refine zr 2 2 [(12,s1),(11,vi x8)] ?_
  refine zv (vi (((List.length l2 : Nat) : Int))) (lln (Rd.sl hs1) 3 1 8) ?_
  obtain ⟨c12,e,h⟩:=ls h
  refine zed 1 4 [(14,vb c12)] ?_
  cases c12
  ·replace h:=bf h
   refine zF ?_
   refine WP.exit ?_
   exact then_e (then_e (inb_e (then_n (yy H11 [] h))))
  replace h:=bt h
  refine zTn ?_
  refine zs ?_
  refine WP.block ?_
  refine zs ?_
  refine WP.quiet (by kernel_rfl) (by kernel_rfl) (by kernel_rfl) (fun w=>St no w0 w []) (St.drew H11) ?_
  obtain ⟨hg13,h⟩:=gs h
  refine qr 2 2 [(18,vi x8),(17,s1)] ?_
  refine qv (va (slAt s1 1 (Int.toNat x8))) (fun w H=>lli (Rd.sl hs1) 3 1 8 .i64 x8 hg13) ?_
  obtain ⟨x14,hx14,h⟩:=bs h
  refine qv (vi x14) (fun w H=>lle fI64 hs1 (St.hp_le H) hx14 0) ?_
  obtain ⟨hg15,h⟩:=gs h
  refine qr 2 6 [(22,vi x8),(21,s3)] ?_
  refine qv (va (slAt s3 1 (Int.toNat x8))) (fun w H=>lli (Rd.sl hs3) 3 1 8 .i64 x8 hg15) ?_
  obtain ⟨x16,hx16,h⟩:=bs h
  refine qv (vi x16) (fun w H=>lle fI64 hs3 (St.hp_le H) hx16 0) ?_
  obtain ⟨c17,e,h⟩:=ls h
  refine qe 1 9 [(25,vb c17)] ?_
  refine qd fun w18 H19=>?_
  refine then_n ?_
  cases c17
  rotate_left
  ·replace h:=bt h
   refine zT ?_
   refine zsg ?_
   refine zrd 1 1 [(4,vb false)] ?_
   refine WP.ret ?_
   obtain rfl:=oi h
   exact inb_r (then_r (then_r (inb_r (then_r (then_r (post_r (vb false) rfl (by kernel_rfl) ⟨rfl,sl H19 []⟩))))))
  replace h:=bf h
  refine zF ?_
  refine WP.skip ?_
  refine inb_n (then_n ?_)
  refine zg ?_
  obtain ⟨x20,e,h⟩:=ls h
  refine ze 3 3 [(5,vi x20),(16,vi x20),(15,vi x8)] ?_
  refine zd ?_
  exact then_n ⟨n,lS n,x20,yy H19 [] h⟩
 rintro a w21 ⟨G6,rfl,H22,h⟩
 subst hK7
 refine then_n ?_
 refine zsg ?_
 refine zrd 1 1 [(4,vb true)] ?_
 refine WP.ret ?_
 obtain rfl:=oi h
 exact post_r (vb true) rfl (by kernel_rfl) ⟨rfl,sl H22 []⟩
/- tarn/tarnlaw16.B -/
def g_tarnlaw16_B_l1 (K16 : (List TAcct) → Option TBook) (fuel : Nat) : Nat → (List TAcct) → Int → Option TBook
  | 0, _, _ => none
  | n + 1, l18, x20 => lt (decide (x20 < 8)) fun c25 => br c25 (gd ((List.length l18 + List.length (([TAcct.mk 0 (TU256.mk 0 1 0 0)] : List TAcct))) * 40 ≤ 140737488355328) <| lt (l18 ++ (([TAcct.mk 0 (TU256.mk 0 1 0 0)] : List TAcct))) fun l32 => lt (wr .i64 (x20 + 1)) fun x39 => g_tarnlaw16_B_l1 K16 fuel n l32 x39) (K16 l18)
def g_tarnlaw16_B (fuel : Nat) (p1 : Int) : Option TBook :=
  jn (fun (l13 : List TAcct) => some (TBook.mk p1 (THead.mk 0 (TU256.mk 0 0 0 0) 0) l13 ([]) ([]))) fun K16 => g_tarnlaw16_B_l1 K16 fuel fuel ([]) 0
theorem g_tarnlaw16_B_w (fuel : Nat) (p1 : Int) (r : TBook) (h : g_tarnlaw16_B fuel p1 = some r) (w0 : World) :
 Ret Tryz.prog 17 #[vi p1] w0 (fun v w' => ∃ (q0_0 : Value), v = .agg #[vi r.Room, vi r.Head.Number, vu r.Head.Base.e0, vu r.Head.Base.e1, vu r.Head.Base.e2, vu r.Head.Base.e3, vi r.Head.Excess, q0_0, vn, vn] ∧ St no w0 w' [Own fTAcct 71 q0_0 r.Accts]) := by
 unfold g_tarnlaw16_B at h
 refine ret_of_wpS Tryz.func17 rfl 19 rfl [(0,vi p1)] (by kernel_rfl) (fun G=>?_)
 have H0:=St.start w0
 refine zsg ?_
 refine zo (oal H0 #[vi 0,vi 0,vu 0,vu 0,vu 0,vu 0,vi 0,vn,vn,vn] 31 (fun b2 w4 H5=>?_))
 refine zn ?_
 refine zdn ?_
 refine zsg ?_
 refine zr 2 2 [(6,.agg #[vi p1,vi 0,vu 0,vu 0,vu 0,vu 0,vi 0,vn,vn,vn]),(5,vi p1)] ?_
 refine zo (oal H5 #[vi 0,vi 0,vu 0,vu 0,vu 0,vu 0,vi 0,vn,vn,vn] 31 (fun b6 w8 H9=>?_))
 clear H5
 refine zn ?_
 refine zo (osb H9 0 0 (.agg #[vi p1,vi 0,vu 0,vu 0,vu 0,vu 0,vi 0,vn,vn,vn]) #[vi p1,vi 0,vu 0,vu 0,vu 0,vu 0,vi 0,vn,vn,vn] true (oc1 rfl (oc1 rfl (oc1 rfl (oc1 rfl (oc1 rfl (oc1 rfl (oc1 rfl (oc1 rfl (oc1 rfl (oc1 rfl oc0)))))))))) (fun w10 H11=>?_))
 clear H9
 refine z0 ?_
 refine zdn ?_
 refine zs ?_
 refine zsg ?_
 refine zrd 1 1 [(4,vi 0)] ?_
 obtain ⟨K16,hK16,h⟩:=js h
 refine WP.blockJ (fun a w=>∃ (l13 : List TAcct) (s14 : Value),Y 19 [(2,vp b2 0),(3,vp b6 0)] [] no w0 [Box b6 #[vi p1,vi 0,vu 0,vu 0,vu 0,vu 0,vi 0,s14,vn,vn] 31,Box b2 #[vi 0,vi 0,vu 0,vu 0,vu 0,vu 0,vi 0,vn,vn,vn] 31,Own fTAcct 71 s14 l13] (K16 l13 = some r) a w) ?_ ?_
 ·refine WP.loop (fun n a w=>∃ (l18 : List TAcct) (x20 : Int) (s19 : Value),Y 19 [(2,vp b2 0),(3,vp b6 0),(4,vi x20)] [] no w0 [Box b6 #[vi p1,vi 0,vu 0,vu 0,vu 0,vu 0,vi 0,s19,vn,vn] 31,Box b2 #[vi 0,vi 0,vu 0,vu 0,vu 0,vu 0,vi 0,vn,vn,vn] 31,Own fTAcct 71 s19 l18] (g_tarnlaw16_B_l1 K16 fuel n l18 x20 = some r) a w) fuel ⟨([]),0,vn,yy (St.nil H11 fTAcct 71) [1,2,0] h⟩ ?_
  rintro n a w22 ⟨l18,x20,s19,G21,rfl,H23,h⟩
  obtain _ | n:=n
  ·rw [g_tarnlaw16_B_l1] at h; cases h
  rw [g_tarnlaw16_B_l1] at h
  refine zs ?_
  refine zsg ?_
  obtain ⟨c25,e,h⟩:=ls h
  refine zed 2 2 [(8,vb c25),(7,vi x20)] ?_
  cases c25
  ·replace h:=bf h
   refine zF ?_
   refine WP.exit ?_
   exact then_e (then_e (inb_e (then_n ⟨l18,s19,yy H23 [0,1,2] h⟩)))
  replace h:=bt h
  refine zTn ?_
  refine zs ?_
  refine WP.block ?_
  refine zg ?_
  refine zr 1 1 [(11,vp b6 7)] ?_
  refine zv (s19) (llb H23 0 7) ?_
  refine zr 2 4 [(14,.agg #[vi 0,vu 0,vu 1,vu 0,vu 0]),(13,.agg #[vu 0,vu 1,vu 0,vu 0])] ?_
  refine WPI.op rfl (Op1.lit (F:=fTAcct) (E:=71) H23 (by kernel_rfl) ([TAcct.mk 0 (TU256.mk 0 1 0 0)] : List TAcct) (fun w=>by kernel_rfl) (by simp [maxLen]) (fun s27 w29 H30=>?_))
  clear H23
  obtain ⟨hg31,h⟩:=gs h
  obtain ⟨l32,hl32,h⟩:=ls h
  refine zn ?_
  refine WPI.op rfl (Op1.append (F:=fTAcct) H30 3 rfl (by kernel_rfl) 27 (.tmp 12) (.tmp 15) 40 rfl (by kernel_rfl) (by kernel_rfl) s27 (([TAcct.mk 0 (TU256.mk 0 1 0 0)] : List TAcct)) (St.rd H30 0 rfl) (hp_no_le _) (by kernel_rfl) (app_len hg31 (by decide)) (fun s33 w35 H36=>?_))
  rw [← hl32] at H36
  clear H30
  have sf34:=Own.isSl (St.get H36 0 rfl)
  refine zn ?_
  refine zr 1 7 [(17,vp b6 7)] ?_
  refine WPI.op rfl (Op1.storeBoxS H36 2 rfl (by kernel_rfl) 27 (.tmp 17) (.tmp 16) 7 (s33) #[vi p1,vi 0,vu 0,vu 0,vu 0,vu 0,vi 0,s33,vn,vn] sf34 rfl (by kernel_rfl) (by kernel_rfl) (by kernel_rfl) (by kernel_rfl) (by kernel_rfl) (fun w37 H38=>?_))
  clear H36
  refine z0 ?_
  refine zd ?_
  refine inb_n (then_n ?_)
  refine zg ?_
  obtain ⟨x39,e,h⟩:=ls h
  refine ze 3 3 [(4,vi x39),(10,vi x39),(9,vi x20)] ?_
  refine zd ?_
  exact then_n ⟨n,lS n,l32,x39,s33,yy H38 [0,3,1] h⟩
 rintro a w40 ⟨l13,s14,G15,rfl,H41,h⟩
 subst hK16
 have sf42:=Own.isSl (St.get H41 2 rfl)
 refine then_n ?_
 refine zsg ?_
 refine zv (.agg #[vi p1,vi 0,vu 0,vu 0,vu 0,vu 0,vi 0,s14,vn,vn]) (llb H41 0 0) ?_
 refine zo (osb H41 1 0 (.agg #[vi p1,vi 0,vu 0,vu 0,vu 0,vu 0,vi 0,s14,vn,vn]) #[vi p1,vi 0,vu 0,vu 0,vu 0,vu 0,vi 0,s14,vn,vn] true (oc1 rfl (oc1 rfl (oc1 rfl (oc1 rfl (oc1 rfl (oc1 rfl (oc1 rfl (oc1 (IsSl.one sf42) (oc1 rfl (oc1 rfl oc0)))))))))) (fun w43 H44=>?_))
 clear H41
 refine z0 ?_
 refine zdn ?_
 refine WP.ret ?_
 obtain rfl:=oi h
 exact post_r (.agg #[vi p1,vi 0,vu 0,vu 0,vu 0,vu 0,vi 0,s14,vn,vn]) rfl (results_cell rfl (by kernel_rfl) (run_loadAt (ad:=(⟨b2,0,none⟩ : Addr)) (off:=0) (St.boxAt H44 0 rfl) (le_self _) (by kernel_rfl))) ⟨s14,rfl,sl H44 [2]⟩
/- tarn/tarnlaw27.wakes -/
def g_tarnlaw27_wakes (fuel : Nat)  : Option Bool :=
  bd (g_tarnlaw16_B fuel 1024) fun t1 => bd (g_meter_Slots fuel (TBook.mk t1.Room t1.Head t1.Accts ([]) ([]))) fun t8 => jn (fun (c15 : Bool) => some c15) fun K17 => bd (g_tarnlaw27_num fuel t8.2) fun t18 => lt (t18 == 0) fun c22 => br c22 (gd ((0 : Int) ≤ 8 ∧ (8 : Int) * 8 ≤ 140737488355328) <| bd (g_tarnref0_EqNumbers fuel t8.1 ((List.replicate (Int.toNat 8) (0 : Int)))) fun t29 => K17 t29) (K17 false)
theorem g_tarnlaw27_wakes_w (fuel : Nat)  (r : Bool) (h : g_tarnlaw27_wakes fuel = some r) (w0 : World) :
 Ret Tryz.prog 8 #[] w0 (fun v w' => v = vb r ∧ St no w0 w' []) := by
 unfold g_tarnlaw27_wakes at h
 refine ret_of_wpS Tryz.func8 rfl 16 rfl [] (by kernel_rfl) (fun G=>?_)
 have H0:=St.start w0
 refine zsg ?_
 refine zrd 1 1 [(0,vb false)] ?_
 refine zsg ?_
 obtain ⟨t1,ht1,h⟩:=bs h
 refine zo (oca (g_tarnlaw16_B_w fuel 1024 t1 ht1 _) ?_)
 rintro _ w5 ⟨s2,rfl,Hc6⟩
 have H7:=St.call0 H0 Hc6
 clear Hc6
 obtain ⟨t8,ht8,h⟩:=bs h
 refine zn ?_
 refine zo (oca (g_meter_Slots_w fuel s2 vn vn (TBook.mk t1.Room t1.Head t1.Accts ([]) ([])) t8 ht8 _ (St.rd H7 0 rfl) (RdD.nil _ _) (RdD.nil _ _)) ?_)
 rintro _ w12 ⟨s9,rfl,Hc13⟩
 have H14:=St.call0 H7 Hc13
 clear H7 Hc13
 refine zn ?_
 refine zrd 5 7 [(2,vi t8.2),(1,s9),(7,vi t8.2),(6,s9),(3,.tuple #[s9,vi t8.2])] ?_
 refine zs ?_
 obtain ⟨K17,hK17,h⟩:=js h
 refine WP.onlyN (fun a w=>∃ (c15 : Bool),Y 16 [(0,vb c15)] [] no w0 [Own fI64 3 s9 t8.1,Own fTAcct 71 s2 t1.Accts] (K17 c15 = some r) a w) ?_ ?_
 ·refine zg ?_
  obtain ⟨t18,ht18,h⟩:=bs h
  refine zr 1 1 [(8,vi t8.2)] ?_
  refine zo (oca (g_tarnlaw27_num_w fuel t8.2 t18 ht18 _) ?_)
  rintro _ w19 ⟨rfl,Hc20⟩
  have H21:=St.call0' H14 Hc20
  clear H14 Hc20
  obtain ⟨c22,e,h⟩:=ls h
  refine zn ?_
  refine ze 2 4 [(11,vb c22),(10,vb c22)] ?_
  cases c22
  ·replace h:=bf h
   refine zr 5 9 [(0,vb false),(15,vb false),(14,Z),(13,Z),(12,Z)] ?_
   refine zd ?_
   exact ⟨false,yy H21 [0,1] h⟩
  replace h:=bt h
  obtain ⟨hg23,h⟩:=gs h
  refine zr 1 5 [(12,s9)] ?_
  refine WPI.op rfl (Op1.make (F:=fI64) (E:=3) H21 (by kernel_rfl) 32 (.const (vi 8)) (.const (vi 8)) 8 .i64 8 rfl (vi 0) (by kernel_rfl) rfl rfl (by kernel_rfl) (by kernel_rfl) hg23 (by decide) (fun s25 w27 H28=>?_))
  clear H21
  obtain ⟨t29,ht29,h⟩:=bs h
  refine zn ?_
  refine zo (oca (g_tarnref0_EqNumbers_w fuel s9 t8.1 s25 ((List.replicate (Int.toNat 8) (0 : Int))) t29 ht29 _ (St.rd H28 1 rfl) (St.rd H28 0 rfl)) ?_)
  rintro _ w30 ⟨rfl,Hc31⟩
  have H32:=St.call0' H28 Hc31
  clear H28 Hc31
  refine zn ?_
  refine zr 2 9 [(0,vb t29),(15,vb t29)] ?_
  refine zd ?_
  exact ⟨t29,yy H32 [1,2] h⟩
 rintro a w33 ⟨c15,G16,rfl,H34,h⟩
 subst hK17
 refine then_n ?_
 refine WP.ret ?_
 obtain rfl:=oi h
 exact post_r (vb c15) rfl (by kernel_rfl) ⟨rfl,sl H34 []⟩
/- tarn/tarnlaw27.MeterSlots -/
def g_tarnlaw27_MeterSlots_l1 (p1 : Ttarnlaw16_Ask) (K38 : (List TTx) → Option Bool) (fuel : Nat) : Nat → (List TTx) → Int → Option Bool
  | 0, _, _ => none
  | n + 1, l40, x44 => lt (decide (x44 < (((List.length p1.B.Limbo : Nat) : Int)))) fun c50 => br c50 (gd ((0 : Int) ≤ x44 ∧ x44 < ((List.length p1.B.Limbo : Nat) : Int)) <| bd (p1.B.Limbo[Int.toNat x44]?) fun x52 => gd ((List.length l40 + List.length (([x52.Tx] : List TTx))) * 200 ≤ 140737488355328) <| lt (l40 ++ (([x52.Tx] : List TTx))) fun l68 => lt (wr .i64 (x44 + 1)) fun x74 => g_tarnlaw27_MeterSlots_l1 p1 K38 fuel n l68 x74) (K38 l40)
def g_tarnlaw27_MeterSlots (fuel : Nat) (p1 : Ttarnlaw16_Ask) : Option Bool :=
  bd (g_tarnlaw16_Heavy fuel p1.B) fun t16 => br t16 (some true) (bd (g_meter_Slots fuel p1.B) fun t20 => bd (g_tarnref16_Book fuel p1.B) fun t27 => lt (!t27) fun c31 => br c31 (jn (fun (c119 : Bool) => some c119) fun K121 => bd (g_tarnlaw27_num fuel t20.2) fun t122 => lt (t122 == 1) fun c126 => br c126 (lt ((((List.length t20.1 : Nat) : Int)) == 0) fun c127 => br c127 (bd (g_tarnlaw27_wakes fuel) fun t128 => K121 t128) (K121 false)) (K121 false)) (jn (fun (l33 : List TTx) => jn (fun (c79 : Bool) => some c79) fun K81 => bd (g_tarnlaw27_num fuel t20.2) fun t82 => lt (t82 == 0) fun c86 => br c86 (bd (g_tarnlaw27_slots fuel p1.B.Txs) fun t87 => bd (g_tarnlaw27_slots fuel l33) fun t94 => gd ((List.length t87 + List.length t94) * 8 ≤ 140737488355328) <| lt (t87 ++ t94) fun l102 => bd (g_tarnref0_EqNumbers fuel t20.1 l102) fun t107 => br t107 (bd (g_tarnlaw27_wakes fuel) fun t111 => K81 t111) (K81 false)) (K81 false)) fun K38 => g_tarnlaw27_MeterSlots_l1 p1 K38 fuel fuel ([]) 0))
theorem g_tarnlaw27_MeterSlots_w (fuel : Nat) (s2 s4 s6 s8 s10 : Value) (p1 : Ttarnlaw16_Ask) (r : Bool) (h : g_tarnlaw27_MeterSlots fuel p1 = some r) (w0 : World) (hs3 : Rd fTAcct (hp no w0) s2 p1.B.Accts) (hs5 : RdD dTTx (hp no w0) s4 p1.B.Txs) (hs7 : RdD dTHeld (hp no w0) s6 p1.B.Limbo) (hs9 : RdD dTTx (hp no w0) s8 p1.L) (hs11 : Rd fI64 (hp no w0) s10 p1.N) :
 Ret Tryz.prog 3 #[.agg #[vi p1.B.Room, vi p1.B.Head.Number, vu p1.B.Head.Base.e0, vu p1.B.Head.Base.e1, vu p1.B.Head.Base.e2, vu p1.B.Head.Base.e3, vi p1.B.Head.Excess, s2, s4, s6, s8, s10]] w0 (fun v w' => v = vb r ∧ St no w0 w' []) := by
 unfold g_tarnlaw27_MeterSlots at h
 refine ret_of_wpS Tryz.func3 rfl 66 rfl [(0,.agg #[vi p1.B.Room,vi p1.B.Head.Number,vu p1.B.Head.Base.e0,vu p1.B.Head.Base.e1,vu p1.B.Head.Base.e2,vu p1.B.Head.Base.e3,vi p1.B.Head.Excess,s2,s4,s6,s8,s10])] (by kernel_rfl) (fun G=>?_)
 have H0:=St.start w0
 refine zsg ?_
 refine zo (obx H0 #[vi p1.B.Room,vi p1.B.Head.Number,vu p1.B.Head.Base.e0,vu p1.B.Head.Base.e1,vu p1.B.Head.Base.e2,vu p1.B.Head.Base.e3,vi p1.B.Head.Excess,s2,s4,s6,s8,s10] 34 (fun b12 w14 H15=>?_))
 refine zn ?_
 refine zrd 1 2 [(2,vb false)] ?_
 refine zs ?_
 refine zsg ?_
 refine zr 1 1 [(7,vp b12 0)] ?_
 refine zv (.agg #[vi p1.B.Room,vi p1.B.Head.Number,vu p1.B.Head.Base.e0,vu p1.B.Head.Base.e1,vu p1.B.Head.Base.e2,vu p1.B.Head.Base.e3,vi p1.B.Head.Excess,s2,s4,s6]) (llb H15 0 0) ?_
 obtain ⟨t16,ht16,h⟩:=bs h
 refine zo (oca (g_tarnlaw16_Heavy_w fuel s2 s4 s6 p1.B t16 ht16 _ (Rd.arg0 hs3 H15) (RdD.mono (sub_hp (St.hp_le H15)) hs5) (RdD.mono (sub_hp (St.hp_le H15)) hs7)) ?_)
 rintro _ w17 ⟨rfl,Hc18⟩
 have H19:=St.call0' H15 Hc18
 clear H15 Hc18
 refine zn ?_
 refine zdn ?_
 cases t16
 rotate_left
 ·replace h:=bt h
  refine zT ?_
  refine zsg ?_
  refine zrd 1 1 [(2,vb true)] ?_
  refine WP.ret ?_
  obtain rfl:=oi h
  exact then_r (post_r (vb true) rfl (by kernel_rfl) ⟨rfl,sl H19 []⟩)
 replace h:=bf h
 refine zFn ?_
 refine zsg ?_
 refine zr 1 1 [(11,vp b12 0)] ?_
 refine zv (.agg #[vi p1.B.Room,vi p1.B.Head.Number,vu p1.B.Head.Base.e0,vu p1.B.Head.Base.e1,vu p1.B.Head.Base.e2,vu p1.B.Head.Base.e3,vi p1.B.Head.Excess,s2,s4,s6]) (llb H19 0 0) ?_
 obtain ⟨t20,ht20,h⟩:=bs h
 refine zo (oca (g_meter_Slots_w fuel s2 s4 s6 p1.B t20 ht20 _ (Rd.arg0 hs3 H19) (RdD.mono (sub_hp (St.hp_le H19)) hs5) (RdD.mono (sub_hp (St.hp_le H19)) hs7)) ?_)
 rintro _ w24 ⟨s21,rfl,Hc25⟩
 have H26:=St.call0 H19 Hc25
 clear H19 Hc25
 have sf23:=Own.isSl (St.get H26 0 rfl)
 refine zn ?_
 refine zrd 5 8 [(4,vi t20.2),(3,s21),(15,vi t20.2),(14,s21),(10,.tuple #[s21,vi t20.2])] ?_
 refine zs ?_
 refine zsg ?_
 refine zr 1 1 [(16,vp b12 0)] ?_
 refine zv (.agg #[vi p1.B.Room,vi p1.B.Head.Number,vu p1.B.Head.Base.e0,vu p1.B.Head.Base.e1,vu p1.B.Head.Base.e2,vu p1.B.Head.Base.e3,vi p1.B.Head.Excess,s2,s4,s6]) (llb H26 1 0) ?_
 obtain ⟨t27,ht27,h⟩:=bs h
 refine zo (oca (g_tarnref16_Book_w fuel s2 s4 s6 p1.B t27 ht27 _ (Rd.arg0 hs3 H26) (RdD.mono (sub_hp (St.hp_le H26)) hs5) (RdD.mono (sub_hp (St.hp_le H26)) hs7)) ?_)
 rintro _ w28 ⟨rfl,Hc29⟩
 have H30:=St.call0' H26 Hc29
 clear H26 Hc29
 obtain ⟨c31,e,h⟩:=ls h
 refine zn ?_
 refine zed 1 4 [(19,vb c31)] ?_
 cases c31
 rotate_left
 ·replace h:=bt h
  refine zT ?_
  refine zs ?_
  obtain ⟨K121,hK121,h⟩:=js h
  refine WP.onlyN (fun a w=>∃ (c119 : Bool),Y 66 [(2,vb c119)] [] no w0 [Box b12 #[vi p1.B.Room,vi p1.B.Head.Number,vu p1.B.Head.Base.e0,vu p1.B.Head.Base.e1,vu p1.B.Head.Base.e2,vu p1.B.Head.Base.e3,vi p1.B.Head.Excess,s2,s4,s6,s8,s10] 34,Own fI64 3 s21 t20.1] (K121 c119 = some r) a w) ?_ ?_
  ·refine zg ?_
   obtain ⟨t122,ht122,h⟩:=bs h
   refine zr 1 1 [(20,vi t20.2)] ?_
   refine zo (oca (g_tarnlaw27_num_w fuel t20.2 t122 ht122 _) ?_)
   rintro _ w123 ⟨rfl,Hc124⟩
   have H125:=St.call0' H30 Hc124
   clear H30 Hc124
   obtain ⟨c126,e,h⟩:=ls h
   refine zn ?_
   refine ze 2 4 [(23,vb c126),(22,vb c126)] ?_
   cases c126
   ·replace h:=bf h
    refine zr 8 12 [(2,vb false),(30,vb false),(29,Z),(28,vb false),(27,vb false),(26,Z),(25,Z),(24,Z)] ?_
    refine zd ?_
    exact ⟨false,yy H125 [1,0] h⟩
   replace h:=bt h
   refine zr 1 5 [(24,s21)] ?_
   refine zv (vi (((List.length t20.1 : Nat) : Int))) (lln sf23 3 1 8) ?_
   obtain ⟨c127,e,h⟩:=ls h
   refine ze 3 9 [(28,vb c127),(27,vb c127),(26,vb c127)] ?_
   cases c127
   ·replace h:=bf h
    refine zr 3 12 [(2,vb false),(30,vb false),(29,Z)] ?_
    refine zd ?_
    exact ⟨false,yy H125 [1,0] h⟩
   replace h:=bt h
   obtain ⟨t128,ht128,h⟩:=bs h
   refine zo (oca (g_tarnlaw27_wakes_w fuel t128 ht128 _) ?_)
   rintro _ w129 ⟨rfl,Hc130⟩
   have H131:=St.call0' H125 Hc130
   clear H125 Hc130
   refine zn ?_
   refine zr 2 12 [(2,vb t128),(30,vb t128)] ?_
   refine zd ?_
   exact ⟨t128,yy H131 [1,0] h⟩
  rintro a w132 ⟨c119,G120,rfl,H133,h⟩
  subst hK121
  refine then_n ?_
  refine WP.ret ?_
  obtain rfl:=oi h
  exact then_r (post_r (vb c119) rfl (by kernel_rfl) ⟨rfl,sl H133 []⟩)
 replace h:=bf h
 refine zFn ?_
 refine zsg ?_
 refine zrd 1 1 [(5,vn)] ?_
 refine zs ?_
 refine zsg ?_
 refine zrd 1 1 [(6,vi 0)] ?_
 obtain ⟨K38,hK38,h⟩:=js h
 refine WP.blockJ (fun a w=>∃ (l33 : List TTx) (s34 : Value) (cs35 : List (Cells dTTx.sz)) (G37 : Nat → Value),a = S 66 G37 [(1,vp b12 0),(3,s21),(4,vi t20.2),(5,s34)] []∧St no w0 w [Box b12 #[vi p1.B.Room,vi p1.B.Head.Number,vu p1.B.Head.Base.e0,vu p1.B.Head.Base.e1,vu p1.B.Head.Base.e2,vu p1.B.Head.Base.e3,vi p1.B.Head.Excess,s2,s4,s6,s8,s10] 34,Own fI64 3 s21 t20.1,Own (fD dTTx) 44 s34 cs35]∧F2 (dTTx.rel (hp no w0)) l33 cs35∧K38 l33 = some r) ?_ ?_
 ·refine WP.loop (fun n a w=>∃ (l40 : List TTx) (x44 : Int) (s41 : Value) (cs42 : List (Cells dTTx.sz)) (G45 : Nat → Value),a = S 66 G45 [(1,vp b12 0),(3,s21),(4,vi t20.2),(5,s41),(6,vi x44)] []∧St no w0 w [Box b12 #[vi p1.B.Room,vi p1.B.Head.Number,vu p1.B.Head.Base.e0,vu p1.B.Head.Base.e1,vu p1.B.Head.Base.e2,vu p1.B.Head.Base.e3,vi p1.B.Head.Excess,s2,s4,s6,s8,s10] 34,Own fI64 3 s21 t20.1,Own (fD dTTx) 44 s41 cs42]∧F2 (dTTx.rel (hp no w0)) l40 cs42∧g_tarnlaw27_MeterSlots_l1 p1 K38 fuel n l40 x44 = some r) fuel ⟨([]),0,vn,([]),yy (St.nil H30 (fD dTTx) 44) [2,1,0] ⟨(F2.nil _),h⟩⟩ ?_
  rintro n a w46 ⟨l40,x44,s41,cs42,G45,rfl,H47,hf43,h⟩
  obtain _ | n:=n
  ·rw [g_tarnlaw27_MeterSlots_l1] at h; cases h
  rw [g_tarnlaw27_MeterSlots_l1] at h
  refine zs ?_
  refine zsg ?_
  refine zr 3 3 [(33,vp b12 9),(32,vp b12 0),(31,vi x44)] ?_
  refine zv (s6) (llb H47 0 9) ?_
  refine zv (vi (((List.length p1.B.Limbo : Nat) : Int))) (lln (RdD.sl hs7) 46 22 208) ?_
  obtain ⟨c50,e,h⟩:=ls h
  refine zed 1 6 [(36,vb c50)] ?_
  cases c50
  ·replace h:=bf h
   refine zF ?_
   refine WP.exit ?_
   exact then_e (then_e (inb_e (then_n ⟨l40,s41,cs42,yy H47 [0,1,2] ⟨hf43,h⟩⟩)))
  replace h:=bt h
  refine zTn ?_
  refine zs ?_
  refine WP.block ?_
  refine zg ?_
  refine zr 3 3 [(41,vp b12 9),(40,vp b12 0),(39,s41)] ?_
  refine zv (s6) (llb H47 0 9) ?_
  obtain ⟨hg51,h⟩:=gs h
  refine zr 1 5 [(43,vi x44)] ?_
  refine zv (va (slAt s6 22 (Int.toNat x44))) (lli (RdD.sl hs7) 46 22 208 .i64 x44 hg51) ?_
  obtain ⟨x52,hx52,h⟩:=bs h
  obtain ⟨c57,hr58,hc59⟩:=RdD.at_ hs7 _ _ hx52
  obtain ⟨s53,s55,rfl,hs54,hs56⟩:=hr58
  refine zr 1 7 [(45,va (slAt s6 22 (Int.toNat x44)))] ?_
  refine zv ((gTx x52.Tx s53 s55)) (lld 0 hc59 (St.hp_le H47)) ?_
  have hd60 : dTTx.rel (hp no w0) x52.Tx [vi x52.Tx.From,vi x52.Tx.Nonce,vu x52.Tx.Tip.e0,vu x52.Tx.Tip.e1,vu x52.Tx.Tip.e2,vu x52.Tx.Tip.e3,vu x52.Tx.Cap.e0,vu x52.Tx.Cap.e1,vu x52.Tx.Cap.e2,vu x52.Tx.Cap.e3,vu x52.Tx.BlobCap.e0,vu x52.Tx.BlobCap.e1,vu x52.Tx.BlobCap.e2,vu x52.Tx.BlobCap.e3,vu x52.Tx.Value_.e0,vu x52.Tx.Value_.e1,vu x52.Tx.Value_.e2,vu x52.Tx.Value_.e3,vi x52.Tx.Gas,s53,s55]:=⟨s53,s55,rfl,hs54,hs56⟩
  have hf64 : F2 (dTTx.rel (hp no w0)) ([x52.Tx] : List TTx) ([dTTx.ce hd60] : List (Cells dTTx.sz)):=(F2.cons hd60 (F2.nil _))
  refine WPI.op rfl (Op1.lit (F:=fD dTTx) (E:=44) H47 (by kernel_rfl) ([dTTx.ce hd60] : List (Cells dTTx.sz)) (fun w=>by kernel_rfl) (by simp [maxLen]) (fun s62 w65 H66=>?_))
  clear H47
  obtain ⟨hg67,h⟩:=gs h
  obtain ⟨l68,hl68,h⟩:=ls h
  refine zn ?_
  refine WPI.op rfl (Op1.append (F:=fD dTTx) H66 3 rfl (by kernel_rfl) 28 (.tmp 39) (.tmp 47) 200 rfl (by kernel_rfl) (by kernel_rfl) s62 (([dTTx.ce hd60] : List (Cells dTTx.sz))) (St.rd H66 0 rfl) (hp_no_le _) (by kernel_rfl) (app_lenD hf43.1 hf64.1 hg67 (by decide)) (fun s69 w72 H73=>?_))
  clear H66
  have hf71 : F2 (dTTx.rel (hp no w0)) l68 (cs42 ++ ([dTTx.ce hd60] : List (Cells dTTx.sz))):=by rw [hl68]; exact F2.append hf43 hf64
  refine zn ?_
  refine zr 1 11 [(5,s69)] ?_
  refine zd ?_
  refine inb_n (then_n ?_)
  refine zg ?_
  obtain ⟨x74,e,h⟩:=ls h
  refine ze 3 3 [(6,vi x74),(38,vi x74),(37,vi x44)] ?_
  refine zd ?_
  exact then_n ⟨n,lS n,l68,x74,s69,((cs42 ++ ([dTTx.ce hd60] : List (Cells dTTx.sz)))),yy H73 [2,3,0] ⟨hf71,h⟩⟩
 rintro a w75 ⟨l33,s34,cs35,G37,rfl,H76,hf36,h⟩
 subst hK38
 refine then_n ?_
 refine zs ?_
 obtain ⟨K81,hK81,h⟩:=js h
 refine WP.onlyN (fun a w=>∃ (c79 : Bool),Y 66 [(2,vb c79)] [] no w0 [Box b12 #[vi p1.B.Room,vi p1.B.Head.Number,vu p1.B.Head.Base.e0,vu p1.B.Head.Base.e1,vu p1.B.Head.Base.e2,vu p1.B.Head.Base.e3,vi p1.B.Head.Excess,s2,s4,s6,s8,s10] 34,Own fI64 3 s21 t20.1,Own (fD dTTx) 44 s34 cs35] (K81 c79 = some r) a w) ?_ ?_
 ·refine zg ?_
  obtain ⟨t82,ht82,h⟩:=bs h
  refine zr 1 1 [(49,vi t20.2)] ?_
  refine zo (oca (g_tarnlaw27_num_w fuel t20.2 t82 ht82 _) ?_)
  rintro _ w83 ⟨rfl,Hc84⟩
  have H85:=St.call0' H76 Hc84
  clear H76 Hc84
  obtain ⟨c86,e,h⟩:=ls h
  refine zn ?_
  refine ze 2 4 [(52,vb c86),(51,vb c86)] ?_
  cases c86
  ·replace h:=bf h
   refine zr 14 18 [(2,vb false),(65,vb false),(64,Z),(63,vb false),(62,vb false),(61,Z),(60,Z),(59,Z),(58,Z),(57,Z),(56,Z),(55,Z),(54,Z),(53,Z)] ?_
   refine zd ?_
   exact ⟨false,yy H85 [0,1,2] h⟩
  replace h:=bt h
  refine zr 3 7 [(55,vp b12 8),(54,vp b12 0),(53,s21)] ?_
  refine zv (s4) (llb H85 0 8) ?_
  obtain ⟨t87,ht87,h⟩:=bs h
  refine zo (oca (g_tarnlaw27_slots_w fuel s4 p1.B.Txs t87 ht87 _ (RdD.mono (sub_hp (St.hp_le H85)) hs5)) ?_)
  rintro s88 w91 ⟨_,rfl,Hc92⟩
  have H93:=St.call0 H85 Hc92
  clear H85 Hc92
  obtain ⟨t94,ht94,h⟩:=bs h
  refine zn ?_
  refine zr 1 10 [(58,s34)] ?_
  refine zo (oca (g_tarnlaw27_slots_w fuel s34 l33 t94 ht94 _ (St.rdD H93 3 rfl hf36 (St.hp_le H93))) ?_)
  rintro s95 w98 ⟨_,rfl,Hc99⟩
  have H100:=St.call0 H93 Hc99
  clear H93 Hc99
  obtain ⟨hg101,h⟩:=gs h
  obtain ⟨l102,hl102,h⟩:=ls h
  refine zn ?_
  refine WPI.op rfl (Op1.append (F:=fI64) H100 1 rfl (by kernel_rfl) 32 (.tmp 57) (.tmp 59) 8 rfl (by kernel_rfl) (by kernel_rfl) s95 t94 (St.rd H100 0 rfl) (hp_no_le _) (by kernel_rfl) (app_len hg101 (by decide)) (fun s103 w105 H106=>?_))
  rw [← hl102] at H106
  clear H100
  obtain ⟨t107,ht107,h⟩:=bs h
  refine zn ?_
  refine zo (oca (g_tarnref0_EqNumbers_w fuel s21 t20.1 s103 l102 t107 ht107 _ (St.rd H106 3 rfl) (St.rd H106 0 rfl)) ?_)
  rintro _ w108 ⟨rfl,Hc109⟩
  have H110:=St.call0' H106 Hc109
  clear H106 Hc109
  refine zn ?_
  refine zr 2 15 [(63,vb t107),(62,vb t107)] ?_
  cases t107
  ·replace h:=bf h
   refine zr 3 18 [(2,vb false),(65,vb false),(64,Z)] ?_
   refine zd ?_
   exact ⟨false,yy H110 [2,3,4] h⟩
  replace h:=bt h
  obtain ⟨t111,ht111,h⟩:=bs h
  refine zo (oca (g_tarnlaw27_wakes_w fuel t111 ht111 _) ?_)
  rintro _ w112 ⟨rfl,Hc113⟩
  have H114:=St.call0' H110 Hc113
  clear H110 Hc113
  refine zn ?_
  refine zr 2 18 [(2,vb t111),(65,vb t111)] ?_
  refine zd ?_
  exact ⟨t111,yy H114 [2,3,4] h⟩
 rintro a w115 ⟨c79,G80,rfl,H116,h⟩
 subst hK81
 refine then_n ?_
 refine WP.ret ?_
 obtain rfl:=oi h
 exact post_r (vb c79) rfl (by kernel_rfl) ⟨rfl,sl H116 []⟩
end Go.Proofs
