import Derived.Test.YtcbjobfklcefpaaGreatGwz
import Derived.Test.YtcbjobfklcefpaaGreatProg
import Derived.Test.YtcbjobfklcefpaaGreatT
import Derived.Test.YtcbjobfklcefpaaGreatY1
import Derived.Test.YtcbjobfklcefpaaGreatY2
set_option linter.unusedVariables false
set_option linter.unusedSimpArgs false
set_option maxRecDepth 100000
set_option maxHeartbeats 4000000
namespace Go.Proofs
open Gw Go.RowKit
attribute [local irreducible] Gw.WP Gw.WPI Gw.WPL Gw.WA Gw.WQ Gw.PX Gw.PY Gw.WI Gw.PZ Gw.Op1 Gw.Ret Go.Exit.then Go.Exit.inBlock Go.wpOpIn Gw.Rnd Gw.Aft Gw.Begun
/- tarn/meter.Slots -/
def g_meter_Slots_l1 (p1 : TBook) (fuel : Nat) (K25 : (List Int) → Option ((List Int) × Int)) : Nat → (List Int) → Int → Option ((List Int) × Int)
  | 0, _, _ => none
  | n + 1, l26, x27 => lt (decide (x27 < (((List.length p1.Txs : Nat) : Int)))) fun c32 => br c32 (gd ((0 : Int) ≤ x27 ∧ x27 < ((List.length p1.Txs : Nat) : Int)) <| bd (p1.Txs[Int.toNat x27]?) fun x34 => bd (g_size_Of fuel x34) fun t48 => gd ((0 : Int) ≤ t48.2.1 ∧ t48.2.1 < ((List.length l26 : Nat) : Int)) <| bd (l26[Int.toNat t48.2.1]?) fun x53 => lt (wr .i64 (x53 + 1)) fun x54 => gd ((0 : Int) ≤ t48.2.1 ∧ t48.2.1 < ((List.length l26 : Nat) : Int)) <| lt (List.set l26 (Int.toNat t48.2.1) x54) fun l56 => lt (wr .i64 (x27 + 1)) fun x59 => g_meter_Slots_l1 p1 fuel K25 n l56 x59) (K25 l26)
def g_meter_Slots_l2 (p1 : TBook) (fuel : Nat) (K65 : (List Int) → Option ((List Int) × Int)) : Nat → (List Int) → Int → Option ((List Int) × Int)
  | 0, _, _ => none
  | n + 1, l66, x67 => lt (decide (x67 < (((List.length p1.Limbo : Nat) : Int)))) fun c72 => br c72 (gd ((0 : Int) ≤ x67 ∧ x67 < ((List.length p1.Limbo : Nat) : Int)) <| bd (p1.Limbo[Int.toNat x67]?) fun x74 => bd (g_size_Of fuel x74.Tx) fun t88 => lt (wr .i64 (4 + t88.2.1)) fun x92 => gd ((0 : Int) ≤ x92 ∧ x92 < ((List.length l66 : Nat) : Int)) <| bd (l66[Int.toNat x92]?) fun x94 => lt (wr .i64 (x94 + 1)) fun x95 => gd ((0 : Int) ≤ x92 ∧ x92 < ((List.length l66 : Nat) : Int)) <| lt (List.set l66 (Int.toNat x92) x95) fun l97 => lt (wr .i64 (x67 + 1)) fun x100 => g_meter_Slots_l2 p1 fuel K65 n l97 x100) (K65 l66)
def g_meter_Slots (fuel : Nat) (p1 : TBook) : Option ((List Int) × Int) :=
  bd (g_pool_Check fuel p1) fun t12 => lt (t12 != 0) fun c16 => br c16 (some ([], t12)) (gd ((0 : Int) ≤ 8 ∧ (8 : Int) * 8 ≤ 140737488355328) <| jn (fun (l23 : List Int) => jn (fun (l63 : List Int) => some (l63, 0)) fun K65 => g_meter_Slots_l2 p1 fuel K65 fuel l23 0) fun K25 => g_meter_Slots_l1 p1 fuel K25 fuel ((List.replicate (Int.toNat 8) (0 : Int))) 0)
theorem g_meter_Slots_w (fuel : Nat) (s2 s4 s6 : Value) (p1 : TBook) (r : (List Int) × Int) (h : g_meter_Slots fuel p1 = some r) (w0 : World) (hs3 : Rd fTAcct (hp no w0) s2 p1.Accts) (hs5 : RdD dTTx (hp no w0) s4 p1.Txs) (hs7 : RdD dTHeld (hp no w0) s6 p1.Limbo) :
 Ret Tryz.prog 5 #[.agg #[vi p1.Room, vi p1.Head.Number, vu p1.Head.Base.e0, vu p1.Head.Base.e1, vu p1.Head.Base.e2, vu p1.Head.Base.e3, vi p1.Head.Excess, s2, s4, s6]] w0 (fun v w' => ∃ (q0 : Value), v = .tuple #[q0, vi r.2] ∧ St no w0 w' [Own fI64 3 q0 r.1]) := by
 unfold g_meter_Slots at h
 refine ret_of_wpS Tryz.func5 rfl 69 rfl [(0,.agg #[vi p1.Room,vi p1.Head.Number,vu p1.Head.Base.e0,vu p1.Head.Base.e1,vu p1.Head.Base.e2,vu p1.Head.Base.e3,vi p1.Head.Excess,s2,s4,s6])] (by kernel_rfl) (fun G=>?_)
 have H0:=St.start w0
 refine zsg ?_
 refine zo (obx H0 #[vi p1.Room,vi p1.Head.Number,vu p1.Head.Base.e0,vu p1.Head.Base.e1,vu p1.Head.Base.e2,vu p1.Head.Base.e3,vi p1.Head.Excess,s2,s4,s6] 31 (fun b8 w10 H11=>?_))
 refine zn ?_
 refine zrd 2 3 [(3,vi 0),(2,vn)] ?_
 refine zs ?_
 refine zsg ?_
 refine zv (.agg #[vi p1.Room,vi p1.Head.Number,vu p1.Head.Base.e0,vu p1.Head.Base.e1,vu p1.Head.Base.e2,vu p1.Head.Base.e3,vi p1.Head.Excess,s2,s4,s6]) (llb H11 0 0) ?_
 obtain ⟨t12,ht12,h⟩:=bs h
 refine zo (oca (g_pool_Check_w fuel s2 s4 s6 p1 t12 ht12 _ (Rd.arg0 hs3 H11) (RdD.mono (sub_hp (St.hp_le H11)) hs5) (RdD.mono (sub_hp (St.hp_le H11)) hs7)) ?_)
 rintro _ w13 ⟨rfl,Hc14⟩
 have H15:=St.call0' H11 Hc14
 clear H11 Hc14
 refine zn ?_
 refine zrd 1 3 [(4,vi t12)] ?_
 refine zsg ?_
 obtain ⟨c16,e,h⟩:=ls h
 refine zed 2 2 [(21,vb c16),(20,vi t12)] ?_
 cases c16
 rotate_left
 ·replace h:=bt h
  refine zT ?_
  refine zsg ?_
  refine zrd 3 3 [(3,vi t12),(2,vn),(22,vi t12)] ?_
  refine WP.ret ?_
  obtain rfl:=oi h
  exact then_r (post_r (.tuple #[vn,vi t12]) rfl (by kernel_rfl) ⟨vn,rfl,sl (St.nil H15 fI64 3) [0]⟩)
 replace h:=bf h
 refine zFn ?_
 refine zsg ?_
 obtain ⟨hg17,h⟩:=gs h
 refine WPI.op rfl (Op1.make (F:=fI64) (E:=3) H15 (by kernel_rfl) 32 (.const (vi 8)) (.const (vi 8)) 8 .i64 8 rfl (vi 0) (by kernel_rfl) rfl rfl (by kernel_rfl) (by kernel_rfl) hg17 (by decide) (fun s19 w21 H22=>?_))
 clear H15
 refine zn ?_
 refine zrd 1 2 [(5,s19)] ?_
 refine zs ?_
 refine zsg ?_
 refine zr 1 1 [(24,vp b8 8)] ?_
 refine zv (s4) (llb H22 1 8) ?_
 refine zv (vi (((List.length p1.Txs : Nat) : Int))) (lln (RdD.sl hs5) 44 21 200) ?_
 refine zrd 1 4 [(27,vi 0)] ?_
 obtain ⟨K25,hK25,h⟩:=js h
 refine WP.blockJ (fun a w=>∃ (l23 : List Int),Y 69 [(1,vp b8 0),(5,s19)] [] no w0 [Box b8 #[vi p1.Room,vi p1.Head.Number,vu p1.Head.Base.e0,vu p1.Head.Base.e1,vu p1.Head.Base.e2,vu p1.Head.Base.e3,vi p1.Head.Excess,s2,s4,s6] 31,Own fI64 3 s19 l23] (K25 l23 = some r) a w) ?_ ?_
 ·refine WP.loop (fun n a w=>∃ (l26 : List Int) (x27 : Int),Y 69 [(1,vp b8 0),(5,s19),(25,s4),(26,vi (((List.length p1.Txs : Nat) : Int))),(27,vi x27)] [] no w0 [Box b8 #[vi p1.Room,vi p1.Head.Number,vu p1.Head.Base.e0,vu p1.Head.Base.e1,vu p1.Head.Base.e2,vu p1.Head.Base.e3,vi p1.Head.Excess,s2,s4,s6] 31,Own fI64 3 s19 l26] (g_meter_Slots_l1 p1 fuel K25 n l26 x27 = some r) a w) fuel ⟨((List.replicate (Int.toNat 8) (0 : Int))),0,yy H22 [1,0] h⟩ ?_
  rintro n a w29 ⟨l26,x27,G28,rfl,H30,h⟩
  obtain _ | n:=n
  ·rw [g_meter_Slots_l1] at h; cases h
  rw [g_meter_Slots_l1] at h
  have sf31:=Own.isSl (St.get H30 1 rfl)
  refine zsg ?_
  obtain ⟨c32,e,h⟩:=ls h
  refine zed 1 1 [(28,vb c32)] ?_
  refine zs ?_
  cases c32
  ·replace h:=bf h
   refine zF ?_
   refine WP.exit ?_
   exact then_e (then_e (inb_e (then_n ⟨l26,yy H30 [0,1] h⟩)))
  replace h:=bt h
  refine zTn ?_
  refine zs ?_
  refine WP.block ?_
  refine zsg ?_
  obtain ⟨hg33,h⟩:=gs h
  refine zv (va (slAt s4 21 (Int.toNat x27))) (lli (RdD.sl hs5) 44 21 200 .i64 x27 hg33) ?_
  obtain ⟨x34,hx34,h⟩:=bs h
  obtain ⟨c39,hr40,hc41⟩:=RdD.at_ hs5 _ _ hx34
  obtain ⟨s35,s37,rfl,hs36,hs38⟩:=hr40
  refine zv ((gTx x34 s35 s37)) (lld 0 hc41 (St.hp_le H30)) ?_
  refine zo (oal H30 #[vi 0,vi 0,vu 0,vu 0,vu 0,vu 0,vu 0,vu 0,vu 0,vu 0,vu 0,vu 0,vu 0,vu 0,vu 0,vu 0,vu 0,vu 0,vi 0,vn,vn] 44 (fun b42 w44 H45=>?_))
  clear H30
  refine zn ?_
  refine zo (osb H45 0 0 ((gTx x34 s35 s37)) #[vi x34.From,vi x34.Nonce,vu x34.Tip.e0,vu x34.Tip.e1,vu x34.Tip.e2,vu x34.Tip.e3,vu x34.Cap.e0,vu x34.Cap.e1,vu x34.Cap.e2,vu x34.Cap.e3,vu x34.BlobCap.e0,vu x34.BlobCap.e1,vu x34.BlobCap.e2,vu x34.BlobCap.e3,vu x34.Value_.e0,vu x34.Value_.e1,vu x34.Value_.e2,vu x34.Value_.e3,vi x34.Gas,s35,s37] true (oc1 rfl (oc1 rfl (oc1 rfl (oc1 rfl (oc1 rfl (oc1 rfl (oc1 rfl (oc1 rfl (oc1 rfl (oc1 rfl (oc1 rfl (oc1 rfl (oc1 rfl (oc1 rfl (oc1 rfl (oc1 rfl (oc1 rfl (oc1 rfl (oc1 rfl (oc1 (IsSl.one (Rd.sl hs36)) (oc1 (IsSl.one (Rd.sl hs38)) oc0))))))))))))))))))))) (fun w46 H47=>?_))
  clear H45
  refine z0 ?_
  refine zdn ?_
  refine zsg ?_
  refine zv ((gTx x34 s35 s37)) (llb H47 0 0) ?_
  obtain ⟨t48,ht48,h⟩:=bs h
  refine zo (oca (g_size_Of_w fuel s35 s37 x34 t48 ht48 _ (Rd.arg0 hs36 H47) (Rd.arg0 hs38 H47)) ?_)
  rintro _ w49 ⟨rfl,Hc50⟩
  have H51:=St.call0' H47 Hc50
  clear H47 Hc50
  refine zn ?_
  refine zrd 9 11 [(11,vi t48.2.2.2),(10,vi t48.2.2.1),(9,vi t48.2.1),(8,vi t48.1),(37,vi t48.2.2.2),(36,vi t48.2.2.1),(35,vi t48.2.1),(34,vi t48.1),(31,.tuple #[vi t48.1,vi t48.2.1,vi t48.2.2.1,vi t48.2.2.2])] ?_
  refine zg ?_
  obtain ⟨hg52,h⟩:=gs h
  refine zr 2 2 [(39,vi t48.2.1),(38,s19)] ?_
  refine zv (va (slAt s19 1 (Int.toNat t48.2.1))) (lli sf31 3 1 8 .i64 t48.2.1 hg52) ?_
  obtain ⟨x53,hx53,h⟩:=bs h
  refine zv (vi x53) (lle fI64 (St.rd H51 2 rfl) (hp_no_le _) hx53 0) ?_
  obtain ⟨x54,e,h⟩:=ls h
  obtain ⟨hg55,h⟩:=gs h
  refine ze 1 5 [(42,vi x54)] ?_
  refine zv (va (slAt s19 1 (Int.toNat t48.2.1))) (lli sf31 3 1 8 .i64 t48.2.1 hg55) ?_
  obtain ⟨l56,hl56,h⟩:=ls h
  refine zo (oow H51 2 (Int.toNat t48.2.1) x54 false (idx_lt hg55) (fun w57 H58=>?_))
  rw [← hl56] at H58
  clear H51
  refine z0 ?_
  refine zd ?_
  refine inb_n (then_n ?_)
  refine zg ?_
  obtain ⟨x59,e,h⟩:=ls h
  refine ze 2 2 [(27,vi x59),(44,vi x59)] ?_
  refine zd ?_
  exact then_n ⟨n,lS n,l56,x59,yy H58 [2,0] h⟩
 rintro a w60 ⟨l23,G24,rfl,H61,h⟩
 subst hK25
 refine then_n ?_
 refine zs ?_
 refine zsg ?_
 refine zr 1 1 [(45,vp b8 9)] ?_
 refine zv (s6) (llb H61 0 9) ?_
 refine zv (vi (((List.length p1.Limbo : Nat) : Int))) (lln (RdD.sl hs7) 46 22 208) ?_
 refine zrd 1 4 [(48,vi 0)] ?_
 obtain ⟨K65,hK65,h⟩:=js h
 refine WP.blockJ (fun a w=>∃ (l63 : List Int),Y 69 [(5,s19)] [] no w0 [Box b8 #[vi p1.Room,vi p1.Head.Number,vu p1.Head.Base.e0,vu p1.Head.Base.e1,vu p1.Head.Base.e2,vu p1.Head.Base.e3,vi p1.Head.Excess,s2,s4,s6] 31,Own fI64 3 s19 l63] (K65 l63 = some r) a w) ?_ ?_
 ·refine WP.loop (fun n a w=>∃ (l66 : List Int) (x67 : Int),Y 69 [(5,s19),(46,s6),(47,vi (((List.length p1.Limbo : Nat) : Int))),(48,vi x67)] [] no w0 [Box b8 #[vi p1.Room,vi p1.Head.Number,vu p1.Head.Base.e0,vu p1.Head.Base.e1,vu p1.Head.Base.e2,vu p1.Head.Base.e3,vi p1.Head.Excess,s2,s4,s6] 31,Own fI64 3 s19 l66] (g_meter_Slots_l2 p1 fuel K65 n l66 x67 = some r) a w) fuel ⟨l23,0,yy H61 [0,1] h⟩ ?_
  rintro n a w69 ⟨l66,x67,G68,rfl,H70,h⟩
  obtain _ | n:=n
  ·rw [g_meter_Slots_l2] at h; cases h
  rw [g_meter_Slots_l2] at h
  have sf71:=Own.isSl (St.get H70 1 rfl)
  refine zsg ?_
  obtain ⟨c72,e,h⟩:=ls h
  refine zed 1 1 [(49,vb c72)] ?_
  refine zs ?_
  cases c72
  ·replace h:=bf h
   refine zF ?_
   refine WP.exit ?_
   exact then_e (then_e (inb_e (then_n ⟨l66,yy H70 [0,1] h⟩)))
  replace h:=bt h
  refine zTn ?_
  refine zs ?_
  refine WP.block ?_
  refine zsg ?_
  obtain ⟨hg73,h⟩:=gs h
  refine zv (va (slAt s6 22 (Int.toNat x67))) (lli (RdD.sl hs7) 46 22 208 .i64 x67 hg73) ?_
  obtain ⟨x74,hx74,h⟩:=bs h
  obtain ⟨c79,hr80,hc81⟩:=RdD.at_ hs7 _ _ hx74
  obtain ⟨s75,s77,rfl,hs76,hs78⟩:=hr80
  refine zv ((gHd x74 s75 s77)) (lld 0 hc81 (St.hp_le H70)) ?_
  refine zo (oal H70 #[vi 0,vi 0,vu 0,vu 0,vu 0,vu 0,vu 0,vu 0,vu 0,vu 0,vu 0,vu 0,vu 0,vu 0,vu 0,vu 0,vu 0,vu 0,vi 0,vn,vn,vi 0] 46 (fun b82 w84 H85=>?_))
  clear H70
  refine zn ?_
  refine zo (osb H85 0 0 ((gHd x74 s75 s77)) #[vi x74.Tx.From,vi x74.Tx.Nonce,vu x74.Tx.Tip.e0,vu x74.Tx.Tip.e1,vu x74.Tx.Tip.e2,vu x74.Tx.Tip.e3,vu x74.Tx.Cap.e0,vu x74.Tx.Cap.e1,vu x74.Tx.Cap.e2,vu x74.Tx.Cap.e3,vu x74.Tx.BlobCap.e0,vu x74.Tx.BlobCap.e1,vu x74.Tx.BlobCap.e2,vu x74.Tx.BlobCap.e3,vu x74.Tx.Value_.e0,vu x74.Tx.Value_.e1,vu x74.Tx.Value_.e2,vu x74.Tx.Value_.e3,vi x74.Tx.Gas,s75,s77,vi x74.Block] true (oc1 rfl (oc1 rfl (oc1 rfl (oc1 rfl (oc1 rfl (oc1 rfl (oc1 rfl (oc1 rfl (oc1 rfl (oc1 rfl (oc1 rfl (oc1 rfl (oc1 rfl (oc1 rfl (oc1 rfl (oc1 rfl (oc1 rfl (oc1 rfl (oc1 rfl (oc1 (IsSl.one (Rd.sl hs76)) (oc1 (IsSl.one (Rd.sl hs78)) (oc1 rfl oc0)))))))))))))))))))))) (fun w86 H87=>?_))
  clear H85
  refine z0 ?_
  refine zdn ?_
  refine zsg ?_
  refine zr 1 1 [(53,vp b82 0)] ?_
  refine zv ((gTx x74.Tx s75 s77)) (llb H87 0 0) ?_
  obtain ⟨t88,ht88,h⟩:=bs h
  refine zo (oca (g_size_Of_w fuel s75 s77 x74.Tx t88 ht88 _ (Rd.arg0 hs76 H87) (Rd.arg0 hs78 H87)) ?_)
  rintro _ w89 ⟨rfl,Hc90⟩
  have H91:=St.call0' H87 Hc90
  clear H87 Hc90
  refine zn ?_
  refine zrd 9 12 [(17,vi t88.2.2.2),(16,vi t88.2.2.1),(15,vi t88.2.1),(14,vi t88.1),(59,vi t88.2.2.2),(58,vi t88.2.2.1),(57,vi t88.2.1),(56,vi t88.1),(52,.tuple #[vi t88.1,vi t88.2.1,vi t88.2.2.1,vi t88.2.2.2])] ?_
  refine zg ?_
  obtain ⟨x92,e,h⟩:=ls h
  obtain ⟨hg93,h⟩:=gs h
  refine ze 3 3 [(62,vi x92),(61,vi t88.2.1),(60,s19)] ?_
  refine zv (va (slAt s19 1 (Int.toNat x92))) (lli sf71 3 1 8 .i64 x92 hg93) ?_
  obtain ⟨x94,hx94,h⟩:=bs h
  refine zv (vi x94) (lle fI64 (St.rd H91 2 rfl) (hp_no_le _) hx94 0) ?_
  obtain ⟨x95,e,h⟩:=ls h
  obtain ⟨hg96,h⟩:=gs h
  refine ze 1 6 [(65,vi x95)] ?_
  refine zv (va (slAt s19 1 (Int.toNat x92))) (lli sf71 3 1 8 .i64 x92 hg96) ?_
  obtain ⟨l97,hl97,h⟩:=ls h
  refine zo (oow H91 2 (Int.toNat x92) x95 false (idx_lt hg96) (fun w98 H99=>?_))
  rw [← hl97] at H99
  clear H91
  refine z0 ?_
  refine zd ?_
  refine inb_n (then_n ?_)
  refine zg ?_
  obtain ⟨x100,e,h⟩:=ls h
  refine ze 2 2 [(48,vi x100),(67,vi x100)] ?_
  refine zd ?_
  exact then_n ⟨n,lS n,l97,x100,yy H99 [2,0] h⟩
 rintro a w101 ⟨l63,G64,rfl,H102,h⟩
 subst hK65
 refine then_n ?_
 refine zsg ?_
 refine zrd 3 3 [(3,vi 0),(2,s19),(68,s19)] ?_
 refine WP.ret ?_
 obtain rfl:=oi h
 exact post_r (.tuple #[s19,vi 0]) rfl (by kernel_rfl) ⟨s19,rfl,sl H102 [1]⟩
/- tarn/tarnref0.Num -/
def g_tarnref0_Num (fuel : Nat) (p1 : Int) (p2 : Int) : Option Bool :=
  jn (fun (c3 : Bool) => some c3) fun K5 => lt (decide (p1 ≥ 0)) fun c6 => br c6 (lt (decide (p1 ≤ p2)) fun c7 => K5 c7) (K5 false)
theorem g_tarnref0_Num_w (fuel : Nat) (p1 : Int) (p2 : Int) (r : Bool) (h : g_tarnref0_Num fuel p1 p2 = some r) (w0 : World) :
 Ret Tryz.prog 60 #[vi p1, vi p2] w0 (fun v w' => v = vb r ∧ St no w0 w' []) := by
 unfold g_tarnref0_Num at h
 refine ret_of_wpS Tryz.func60 rfl 12 rfl [(0,vi p1),(1,vi p2)] (by kernel_rfl) (fun G=>?_)
 have H0:=St.start w0
 refine zsg ?_
 refine zrd 1 1 [(4,vb false)] ?_
 refine zs ?_
 obtain ⟨K5,hK5,h⟩:=js h
 refine WP.onlyN (fun a w=>∃ (c3 : Bool),Y 12 [(4,vb c3)] [] no w0 [] (K5 c3 = some r) a w) ?_ ?_
 ·refine zg ?_
  obtain ⟨c6,e,h⟩:=ls h
  refine ze 3 3 [(7,vb c6),(6,vb c6),(5,vi p1)] ?_
  cases c6
  ·replace h:=bf h
   refine zr 5 8 [(4,vb false),(11,vb false),(10,Z),(9,Z),(8,Z)] ?_
   refine zd ?_
   exact ⟨false,yy H0 [] h⟩
  replace h:=bt h
  obtain ⟨c7,e,h⟩:=ls h
  refine ze 5 8 [(4,vb c7),(11,vb c7),(10,vb c7),(9,vi p2),(8,vi p1)] ?_
  refine zd ?_
  exact ⟨c7,yy H0 [] h⟩
 rintro a w8 ⟨c3,G4,rfl,H9,h⟩
 subst hK5
 refine then_n ?_
 refine WP.ret ?_
 obtain rfl:=oi h
 exact post_r (vb c3) rfl (by kernel_rfl) ⟨rfl,sl H9 []⟩
/- tarn/tarnref16.Head -/
def g_tarnref16_Head (fuel : Nat) (p1 : THead) : Option Bool :=
  jn (fun (c6 : Bool) => some c6) fun K8 => bd (g_tarnref0_Num fuel p1.Number 1099511627776) fun t9 => br t9 (bd (g_tarnref0_Num fuel p1.Excess 1099511627776) fun t13 => K8 t13) (K8 false)
theorem g_tarnref16_Head_w (fuel : Nat) (p1 : THead) (r : Bool) (h : g_tarnref16_Head fuel p1 = some r) (w0 : World) :
 Ret Tryz.prog 27 #[THead.val p1] w0 (fun v w' => v = vb r ∧ St no w0 w' []) := by
 unfold g_tarnref16_Head at h
 refine ret_of_wpS Tryz.func27 rfl 11 rfl [(0,THead.val p1)] (by kernel_rfl) (fun G=>?_)
 have H0:=St.start w0
 refine zsg ?_
 refine zo (obx H0 (THead.cs p1).toArray 26 (fun b2 w4 H5=>?_))
 refine zn ?_
 refine zrd 1 2 [(2,vb false)] ?_
 refine zs ?_
 obtain ⟨K8,hK8,h⟩:=js h
 refine WP.onlyN (fun a w=>∃ (c6 : Bool),Y 11 [(2,vb c6)] [] no w0 [Box b2 (THead.cs p1).toArray 26] (K8 c6 = some r) a w) ?_ ?_
 ·refine zg ?_
  refine zr 1 1 [(3,vp b2 0)] ?_
  refine zv (vi p1.Number) (llb H5 0 0) ?_
  obtain ⟨t9,ht9,h⟩:=bs h
  refine zo (oca (g_tarnref0_Num_w fuel p1.Number 1099511627776 t9 ht9 _) ?_)
  rintro _ w10 ⟨rfl,Hc11⟩
  have H12:=St.call0' H5 Hc11
  clear H5 Hc11
  refine zn ?_
  refine zr 1 4 [(6,vb t9)] ?_
  cases t9
  ·replace h:=bf h
   refine zr 5 9 [(2,vb false),(10,vb false),(9,Z),(8,Z),(7,Z)] ?_
   refine zd ?_
   exact ⟨false,yy H12 [0] h⟩
  replace h:=bt h
  refine zr 1 5 [(7,vp b2 5)] ?_
  refine zv (vi p1.Excess) (llb H12 0 5) ?_
  obtain ⟨t13,ht13,h⟩:=bs h
  refine zo (oca (g_tarnref0_Num_w fuel p1.Excess 1099511627776 t13 ht13 _) ?_)
  rintro _ w14 ⟨rfl,Hc15⟩
  have H16:=St.call0' H12 Hc15
  clear H12 Hc15
  refine zn ?_
  refine zr 2 9 [(2,vb t13),(10,vb t13)] ?_
  refine zd ?_
  exact ⟨t13,yy H16 [0] h⟩
 rintro a w17 ⟨c6,G7,rfl,H18,h⟩
 subst hK8
 refine then_n ?_
 refine WP.ret ?_
 obtain rfl:=oi h
 exact post_r (vb c6) rfl (by kernel_rfl) ⟨rfl,sl H18 []⟩
/- tarn/tarnref16.Accts -/
def g_tarnref16_Accts_l1 (l2 : List TAcct) (fuel : Nat) (K4 : Option Bool) : Nat → Int → Option Bool
  | 0, _ => none
  | n + 1, x5 => lt (decide (x5 < (((List.length l2 : Nat) : Int)))) fun c9 => br c9 (gd ((0 : Int) ≤ x5 ∧ x5 < ((List.length l2 : Nat) : Int)) <| bd (l2[Int.toNat x5]?) fun x11 => bd (g_tarnref0_Num fuel x11.Nonce 1099511627776) fun t12 => lt (!t12) fun c16 => br c16 (some false) (lt (wr .i64 (x5 + 1)) fun x17 => g_tarnref16_Accts_l1 l2 fuel K4 n x17)) (K4)
def g_tarnref16_Accts (fuel : Nat) (l2 : List TAcct) : Option Bool :=
  jn (lt ((((List.length l2 : Nat) : Int)) == 8) fun c20 => some c20) fun K4 => g_tarnref16_Accts_l1 l2 fuel K4 fuel 0
theorem g_tarnref16_Accts_w (fuel : Nat) (s1 : Value) (l2 : List TAcct) (r : Bool) (h : g_tarnref16_Accts fuel l2 = some r) (w0 : World) (hs1 : Rd fTAcct (hp no w0) s1 l2) :
 Ret Tryz.prog 28 #[s1] w0 (fun v w' => v = vb r ∧ St no w0 w' []) := by
 unfold g_tarnref16_Accts at h
 refine ret_of_wpS Tryz.func28 rfl 20 rfl [(0,s1)] (by kernel_rfl) (fun G=>?_)
 have H0:=St.start w0
 refine zsg ?_
 refine zrd 1 1 [(2,vb false)] ?_
 refine zs ?_
 refine zsg ?_
 refine zrd 1 1 [(3,vi 0)] ?_
 obtain ⟨K4,hK4,h⟩:=js h
 refine WP.blockJ (fun a w=>Y 20 [(0,s1)] [] no w0 [] (K4 = some r) a w) ?_ ?_
 ·refine WP.loop (fun n a w=>∃ (x5 : Int),Y 20 [(0,s1),(3,vi x5)] [] no w0 [] (g_tarnref16_Accts_l1 l2 fuel K4 n x5 = some r) a w) fuel ⟨0,yy H0 [] h⟩ ?_
  rintro n a w7 ⟨x5,G6,rfl,H8,h⟩
  obtain _ | n:=n
  ·rw [g_tarnref16_Accts_l1] at h; cases h
  rw [g_tarnref16_Accts_l1] at h
  refine zs ?_
  refine zsg ?_
  refine zr 2 2 [(5,s1),(4,vi x5)] ?_
  refine zv (vi (((List.length l2 : Nat) : Int))) (lln (Rd.sl hs1) 71 5 40) ?_
  obtain ⟨c9,e,h⟩:=ls h
  refine zed 1 4 [(7,vb c9)] ?_
  cases c9
  ·replace h:=bf h
   refine zF ?_
   refine WP.exit ?_
   exact then_e (then_e (inb_e (then_n (yy H8 [] h))))
  replace h:=bt h
  refine zTn ?_
  refine zs ?_
  refine WP.block ?_
  refine zsg ?_
  obtain ⟨hg10,h⟩:=gs h
  refine zr 2 2 [(11,vi x5),(10,s1)] ?_
  refine zv (va (slAt s1 5 (Int.toNat x5))) (lli (Rd.sl hs1) 71 5 40 .i64 x5 hg10) ?_
  obtain ⟨x11,hx11,h⟩:=bs h
  refine zr 1 4 [(13,va (slAt s1 5 (Int.toNat x5)))] ?_
  refine zv (vi x11.Nonce) (lle fTAcct hs1 (St.hp_le H8) hx11 0) ?_
  obtain ⟨t12,ht12,h⟩:=bs h
  refine zo (oca (g_tarnref0_Num_w fuel x11.Nonce 1099511627776 t12 ht12 _) ?_)
  rintro _ w13 ⟨rfl,Hc14⟩
  have H15:=St.call0' H8 Hc14
  clear H8 Hc14
  obtain ⟨c16,e,h⟩:=ls h
  refine zn ?_
  refine zed 1 7 [(16,vb c16)] ?_
  cases c16
  rotate_left
  ·replace h:=bt h
   refine zT ?_
   refine zsg ?_
   refine zrd 1 1 [(2,vb false)] ?_
   refine WP.ret ?_
   obtain rfl:=oi h
   exact inb_r (then_r (then_r (inb_r (then_r (then_r (post_r (vb false) rfl (by kernel_rfl) ⟨rfl,sl H15 []⟩))))))
  replace h:=bf h
  refine zF ?_
  refine WP.skip ?_
  refine inb_n (then_n ?_)
  refine zg ?_
  obtain ⟨x17,e,h⟩:=ls h
  refine ze 3 3 [(3,vi x17),(9,vi x17),(8,vi x5)] ?_
  refine zd ?_
  exact then_n ⟨n,lS n,x17,yy H15 [] h⟩
 rintro a w18 ⟨G3,rfl,H19,h⟩
 subst hK4
 refine then_n ?_
 refine zsg ?_
 refine zr 1 1 [(17,s1)] ?_
 refine zv (vi (((List.length l2 : Nat) : Int))) (lln (Rd.sl hs1) 71 5 40) ?_
 obtain ⟨c20,e,h⟩:=ls h
 refine zed 2 4 [(2,vb c20),(19,vb c20)] ?_
 refine WP.ret ?_
 obtain rfl:=oi h
 exact post_r (vb c20) rfl (by kernel_rfl) ⟨rfl,sl H19 []⟩
/- tarn/tarnref1.Cmp -/
def g_tarnref1_Cmp_l1 (p1 : TU256) (p2 : TU256) (K12 : Option Int) (fuel : Nat) : Nat → Int → Option Int
  | 0, _ => none
  | n + 1, x13 => lt (decide (x13 ≥ 0)) fun c17 => br c17 (gd ((0 : Int) ≤ x13 ∧ x13 < 4) <| bd (([p1.e0, p1.e1, p1.e2, p1.e3] : List Int)[Int.toNat x13]?) fun x19 => gd ((0 : Int) ≤ x13 ∧ x13 < 4) <| bd (([p2.e0, p2.e1, p2.e2, p2.e3] : List Int)[Int.toNat x13]?) fun x21 => lt (decide (x19 < x21)) fun c22 => br c22 (some ((-1))) (gd ((0 : Int) ≤ x13 ∧ x13 < 4) <| bd (([p1.e0, p1.e1, p1.e2, p1.e3] : List Int)[Int.toNat x13]?) fun x26 => gd ((0 : Int) ≤ x13 ∧ x13 < 4) <| bd (([p2.e0, p2.e1, p2.e2, p2.e3] : List Int)[Int.toNat x13]?) fun x28 => lt (decide (x26 > x28)) fun c29 => br c29 (some 1) (lt (wr .i64 (x13 - 1)) fun x32 => g_tarnref1_Cmp_l1 p1 p2 K12 fuel n x32))) (K12)
def g_tarnref1_Cmp (fuel : Nat) (p1 : TU256) (p2 : TU256) : Option Int :=
  jn (some 0) fun K12 => g_tarnref1_Cmp_l1 p1 p2 K12 fuel fuel 3
theorem g_tarnref1_Cmp_w (fuel : Nat) (p1 : TU256) (p2 : TU256) (r : Int) (h : g_tarnref1_Cmp fuel p1 p2 = some r) (w0 : World) :
 Ret Tryz.prog 64 #[TU256.val p1, TU256.val p2] w0 (fun v w' => v = vi r ∧ St no w0 w' []) := by
 unfold g_tarnref1_Cmp at h
 refine ret_of_wpS Tryz.func64 rfl 24 rfl [(0,TU256.val p1),(1,TU256.val p2)] (by kernel_rfl) (fun G=>?_)
 have H0:=St.start w0
 refine zsg ?_
 refine zo (obx H0 (TU256.cs p1).toArray 24 (fun b3 w5 H6=>?_))
 refine zn ?_
 refine zo (obx H6 (TU256.cs p2).toArray 24 (fun b7 w9 H10=>?_))
 clear H6
 refine zn ?_
 refine zrd 1 3 [(4,vi 0)] ?_
 refine zs ?_
 refine zsg ?_
 refine zrd 1 1 [(5,vi 3)] ?_
 obtain ⟨K12,hK12,h⟩:=js h
 refine WP.blockJ (fun a w=>Y 24 [] [] no w0 [Box b7 (TU256.cs p2).toArray 24,Box b3 (TU256.cs p1).toArray 24] (K12 = some r) a w) ?_ ?_
 ·refine WP.loop (fun n a w=>∃ (x13 : Int),Y 24 [(2,vp b3 0),(3,vp b7 0),(5,vi x13)] [] no w0 [Box b7 (TU256.cs p2).toArray 24,Box b3 (TU256.cs p1).toArray 24] (g_tarnref1_Cmp_l1 p1 p2 K12 fuel n x13 = some r) a w) fuel ⟨3,yy H10 [0,1] h⟩ ?_
  rintro n a w15 ⟨x13,G14,rfl,H16,h⟩
  obtain _ | n:=n
  ·rw [g_tarnref1_Cmp_l1] at h; cases h
  rw [g_tarnref1_Cmp_l1] at h
  refine zs ?_
  refine zsg ?_
  obtain ⟨c17,e,h⟩:=ls h
  refine zed 2 2 [(7,vb c17),(6,vi x13)] ?_
  cases c17
  ·replace h:=bf h
   refine zF ?_
   refine WP.exit ?_
   exact then_e (then_e (inb_e (then_n (yy H16 [0,1] h))))
  replace h:=bt h
  refine zTn ?_
  refine zs ?_
  refine WP.block ?_
  refine zs ?_
  refine zs ?_
  refine WP.quiet (by kernel_rfl) (by kernel_rfl) (by kernel_rfl) (fun w=>St no w0 w [Box b7 (TU256.cs p2).toArray 24,Box b3 (TU256.cs p1).toArray 24]) (St.drew H16) ?_
  obtain ⟨hg18,h⟩:=gs h
  refine qr 1 1 [(10,vi x13)] ?_
  refine qv (va (((⟨b3,0,none⟩ : Addr).add 0).add (Int.toNat x13 * 1))) (fun w H=>lla ((⟨b3,0,none⟩ : Addr).add 0) 4 22 1 .i64 x13 hg18) ?_
  obtain ⟨x19,hx19,h⟩:=bs h
  refine qv (vu x19) (fun w H=>lld 0 (CellsAt.elem fU64 (St.boxAt H 1 rfl) 0 [p1.e0,p1.e1,p1.e2,p1.e3] [] (by kernel_rfl) _ _ hx19) (le_self _)) ?_
  obtain ⟨hg20,h⟩:=gs h
  refine qr 1 4 [(13,vi x13)] ?_
  refine qv (va (((⟨b7,0,none⟩ : Addr).add 0).add (Int.toNat x13 * 1))) (fun w H=>lla ((⟨b7,0,none⟩ : Addr).add 0) 4 22 1 .i64 x13 hg20) ?_
  obtain ⟨x21,hx21,h⟩:=bs h
  refine qv (vu x21) (fun w H=>lld 0 (CellsAt.elem fU64 (St.boxAt H 0 rfl) 0 [p2.e0,p2.e1,p2.e2,p2.e3] [] (by kernel_rfl) _ _ hx21) (le_self _)) ?_
  obtain ⟨c22,e,h⟩:=ls h
  refine qe 1 7 [(16,vb c22)] ?_
  refine qd fun w23 H24=>?_
  refine then_n ?_
  cases c22
  rotate_left
  ·replace h:=bt h
   refine zT ?_
   refine zsg ?_
   refine zrd 1 1 [(4,vi ((-1)))] ?_
   refine WP.ret ?_
   obtain rfl:=oi h
   exact then_r (inb_r (then_r (then_r (inb_r (then_r (then_r (post_r (vi ((-1))) rfl (by kernel_rfl) ⟨rfl,sl H24 []⟩)))))))
  replace h:=bf h
  refine zFn ?_
  refine zs ?_
  refine WP.quiet (by kernel_rfl) (by kernel_rfl) (by kernel_rfl) (fun w=>St no w0 w [Box b7 (TU256.cs p2).toArray 24,Box b3 (TU256.cs p1).toArray 24]) (St.drew H24) ?_
  obtain ⟨hg25,h⟩:=gs h
  refine qr 1 1 [(17,vi x13)] ?_
  refine qv (va (((⟨b3,0,none⟩ : Addr).add 0).add (Int.toNat x13 * 1))) (fun w H=>lla ((⟨b3,0,none⟩ : Addr).add 0) 4 22 1 .i64 x13 hg25) ?_
  obtain ⟨x26,hx26,h⟩:=bs h
  refine qv (vu x26) (fun w H=>lld 0 (CellsAt.elem fU64 (St.boxAt H 1 rfl) 0 [p1.e0,p1.e1,p1.e2,p1.e3] [] (by kernel_rfl) _ _ hx26) (le_self _)) ?_
  obtain ⟨hg27,h⟩:=gs h
  refine qr 1 4 [(20,vi x13)] ?_
  refine qv (va (((⟨b7,0,none⟩ : Addr).add 0).add (Int.toNat x13 * 1))) (fun w H=>lla ((⟨b7,0,none⟩ : Addr).add 0) 4 22 1 .i64 x13 hg27) ?_
  obtain ⟨x28,hx28,h⟩:=bs h
  refine qv (vu x28) (fun w H=>lld 0 (CellsAt.elem fU64 (St.boxAt H 0 rfl) 0 [p2.e0,p2.e1,p2.e2,p2.e3] [] (by kernel_rfl) _ _ hx28) (le_self _)) ?_
  obtain ⟨c29,e,h⟩:=ls h
  refine qe 1 7 [(23,vb c29)] ?_
  refine qd fun w30 H31=>?_
  refine then_n ?_
  cases c29
  rotate_left
  ·replace h:=bt h
   refine zT ?_
   refine zsg ?_
   refine zrd 1 1 [(4,vi 1)] ?_
   refine WP.ret ?_
   obtain rfl:=oi h
   exact inb_r (then_r (then_r (inb_r (then_r (then_r (post_r (vi 1) rfl (by kernel_rfl) ⟨rfl,sl H31 []⟩))))))
  replace h:=bf h
  refine zF ?_
  refine WP.skip ?_
  refine inb_n (then_n ?_)
  refine zg ?_
  obtain ⟨x32,e,h⟩:=ls h
  refine ze 3 3 [(5,vi x32),(9,vi x32),(8,vi x13)] ?_
  refine zd ?_
  exact then_n ⟨n,lS n,x32,yy H31 [0,1] h⟩
 rintro a w33 ⟨G11,rfl,H34,h⟩
 subst hK12
 refine then_n ?_
 refine zsg ?_
 refine zrd 1 1 [(4,vi 0)] ?_
 refine WP.ret ?_
 obtain rfl:=oi h
 exact post_r (vi 0) rfl (by kernel_rfl) ⟨rfl,sl H34 []⟩
/- tarn/tarnref4.Mark -/
def g_tarnref4_Mark_l1 (p1 : ByteArray) (K4 : Int → Option Int) (fuel : Nat) : Nat → Int → Int → Option Int
  | 0, _, _ => none
  | n + 1, x5, x6 => lt (decide (x6 < ((slen p1)))) fun c10 => br c10 (gd ((0 : Int) ≤ x6 ∧ x6 < slen p1) <| lt (sget p1 x6) fun x12 => lt (wr .u64 x12) fun x13 => lt (ibXor .u64 x5 x13) fun x14 => lt (wr .u64 (x14 * 1099511628211)) fun x15 => lt (wr .i64 (x6 + 1)) fun x16 => g_tarnref4_Mark_l1 p1 K4 fuel n x15 x16) (K4 x5)
def g_tarnref4_Mark (fuel : Nat) (p1 : ByteArray) : Option Int :=
  jn (fun (x2 : Int) => some x2) fun K4 => g_tarnref4_Mark_l1 p1 K4 fuel fuel 14695981039346656037 0
theorem g_tarnref4_Mark_w (fuel : Nat) (p1 : ByteArray) (r : Int) (h : g_tarnref4_Mark fuel p1 = some r) (w0 : World) :
 Ret Tryz.prog 65 #[.string p1] w0 (fun v w' => v = vu r ∧ St no w0 w' []) := by
 unfold g_tarnref4_Mark at h
 refine ret_of_wpS Tryz.func65 rfl 19 rfl [(0,.string p1)] (by kernel_rfl) (fun G=>?_)
 have H0:=St.start w0
 refine zsg ?_
 refine zrd 1 1 [(2,vu 0)] ?_
 refine zsg ?_
 refine zrd 1 1 [(3,vu 14695981039346656037)] ?_
 refine zs ?_
 refine zsg ?_
 refine zrd 1 1 [(4,vi 0)] ?_
 obtain ⟨K4,hK4,h⟩:=js h
 refine WP.blockJ (fun a w=>∃ (x2 : Int),Y 19 [(3,vu x2)] [] no w0 [] (K4 x2 = some r) a w) ?_ ?_
 ·refine WP.loop (fun n a w=>∃ (x5 : Int) (x6 : Int),Y 19 [(0,.string p1),(3,vu x5),(4,vi x6)] [] no w0 [] (g_tarnref4_Mark_l1 p1 K4 fuel n x5 x6 = some r) a w) fuel ⟨14695981039346656037,0,yy H0 [] h⟩ ?_
  rintro n a w8 ⟨x5,x6,G7,rfl,H9,h⟩
  obtain _ | n:=n
  ·rw [g_tarnref4_Mark_l1] at h; cases h
  rw [g_tarnref4_Mark_l1] at h
  refine zs ?_
  refine zsg ?_
  refine zr 2 2 [(6,.string p1),(5,vi x6)] ?_
  refine WPI.valueS (vi ((slen p1))) 7 rfl rfl (by kernel_rfl) (ev_slen p1 9 (.tmp 6) rfl (by kernel_rfl) (by kernel_rfl)) ?_
  obtain ⟨c10,e,h⟩:=ls h
  refine zed 1 4 [(8,vb c10)] ?_
  cases c10
  ·replace h:=bf h
   refine zF ?_
   refine WP.exit ?_
   exact then_e (then_e (inb_e (then_n ⟨x5,yy H9 [] h⟩)))
  replace h:=bt h
  refine zTn ?_
  refine zs ?_
  refine WP.block ?_
  refine zg ?_
  obtain ⟨hg11,h⟩:=gs h
  obtain ⟨x12,hx12,h⟩:=ls h
  refine zr 3 3 [(13,vi x6),(12,.string p1),(11,vu x5)] ?_
  refine WPI.valueS (.int .u8 x12) 14 rfl rfl (by kernel_rfl) (Eq.trans (ev_sidx p1 .i64 x6 9 (.tmp 12) (.tmp 13) rfl (by kernel_rfl) (by kernel_rfl) (by kernel_rfl) hg11) (by rw [← hx12])) ?_
  obtain ⟨x13,hx13,h⟩:=ls h
  obtain ⟨x14,hx14,h⟩:=ls h
  obtain ⟨x15,hx15,h⟩:=ls h
  refine zr 4 8 [(3,vu x15),(17,vu x15),(16,vu x14),(15,vu x13)] ?_ rfl (fun K=>by subst hx15 hx14 hx13; kernel_rfl)
  refine zd ?_
  refine inb_n (then_n ?_)
  refine zg ?_
  obtain ⟨x16,e,h⟩:=ls h
  refine ze 3 3 [(4,vi x16),(10,vi x16),(9,vi x6)] ?_
  refine zd ?_
  exact then_n ⟨n,lS n,x15,x16,yy H9 [] h⟩
 rintro a w17 ⟨x2,G3,rfl,H18,h⟩
 subst hK4
 refine then_n ?_
 refine zsg ?_
 refine zrd 2 2 [(2,vu x2),(18,vu x2)] ?_
 refine WP.ret ?_
 obtain rfl:=oi h
 exact post_r (vu x2) rfl (by kernel_rfl) ⟨rfl,sl H18 []⟩
/- tarn/tarnref4.Hash -/
def g_tarnref4_Hash (fuel : Nat) (p1 : ByteArray) : Option Int :=
  gd (slen ((ByteArray.mk #[98, 108, 111, 98])) + slen p1 ≤ 9223372036854775807) <| lt (((ByteArray.mk #[98, 108, 111, 98])) ++ p1) fun t3 => bd (g_tarnref4_Mark fuel t3) fun t4 => some t4
theorem g_tarnref4_Hash_w (fuel : Nat) (p1 : ByteArray) (r : Int) (h : g_tarnref4_Hash fuel p1 = some r) (w0 : World) :
 Ret Tryz.prog 109 #[.string p1] w0 (fun v w' => v = vu r ∧ St no w0 w' []) := by
 unfold g_tarnref4_Hash at h
 refine ret_of_wpS Tryz.func109 rfl 6 rfl [(0,.string p1)] (by kernel_rfl) (fun G=>?_)
 have H0:=St.start w0
 refine zsg ?_
 refine zrd 1 1 [(2,vu 0)] ?_
 refine zsg ?_
 obtain ⟨hg2,h⟩:=gs h
 obtain ⟨t3,ht3,h⟩:=ls h
 refine zr 1 1 [(3,.string p1)] ?_
 refine WPI.valueS (.string t3) 4 rfl rfl (by kernel_rfl) (Eq.trans (ev_cat ((ByteArray.mk #[98,108,111,98])) p1 9 9 (.const (.string ((ByteArray.mk #[98,108,111,98])))) (.tmp 3) rfl (by kernel_rfl) (by kernel_rfl) hg2) (by rw [← ht3])) ?_
 obtain ⟨t4,ht4,h⟩:=bs h
 refine zo (oca (g_tarnref4_Mark_w fuel t3 t4 ht4 _) ?_)
 rintro _ w5 ⟨rfl,Hc6⟩
 have H7:=St.call0' H0 Hc6
 clear Hc6
 refine zn ?_
 refine zrd 1 4 [(2,vu t4)] ?_
 refine WP.ret ?_
 obtain rfl:=oi h
 exact post_r (vu t4) rfl (by kernel_rfl) ⟨rfl,sl H7 []⟩
/- tarn/tarnref4.Fits -/
def g_tarnref4_Fits_l1 (l4 : List ByteArray) (K14 : Option Int) (fuel : Nat) : Nat → Int → Option Int
  | 0, _ => none
  | n + 1, x15 => lt (decide (x15 < (((List.length l4 : Nat) : Int)))) fun c19 => br c19 (gd ((0 : Int) ≤ x15 ∧ x15 < ((List.length l4 : Nat) : Int)) <| bd (l4[Int.toNat x15]?) fun x21 => lt (decide (((slen x21)) > 64)) fun c22 => br c22 (some 2) (lt (wr .i64 (x15 + 1)) fun x23 => g_tarnref4_Fits_l1 l4 K14 fuel n x23)) (K14)
def g_tarnref4_Fits_l2 (l4 : List ByteArray) (l2 : List Int) (fuel : Nat) (K27 : Option Int) : Nat → Int → Option Int
  | 0, _ => none
  | n + 1, x28 => lt (decide (x28 < (((List.length l4 : Nat) : Int)))) fun c32 => br c32 (gd ((0 : Int) ≤ x28 ∧ x28 < ((List.length l2 : Nat) : Int)) <| bd (l2[Int.toNat x28]?) fun x34 => gd ((0 : Int) ≤ x28 ∧ x28 < ((List.length l4 : Nat) : Int)) <| bd (l4[Int.toNat x28]?) fun x36 => bd (g_tarnref4_Hash fuel x36) fun t37 => lt (x34 != t37) fun c38 => br c38 (some 1) (lt (wr .i64 (x28 + 1)) fun x41 => g_tarnref4_Fits_l2 l4 l2 fuel K27 n x41)) (K27)
def g_tarnref4_Fits (fuel : Nat) (l2 : List Int) (l4 : List ByteArray) : Option Int :=
  jn (fun (c5 : Bool) => br c5 (some 1) (jn (jn (some 0) fun K27 => g_tarnref4_Fits_l2 l4 l2 fuel K27 fuel 0) fun K14 => g_tarnref4_Fits_l1 l4 K14 fuel fuel 0)) fun K7 => lt (decide ((((List.length l4 : Nat) : Int)) < 1)) fun c8 => br c8 (K7 true) (lt (decide ((((List.length l4 : Nat) : Int)) > 4)) fun c9 => br c9 (K7 true) (lt ((((List.length l2 : Nat) : Int)) != (((List.length l4 : Nat) : Int))) fun c10 => K7 c10))
theorem g_tarnref4_Fits_w (fuel : Nat) (s1 : Value) (l2 : List Int) (s3 : Value) (l4 : List ByteArray) (r : Int) (h : g_tarnref4_Fits fuel l2 l4 = some r) (w0 : World) (hs1 : Rd fU64 (hp no w0) s1 l2) (hs3 : Rd fStr (hp no w0) s3 l4) :
 Ret Tryz.prog 81 #[s1, s3] w0 (fun v w' => v = vi r ∧ St no w0 w' []) := by
 unfold g_tarnref4_Fits at h
 refine ret_of_wpS Tryz.func81 rfl 50 rfl [(0,s1),(1,s3)] (by kernel_rfl) (fun G=>?_)
 have H0:=St.start w0
 refine zsg ?_
 refine zrd 1 1 [(4,vi 0)] ?_
 refine zs ?_
 refine zs ?_
 obtain ⟨K7,hK7,h⟩:=js h
 refine WP.onlyN (fun a w=>∃ (c5 : Bool),Y 50 [(0,s1),(1,s3),(21,vb c5)] [] no w0 [] (K7 c5 = some r) a w) ?_ ?_
 ·refine zg ?_
  refine zr 1 1 [(7,s3)] ?_
  refine zv (vi (((List.length l4 : Nat) : Int))) (lln (Rd.sl hs3) 9 1 16) ?_
  obtain ⟨c8,e,h⟩:=ls h
  refine ze 2 4 [(10,vb c8),(9,vb c8)] ?_
  cases c8
  rotate_left
  ·replace h:=bt h
   refine zr 11 15 [(21,vb true),(20,Z),(19,Z),(18,Z),(17,Z),(16,Z),(15,vb true),(14,vb true),(13,Z),(12,Z),(11,Z)] ?_
   refine zd ?_
   exact ⟨true,yy H0 [] h⟩
  replace h:=bf h
  refine zr 1 5 [(11,s3)] ?_
  refine zv (vi (((List.length l4 : Nat) : Int))) (lln (Rd.sl hs3) 9 1 16) ?_
  obtain ⟨c9,e,h⟩:=ls h
  refine ze 3 9 [(15,vb c9),(14,vb c9),(13,vb c9)] ?_
  cases c9
  rotate_left
  ·replace h:=bt h
   refine zr 6 15 [(21,vb true),(20,Z),(19,Z),(18,Z),(17,Z),(16,Z)] ?_
   refine zd ?_
   exact ⟨true,yy H0 [] h⟩
  replace h:=bf h
  refine zr 1 10 [(16,s1)] ?_
  refine zv (vi (((List.length l2 : Nat) : Int))) (lln (Rd.sl hs1) 22 1 8) ?_
  refine zr 1 12 [(18,s3)] ?_
  refine zv (vi (((List.length l4 : Nat) : Int))) (lln (Rd.sl hs3) 9 1 16) ?_
  obtain ⟨c10,e,h⟩:=ls h
  refine ze 2 15 [(21,vb c10),(20,vb c10)] ?_
  refine zd ?_
  exact ⟨c10,yy H0 [] h⟩
 rintro a w11 ⟨c5,G6,rfl,H12,h⟩
 subst hK7
 refine then_n ?_
 cases c5
 rotate_left
 ·replace h:=bt h
  refine zT ?_
  refine zsg ?_
  refine zrd 1 1 [(4,vi 1)] ?_
  refine WP.ret ?_
  obtain rfl:=oi h
  exact then_r (post_r (vi 1) rfl (by kernel_rfl) ⟨rfl,sl H12 []⟩)
 replace h:=bf h
 refine zFn ?_
 refine zs ?_
 refine zsg ?_
 refine zrd 1 1 [(5,vi 0)] ?_
 obtain ⟨K14,hK14,h⟩:=js h
 refine WP.blockJ (fun a w=>Y 50 [(0,s1),(1,s3)] [] no w0 [] (K14 = some r) a w) ?_ ?_
 ·refine WP.loop (fun n a w=>∃ (x15 : Int),Y 50 [(0,s1),(1,s3),(5,vi x15)] [] no w0 [] (g_tarnref4_Fits_l1 l4 K14 fuel n x15 = some r) a w) fuel ⟨0,yy H12 [] h⟩ ?_
  rintro n a w17 ⟨x15,G16,rfl,H18,h⟩
  obtain _ | n:=n
  ·rw [g_tarnref4_Fits_l1] at h; cases h
  rw [g_tarnref4_Fits_l1] at h
  refine zs ?_
  refine zsg ?_
  refine zr 2 2 [(23,s3),(22,vi x15)] ?_
  refine zv (vi (((List.length l4 : Nat) : Int))) (lln (Rd.sl hs3) 9 1 16) ?_
  obtain ⟨c19,e,h⟩:=ls h
  refine zed 1 4 [(25,vb c19)] ?_
  cases c19
  ·replace h:=bf h
   refine zF ?_
   refine WP.exit ?_
   exact then_e (then_e (inb_e (then_n (yy H18 [] h))))
  replace h:=bt h
  refine zTn ?_
  refine zs ?_
  refine WP.block ?_
  refine zsg ?_
  obtain ⟨hg20,h⟩:=gs h
  refine zr 2 2 [(29,vi x15),(28,s3)] ?_
  refine zv (va (slAt s3 1 (Int.toNat x15))) (lli (Rd.sl hs3) 9 1 16 .i64 x15 hg20) ?_
  obtain ⟨x21,hx21,h⟩:=bs h
  refine zv (.string x21) (lle fStr hs3 (St.hp_le H18) hx21 0) ?_
  refine WPI.valueS (vi ((slen x21))) 32 rfl rfl (by kernel_rfl) (ev_slen x21 9 (.tmp 31) rfl (by kernel_rfl) (by kernel_rfl)) ?_
  obtain ⟨c22,e,h⟩:=ls h
  refine zed 1 6 [(33,vb c22)] ?_
  cases c22
  rotate_left
  ·replace h:=bt h
   refine zT ?_
   refine zsg ?_
   refine zrd 1 1 [(4,vi 2)] ?_
   refine WP.ret ?_
   obtain rfl:=oi h
   exact inb_r (then_r (then_r (inb_r (then_r (then_r (post_r (vi 2) rfl (by kernel_rfl) ⟨rfl,sl H18 []⟩))))))
  replace h:=bf h
  refine zF ?_
  refine WP.skip ?_
  refine inb_n (then_n ?_)
  refine zg ?_
  obtain ⟨x23,e,h⟩:=ls h
  refine ze 3 3 [(5,vi x23),(27,vi x23),(26,vi x15)] ?_
  refine zd ?_
  exact then_n ⟨n,lS n,x23,yy H18 [] h⟩
 rintro a w24 ⟨G13,rfl,H25,h⟩
 subst hK14
 refine then_n ?_
 refine zs ?_
 refine zsg ?_
 refine zrd 1 1 [(6,vi 0)] ?_
 obtain ⟨K27,hK27,h⟩:=js h
 refine WP.blockJ (fun a w=>Y 50 [] [] no w0 [] (K27 = some r) a w) ?_ ?_
 ·refine WP.loop (fun n a w=>∃ (x28 : Int),Y 50 [(0,s1),(1,s3),(6,vi x28)] [] no w0 [] (g_tarnref4_Fits_l2 l4 l2 fuel K27 n x28 = some r) a w) fuel ⟨0,yy H25 [] h⟩ ?_
  rintro n a w30 ⟨x28,G29,rfl,H31,h⟩
  obtain _ | n:=n
  ·rw [g_tarnref4_Fits_l2] at h; cases h
  rw [g_tarnref4_Fits_l2] at h
  refine zs ?_
  refine zsg ?_
  refine zr 2 2 [(35,s3),(34,vi x28)] ?_
  refine zv (vi (((List.length l4 : Nat) : Int))) (lln (Rd.sl hs3) 9 1 16) ?_
  obtain ⟨c32,e,h⟩:=ls h
  refine zed 1 4 [(37,vb c32)] ?_
  cases c32
  ·replace h:=bf h
   refine zF ?_
   refine WP.exit ?_
   exact then_e (then_e (inb_e (then_n (yy H31 [] h))))
  replace h:=bt h
  refine zTn ?_
  refine zs ?_
  refine WP.block ?_
  refine zs ?_
  refine WP.quiet (by kernel_rfl) (by kernel_rfl) (by kernel_rfl) (fun w=>St no w0 w []) (St.drew H31) ?_
  obtain ⟨hg33,h⟩:=gs h
  refine qr 2 2 [(41,vi x28),(40,s1)] ?_
  refine qv (va (slAt s1 1 (Int.toNat x28))) (fun w H=>lli (Rd.sl hs1) 22 1 8 .i64 x28 hg33) ?_
  obtain ⟨x34,hx34,h⟩:=bs h
  refine qv (vu x34) (fun w H=>lle fU64 hs1 (St.hp_le H) hx34 0) ?_
  obtain ⟨hg35,h⟩:=gs h
  refine qr 2 6 [(45,vi x28),(44,s3)] ?_
  refine qv (va (slAt s3 1 (Int.toNat x28))) (fun w H=>lli (Rd.sl hs3) 9 1 16 .i64 x28 hg35) ?_
  obtain ⟨x36,hx36,h⟩:=bs h
  refine qv (.string x36) (fun w H=>lle fStr hs3 (St.hp_le H) hx36 0) ?_
  obtain ⟨t37,ht37,h⟩:=bs h
  refine qc (vu t37) (fun w H=>Ret.mono (g_tarnref4_Hash_w fuel x36 t37 ht37 _) fun u w1 hu=>⟨hu.1,St.call0' H hu.2⟩) ?_
  obtain ⟨c38,e,h⟩:=ls h
  refine qe 1 10 [(49,vb c38)] ?_
  refine qd fun w39 H40=>?_
  refine then_n ?_
  cases c38
  rotate_left
  ·replace h:=bt h
   refine zT ?_
   refine zsg ?_
   refine zrd 1 1 [(4,vi 1)] ?_
   refine WP.ret ?_
   obtain rfl:=oi h
   exact inb_r (then_r (then_r (inb_r (then_r (then_r (post_r (vi 1) rfl (by kernel_rfl) ⟨rfl,sl H40 []⟩))))))
  replace h:=bf h
  refine zF ?_
  refine WP.skip ?_
  refine inb_n (then_n ?_)
  refine zg ?_
  obtain ⟨x41,e,h⟩:=ls h
  refine ze 3 3 [(6,vi x41),(39,vi x41),(38,vi x28)] ?_
  refine zd ?_
  exact then_n ⟨n,lS n,x41,yy H40 [] h⟩
 rintro a w42 ⟨G26,rfl,H43,h⟩
 subst hK27
 refine then_n ?_
 refine zsg ?_
 refine zrd 1 1 [(4,vi 0)] ?_
 refine WP.ret ?_
 obtain rfl:=oi h
 exact post_r (vi 0) rfl (by kernel_rfl) ⟨rfl,sl H43 []⟩
/- tarn/tarnref1.Of -/
def g_tarnref1_Of (fuel : Nat) (p1 : Int) : Option TU256 :=
  lt (wr .u64 p1) fun x6 => some (TU256.mk x6 0 0 0)
theorem g_tarnref1_Of_w (fuel : Nat) (p1 : Int) (r : TU256) (h : g_tarnref1_Of fuel p1 = some r) (w0 : World) :
 Ret Tryz.prog 68 #[vi p1] w0 (fun v w' => v = TU256.val r ∧ St no w0 w' []) := by
 unfold g_tarnref1_Of at h
 refine ret_of_wpS Tryz.func68 rfl 6 rfl [(0,vi p1)] (by kernel_rfl) (fun G=>?_)
 have H0:=St.start w0
 refine zsg ?_
 refine zo (oal H0 #[vu 0,vu 0,vu 0,vu 0] 24 (fun b2 w4 H5=>?_))
 refine zn ?_
 refine zdn ?_
 refine zsg ?_
 obtain ⟨x6,e,h⟩:=ls h
 refine ze 3 3 [(5,.agg #[vu x6,vu 0,vu 0,vu 0]),(4,vu x6),(3,vi p1)] ?_
 refine zo (osb H5 0 0 (.agg #[vu x6,vu 0,vu 0,vu 0]) #[vu x6,vu 0,vu 0,vu 0] true (flat_one1 fTU256 (TU256.mk x6 0 0 0)) (fun w7 H8=>?_))
 clear H5
 refine z0 ?_
 refine zdn ?_
 refine WP.ret ?_
 obtain rfl:=oi h
 exact post_r (.agg #[vu x6,vu 0,vu 0,vu 0]) rfl (results_cell rfl (by kernel_rfl) (run_loadAt (ad:=(⟨b2,0,none⟩ : Addr)) (off:=0) (St.boxAt H8 0 rfl) (le_self _) (by kernel_rfl))) ⟨rfl,sl H8 []⟩
/- tarn/tarnref1.digit -/
def g_tarnref1_digit (fuel : Nat) (p1 : TU256) (p2 : Int) : Option Int :=
  lt (wr .i64 (Int.tdiv p2 2)) fun x7 => gd ((0 : Int) ≤ x7 ∧ x7 < 4) <| bd (([p1.e0, p1.e1, p1.e2, p1.e3] : List Int)[Int.toNat x7]?) fun x9 => lt (Int.tmod p2 2) fun x10 => lt (wr .i64 (32 * x10)) fun x11 => gd ((0 : Int) ≤ x11) <| lt (ishr .u64 x9 x11) fun x13 => lt (ibAnd .u64 x13 4294967295) fun x14 => some x14
theorem g_tarnref1_digit_w (fuel : Nat) (p1 : TU256) (p2 : Int) (r : Int) (h : g_tarnref1_digit fuel p1 p2 = some r) (w0 : World) :
 Ret Tryz.prog 124 #[TU256.val p1, vi p2] w0 (fun v w' => v = vu r ∧ St no w0 w' []) := by
 unfold g_tarnref1_digit at h
 refine ret_of_wpS Tryz.func124 rfl 14 rfl [(0,TU256.val p1),(1,vi p2)] (by kernel_rfl) (fun G=>?_)
 have H0:=St.start w0
 refine zsg ?_
 refine zo (obx H0 (TU256.cs p1).toArray 24 (fun b3 w5 H6=>?_))
 refine zn ?_
 refine zrd 1 2 [(4,vu 0)] ?_
 refine zsg ?_
 obtain ⟨x7,e,h⟩:=ls h
 obtain ⟨hg8,h⟩:=gs h
 refine ze 2 2 [(6,vi x7),(5,vi p2)] ?_
 refine zv (va (((⟨b3,0,none⟩ : Addr).add 0).add (Int.toNat x7 * 1))) (lla ((⟨b3,0,none⟩ : Addr).add 0) 4 22 1 .i64 x7 hg8) ?_
 obtain ⟨x9,hx9,h⟩:=bs h
 refine zv (vu x9) (lld 0 (CellsAt.elem fU64 (St.boxAt H6 0 rfl) 0 [p1.e0,p1.e1,p1.e2,p1.e3] [] (by kernel_rfl) _ _ hx9) (le_self _)) ?_
 obtain ⟨x10,hx10,h⟩:=ls h
 obtain ⟨x11,hx11,h⟩:=ls h
 obtain ⟨hg12,h⟩:=gs h
 obtain ⟨x13,hx13,h⟩:=ls h
 refine zr 3 7 [(11,vi x11),(10,vi x10),(9,vi p2)] ?_ rfl (fun K=>by subst hx11 hx10; kernel_rfl)
 refine WPI.valueS (vu x13) 12 rfl rfl (by kernel_rfl) (Eq.trans (ev_shr .u64 .i64 x9 x11 22 3 (.tmp 8) (.tmp 11) rfl (by kernel_rfl) (by kernel_rfl) hg12) (by rw [← hx13])) ?_
 obtain ⟨x14,e,h⟩:=ls h
 refine zed 2 10 [(4,vu x14),(13,vu x14)] ?_
 refine WP.ret ?_
 obtain rfl:=oi h
 exact post_r (vu x14) rfl (by kernel_rfl) ⟨rfl,sl H6 []⟩
/- tarn/tarnref1.Mul -/
def g_tarnref1_Mul_l2 (x53 : Int) (fuel : Nat) (p1 : TU256) (p2 : TU256) (K94 : Int → Int → Int → Int → Int → Int → Int → Int → Int → Int → Int → Int → Int → Int → Int → Int → Int → Option (TU256 × Bool)) : Nat → Int → Int → Int → Int → Int → Int → Int → Int → Int → Int → Int → Int → Int → Int → Int → Int → Int → Int → Option (TU256 × Bool)
  | 0, _, _, _, _, _, _, _, _, _, _, _, _, _, _, _, _, _, _ => none
  | n + 1, x95, x96, x97, x98, x99, x100, x101, x102, x103, x104, x105, x106, x107, x108, x109, x110, x111, x112 => lt (decide (x112 < 8)) fun c116 => br c116 (lt (wr .i64 (x53 + x112)) fun x117 => gd ((0 : Int) ≤ x117 ∧ x117 < 16) <| bd (([x95, x96, x97, x98, x99, x100, x101, x102, x103, x104, x105, x106, x107, x108, x109, x110] : List Int)[Int.toNat x117]?) fun x119 => bd (g_tarnref1_digit fuel p1 x53) fun t120 => bd (g_tarnref1_digit fuel p2 x112) fun t121 => lt (wr .u64 (t120 * t121)) fun x122 => lt (wr .u64 (x119 + x122)) fun x123 => lt (wr .u64 (x123 + x111)) fun x124 => lt (wr .i64 (x53 + x112)) fun x127 => lt (ibAnd .u64 x124 4294967295) fun x128 => lt (ishr .u64 x124 32) fun x129 => gd ((0 : Int) ≤ x127 ∧ x127 < 16) <| ls16 (List.set ([x95, x96, x97, x98, x99, x100, x101, x102, x103, x104, x105, x106, x107, x108, x109, x110] : List Int) (Int.toNat x127) x128) fun y131 y132 y133 y134 y135 y136 y137 y138 y139 y140 y141 y142 y143 y144 y145 y146 => lt (wr .i64 (x112 + 1)) fun x150 => g_tarnref1_Mul_l2 x53 fuel p1 p2 K94 n y131 y132 y133 y134 y135 y136 y137 y138 y139 y140 y141 y142 y143 y144 y145 y146 x129 x150) (K94 x95 x96 x97 x98 x99 x100 x101 x102 x103 x104 x105 x106 x107 x108 x109 x110 x111)
def g_tarnref1_Mul_l1 (fuel : Nat) (p1 : TU256) (p2 : TU256) (K36 : Int → Int → Int → Int → Int → Int → Int → Int → Int → Int → Int → Int → Int → Int → Int → Int → Option (TU256 × Bool)) : Nat → Int → Int → Int → Int → Int → Int → Int → Int → Int → Int → Int → Int → Int → Int → Int → Int → Int → Option (TU256 × Bool)
  | 0, _, _, _, _, _, _, _, _, _, _, _, _, _, _, _, _, _ => none
  | n + 1, x37, x38, x39, x40, x41, x42, x43, x44, x45, x46, x47, x48, x49, x50, x51, x52, x53 => lt (decide (x53 < 8)) fun c57 => br c57 (jn (fun (x58 : Int) (x59 : Int) (x60 : Int) (x61 : Int) (x62 : Int) (x63 : Int) (x64 : Int) (x65 : Int) (x66 : Int) (x67 : Int) (x68 : Int) (x69 : Int) (x70 : Int) (x71 : Int) (x72 : Int) (x73 : Int) => lt (wr .i64 (x53 + 1)) fun x176 => g_tarnref1_Mul_l1 fuel p1 p2 K36 n x58 x59 x60 x61 x62 x63 x64 x65 x66 x67 x68 x69 x70 x71 x72 x73 x176) fun K75 => jn (fun (x76 : Int) (x77 : Int) (x78 : Int) (x79 : Int) (x80 : Int) (x81 : Int) (x82 : Int) (x83 : Int) (x84 : Int) (x85 : Int) (x86 : Int) (x87 : Int) (x88 : Int) (x89 : Int) (x90 : Int) (x91 : Int) (x92 : Int) => lt (wr .i64 (x53 + 8)) fun x153 => gd ((0 : Int) ≤ x153 ∧ x153 < 16) <| ls16 (List.set ([x76, x77, x78, x79, x80, x81, x82, x83, x84, x85, x86, x87, x88, x89, x90, x91] : List Int) (Int.toNat x153) x92) fun y155 y156 y157 y158 y159 y160 y161 y162 y163 y164 y165 y166 y167 y168 y169 y170 => K75 y155 y156 y157 y158 y159 y160 y161 y162 y163 y164 y165 y166 y167 y168 y169 y170) fun K94 => g_tarnref1_Mul_l2 x53 fuel p1 p2 K94 fuel x37 x38 x39 x40 x41 x42 x43 x44 x45 x46 x47 x48 x49 x50 x51 x52 0 0) (K36 x37 x38 x39 x40 x41 x42 x43 x44 x45 x46 x47 x48 x49 x50 x51 x52)
def g_tarnref1_Mul_l3 (x19 : Int) (x20 : Int) (x21 : Int) (x22 : Int) (x23 : Int) (x24 : Int) (x25 : Int) (x26 : Int) (x27 : Int) (x28 : Int) (x29 : Int) (x30 : Int) (x31 : Int) (x32 : Int) (x33 : Int) (x34 : Int) (K190 : Int → Int → Int → Int → Option (TU256 × Bool)) (fuel : Nat) : Nat → Int → Int → Int → Int → Int → Option (TU256 × Bool)
  | 0, _, _, _, _, _ => none
  | n + 1, x191, x192, x193, x194, x195 => lt (decide (x195 < 8)) fun c199 => br c199 (lt (wr .i64 (x195 + 8)) fun x200 => gd ((0 : Int) ≤ x200 ∧ x200 < 16) <| bd (([x19, x20, x21, x22, x23, x24, x25, x26, x27, x28, x29, x30, x31, x32, x33, x34] : List Int)[Int.toNat x200]?) fun x202 => lt (decide (x202 > 0)) fun c203 => br c203 (some (TU256.mk 0 0 0 0, false)) (jn (fun (x204 : Int) (x205 : Int) (x206 : Int) (x207 : Int) => lt (wr .i64 (x195 + 1)) fun x232 => g_tarnref1_Mul_l3 x19 x20 x21 x22 x23 x24 x25 x26 x27 x28 x29 x30 x31 x32 x33 x34 K190 fuel n x204 x205 x206 x207 x232) fun K209 => lt (wr .i64 (Int.tdiv x195 2)) fun x211 => lt (wr .i64 (Int.tdiv x195 2)) fun x212 => gd ((0 : Int) ≤ x212 ∧ x212 < 4) <| bd (([x191, x192, x193, x194] : List Int)[Int.toNat x212]?) fun x214 => gd ((0 : Int) ≤ x195 ∧ x195 < 16) <| bd (([x19, x20, x21, x22, x23, x24, x25, x26, x27, x28, x29, x30, x31, x32, x33, x34] : List Int)[Int.toNat x195]?) fun x216 => lt (Int.tmod x195 2) fun x217 => lt (wr .i64 (32 * x217)) fun x218 => gd ((0 : Int) ≤ x218) <| lt (ishl .u64 x216 x218) fun x220 => lt (ibOr .u64 x214 x220) fun x221 => gd ((0 : Int) ≤ x211 ∧ x211 < 4) <| ls4 (List.set ([x191, x192, x193, x194] : List Int) (Int.toNat x211) x221) fun y223 y224 y225 y226 => K209 y223 y224 y225 y226)) (K190 x191 x192 x193 x194)
def g_tarnref1_Mul (fuel : Nat) (p1 : TU256) (p2 : TU256) : Option (TU256 × Bool) :=
  jn (fun (x19 : Int) (x20 : Int) (x21 : Int) (x22 : Int) (x23 : Int) (x24 : Int) (x25 : Int) (x26 : Int) (x27 : Int) (x28 : Int) (x29 : Int) (x30 : Int) (x31 : Int) (x32 : Int) (x33 : Int) (x34 : Int) => jn (fun (x185 : Int) (x186 : Int) (x187 : Int) (x188 : Int) => some (TU256.mk x185 x186 x187 x188, true)) fun K190 => g_tarnref1_Mul_l3 x19 x20 x21 x22 x23 x24 x25 x26 x27 x28 x29 x30 x31 x32 x33 x34 K190 fuel fuel 0 0 0 0 0) fun K36 => g_tarnref1_Mul_l1 fuel p1 p2 K36 fuel 0 0 0 0 0 0 0 0 0 0 0 0 0 0 0 0 0
theorem g_tarnref1_Mul_w (fuel : Nat) (p1 : TU256) (p2 : TU256) (r : TU256 × Bool) (h : g_tarnref1_Mul fuel p1 p2 = some r) (w0 : World) :
 Ret Tryz.prog 110 #[TU256.val p1, TU256.val p2] w0 (fun v w' => v = .tuple #[TU256.val r.1, vb r.2] ∧ St no w0 w' []) := by
 unfold g_tarnref1_Mul at h
 refine ret_of_wpS Tryz.func110 rfl 75 rfl [(0,TU256.val p1),(1,TU256.val p2)] (by kernel_rfl) (fun G=>?_)
 have H0:=St.start w0
 refine zsg ?_
 refine zo (obx H0 (TU256.cs p1).toArray 24 (fun b3 w5 H6=>?_))
 refine zn ?_
 refine zo (obx H6 (TU256.cs p2).toArray 24 (fun b7 w9 H10=>?_))
 clear H6
 refine zn ?_
 refine zo (oal H10 #[vu 0,vu 0,vu 0,vu 0] 24 (fun b11 w13 H14=>?_))
 clear H10
 refine zn ?_
 refine zrd 1 4 [(5,vb false)] ?_
 refine zsg ?_
 refine zo (oal H14 #[vu 0,vu 0,vu 0,vu 0,vu 0,vu 0,vu 0,vu 0,vu 0,vu 0,vu 0,vu 0,vu 0,vu 0,vu 0,vu 0] 162 (fun b15 w17 H18=>?_))
 clear H14
 refine zn ?_
 refine zdn ?_
 refine zs ?_
 refine zsg ?_
 refine zrd 1 1 [(7,vi 0)] ?_
 obtain ⟨K36,hK36,h⟩:=js h
 refine WP.blockJ (fun a w=>∃ (x19 : Int) (x20 : Int) (x21 : Int) (x22 : Int) (x23 : Int) (x24 : Int) (x25 : Int) (x26 : Int) (x27 : Int) (x28 : Int) (x29 : Int) (x30 : Int) (x31 : Int) (x32 : Int) (x33 : Int) (x34 : Int),Y 75 [(4,vp b11 0),(6,vp b15 0)] [] no w0 [Box b15 #[vu x19,vu x20,vu x21,vu x22,vu x23,vu x24,vu x25,vu x26,vu x27,vu x28,vu x29,vu x30,vu x31,vu x32,vu x33,vu x34] 162,Box b11 #[vu 0,vu 0,vu 0,vu 0] 24,Box b7 (TU256.cs p2).toArray 24,Box b3 (TU256.cs p1).toArray 24] (K36 x19 x20 x21 x22 x23 x24 x25 x26 x27 x28 x29 x30 x31 x32 x33 x34 = some r) a w) ?_ ?_
 ·refine WP.loop (fun n a w=>∃ (x37 : Int) (x38 : Int) (x39 : Int) (x40 : Int) (x41 : Int) (x42 : Int) (x43 : Int) (x44 : Int) (x45 : Int) (x46 : Int) (x47 : Int) (x48 : Int) (x49 : Int) (x50 : Int) (x51 : Int) (x52 : Int) (x53 : Int),Y 75 [(2,vp b3 0),(3,vp b7 0),(4,vp b11 0),(6,vp b15 0),(7,vi x53)] [] no w0 [Box b15 #[vu x37,vu x38,vu x39,vu x40,vu x41,vu x42,vu x43,vu x44,vu x45,vu x46,vu x47,vu x48,vu x49,vu x50,vu x51,vu x52] 162,Box b11 #[vu 0,vu 0,vu 0,vu 0] 24,Box b7 (TU256.cs p2).toArray 24,Box b3 (TU256.cs p1).toArray 24] (g_tarnref1_Mul_l1 fuel p1 p2 K36 n x37 x38 x39 x40 x41 x42 x43 x44 x45 x46 x47 x48 x49 x50 x51 x52 x53 = some r) a w) fuel ⟨0,0,0,0,0,0,0,0,0,0,0,0,0,0,0,0,0,yy H18 [0,1,2,3] h⟩ ?_
  intro n a w hq
  refine Exists.elim hq fun x37 hq=>Exists.elim hq fun x38 hq=>Exists.elim hq fun x39 hq=>Exists.elim hq fun x40 hq=>Exists.elim hq fun x41 hq=>Exists.elim hq fun x42 hq=>Exists.elim hq fun x43 hq=>Exists.elim hq fun x44 hq=>Exists.elim hq fun x45 hq=>Exists.elim hq fun x46 hq=>Exists.elim hq fun x47 hq=>Exists.elim hq fun x48 hq=>Exists.elim hq fun x49 hq=>Exists.elim hq fun x50 hq=>Exists.elim hq fun x51 hq=>Exists.elim hq fun x52 hq=>Exists.elim hq fun x53 hq=>Exists.elim hq fun G54 hq=>?_
  obtain ⟨rfl,H,h⟩:=hq
  obtain _ | n:=n
  ·rw [g_tarnref1_Mul_l1] at h; cases h
  rw [g_tarnref1_Mul_l1] at h
  obtain ⟨w55,rfl⟩ : ∃ x,x = w:=⟨_,rfl⟩
  have H56:=H; clear H
  refine zs ?_
  refine zsg ?_
  obtain ⟨c57,e,h⟩:=ls h
  refine zed 2 2 [(14,vb c57),(13,vi x53)] ?_
  cases c57
  ·replace h:=bf h
   refine zF ?_
   refine WP.exit ?_
   exact then_e (then_e (inb_e (then_n ⟨x37,x38,x39,x40,x41,x42,x43,x44,x45,x46,x47,x48,x49,x50,x51,x52,yy H56 [0,1,2,3] h⟩)))
  replace h:=bt h
  refine zTn ?_
  refine zs ?_
  obtain ⟨K75,hK75,h⟩:=js h
  refine WP.blockJ (fun a w=>∃ (x58 : Int) (x59 : Int) (x60 : Int) (x61 : Int) (x62 : Int) (x63 : Int) (x64 : Int) (x65 : Int) (x66 : Int) (x67 : Int) (x68 : Int) (x69 : Int) (x70 : Int) (x71 : Int) (x72 : Int) (x73 : Int),Y 75 [(2,vp b3 0),(3,vp b7 0),(4,vp b11 0),(6,vp b15 0),(7,vi x53)] [] no w0 [Box b15 #[vu x58,vu x59,vu x60,vu x61,vu x62,vu x63,vu x64,vu x65,vu x66,vu x67,vu x68,vu x69,vu x70,vu x71,vu x72,vu x73] 162,Box b11 #[vu 0,vu 0,vu 0,vu 0] 24,Box b7 (TU256.cs p2).toArray 24,Box b3 (TU256.cs p1).toArray 24] (K75 x58 x59 x60 x61 x62 x63 x64 x65 x66 x67 x68 x69 x70 x71 x72 x73 = some r) a w) ?_ ?_
  ·refine zsg ?_
   refine zrd 1 1 [(8,vu 0)] ?_
   refine zs ?_
   refine zsg ?_
   refine zrd 1 1 [(9,vi 0)] ?_
   obtain ⟨K94,hK94,h⟩:=js h
   refine WP.blockJ (fun a w=>∃ (x76 : Int) (x77 : Int) (x78 : Int) (x79 : Int) (x80 : Int) (x81 : Int) (x82 : Int) (x83 : Int) (x84 : Int) (x85 : Int) (x86 : Int) (x87 : Int) (x88 : Int) (x89 : Int) (x90 : Int) (x91 : Int) (x92 : Int),Y 75 [(2,vp b3 0),(3,vp b7 0),(4,vp b11 0),(6,vp b15 0),(7,vi x53),(8,vu x92)] [] no w0 [Box b15 #[vu x76,vu x77,vu x78,vu x79,vu x80,vu x81,vu x82,vu x83,vu x84,vu x85,vu x86,vu x87,vu x88,vu x89,vu x90,vu x91] 162,Box b11 #[vu 0,vu 0,vu 0,vu 0] 24,Box b7 (TU256.cs p2).toArray 24,Box b3 (TU256.cs p1).toArray 24] (K94 x76 x77 x78 x79 x80 x81 x82 x83 x84 x85 x86 x87 x88 x89 x90 x91 x92 = some r) a w) ?_ ?_
   ·refine WP.loop (fun n a w=>∃ (x95 : Int) (x96 : Int) (x97 : Int) (x98 : Int) (x99 : Int) (x100 : Int) (x101 : Int) (x102 : Int) (x103 : Int) (x104 : Int) (x105 : Int) (x106 : Int) (x107 : Int) (x108 : Int) (x109 : Int) (x110 : Int) (x111 : Int) (x112 : Int),Y 75 [(2,vp b3 0),(3,vp b7 0),(4,vp b11 0),(6,vp b15 0),(7,vi x53),(8,vu x111),(9,vi x112)] [] no w0 [Box b15 #[vu x95,vu x96,vu x97,vu x98,vu x99,vu x100,vu x101,vu x102,vu x103,vu x104,vu x105,vu x106,vu x107,vu x108,vu x109,vu x110] 162,Box b11 #[vu 0,vu 0,vu 0,vu 0] 24,Box b7 (TU256.cs p2).toArray 24,Box b3 (TU256.cs p1).toArray 24] (g_tarnref1_Mul_l2 x53 fuel p1 p2 K94 n x95 x96 x97 x98 x99 x100 x101 x102 x103 x104 x105 x106 x107 x108 x109 x110 x111 x112 = some r) a w) fuel ⟨x37,x38,x39,x40,x41,x42,x43,x44,x45,x46,x47,x48,x49,x50,x51,x52,0,0,yy H56 [0,1,2,3] h⟩ ?_
    intro n a w hq
    refine Exists.elim hq fun x95 hq=>Exists.elim hq fun x96 hq=>Exists.elim hq fun x97 hq=>Exists.elim hq fun x98 hq=>Exists.elim hq fun x99 hq=>Exists.elim hq fun x100 hq=>Exists.elim hq fun x101 hq=>Exists.elim hq fun x102 hq=>Exists.elim hq fun x103 hq=>Exists.elim hq fun x104 hq=>Exists.elim hq fun x105 hq=>Exists.elim hq fun x106 hq=>Exists.elim hq fun x107 hq=>Exists.elim hq fun x108 hq=>Exists.elim hq fun x109 hq=>Exists.elim hq fun x110 hq=>Exists.elim hq fun x111 hq=>Exists.elim hq fun x112 hq=>Exists.elim hq fun G113 hq=>?_
    obtain ⟨rfl,H,h⟩:=hq
    obtain _ | n:=n
    ·rw [g_tarnref1_Mul_l2] at h; cases h
    rw [g_tarnref1_Mul_l2] at h
    obtain ⟨w114,rfl⟩ : ∃ x,x = w:=⟨_,rfl⟩
    have H115:=H; clear H
    refine zs ?_
    refine zsg ?_
    obtain ⟨c116,e,h⟩:=ls h
    refine zed 2 2 [(18,vb c116),(17,vi x112)] ?_
    cases c116
    ·replace h:=bf h
     refine zF ?_
     refine WP.exit ?_
     exact then_e (then_e (inb_e (then_n ⟨x95,x96,x97,x98,x99,x100,x101,x102,x103,x104,x105,x106,x107,x108,x109,x110,x111,yy H115 [0,1,2,3] h⟩)))
    replace h:=bt h
    refine zTn ?_
    refine zs ?_
    refine WP.block ?_
    refine zs ?_
    refine WP.quiet (by kernel_rfl) (by kernel_rfl) (by kernel_rfl) (fun w=>St no w0 w [Box b15 #[vu x95,vu x96,vu x97,vu x98,vu x99,vu x100,vu x101,vu x102,vu x103,vu x104,vu x105,vu x106,vu x107,vu x108,vu x109,vu x110] 162,Box b11 #[vu 0,vu 0,vu 0,vu 0] 24,Box b7 (TU256.cs p2).toArray 24,Box b3 (TU256.cs p1).toArray 24]) (St.drew H115) ?_
    obtain ⟨x117,e,h⟩:=ls h
    obtain ⟨hg118,h⟩:=gs h
    refine qe 3 3 [(23,vi x117),(22,vi x112),(21,vi x53)] ?_
    refine qv (va (((⟨b15,0,none⟩ : Addr).add 0).add (Int.toNat x117 * 1))) (fun w H=>lla ((⟨b15,0,none⟩ : Addr).add 0) 16 22 1 .i64 x117 hg118) ?_
    obtain ⟨x119,hx119,h⟩:=bs h
    refine qv (vu x119) (fun w H=>lld 0 (CellsAt.elem fU64 (St.boxAt H 0 rfl) 0 [x95,x96,x97,x98,x99,x100,x101,x102,x103,x104,x105,x106,x107,x108,x109,x110] [] (by kernel_rfl) _ _ hx119) (le_self _)) ?_
    refine qv (TU256.val p1) (fun w H=>llb H 3 0) ?_
    obtain ⟨t120,ht120,h⟩:=bs h
    refine qr 1 7 [(27,vi x53)] ?_
    refine qc (vu t120) (fun w H=>Ret.mono (g_tarnref1_digit_w fuel p1 x53 t120 ht120 _) fun u w1 hu=>⟨hu.1,St.call0' H hu.2⟩) ?_
    refine qv (TU256.val p2) (fun w H=>llb H 2 0) ?_
    obtain ⟨t121,ht121,h⟩:=bs h
    refine qr 1 10 [(30,vi x112)] ?_
    refine qc (vu t121) (fun w H=>Ret.mono (g_tarnref1_digit_w fuel p2 x112 t121 ht121 _) fun u w1 hu=>⟨hu.1,St.call0' H hu.2⟩) ?_
    obtain ⟨x122,hx122,h⟩:=ls h
    obtain ⟨x123,hx123,h⟩:=ls h
    obtain ⟨x124,hx124,h⟩:=ls h
    refine qr 5 16 [(10,vu x124),(35,vu x124),(34,vu x111),(33,vu x123),(32,vu x122)] ?_ rfl (fun K=>by subst hx124 hx123 hx122; kernel_rfl)
    refine qd fun w125 H126=>?_
    refine then_n ?_
    refine zg ?_
    obtain ⟨x127,hx127,h⟩:=ls h
    obtain ⟨x128,hx128,h⟩:=ls h
    obtain ⟨x129,hx129,h⟩:=ls h
    obtain ⟨hg130,h⟩:=gs h
    refine zr 7 7 [(42,vu x129),(41,vu x124),(40,vu x128),(39,vu x124),(38,vi x127),(37,vi x112),(36,vi x53)] ?_ rfl (fun K=>by subst hx129 hx128 hx127; kernel_rfl)
    refine zv (va (((⟨b15,0,none⟩ : Addr).add 0).add (Int.toNat x127 * 1))) (lla ((⟨b15,0,none⟩ : Addr).add 0) 16 22 1 .i64 x127 hg130) ?_
    obtain ⟨y131,y132,y133,y134,y135,y136,y137,y138,y139,y140,y141,y142,y143,y144,y145,y146,hy147,h⟩:=ls16_some h
    refine WPI.op rfl (Op1.storeBoxI fU64 H126 0 rfl (by kernel_rfl) 22 (.tmp 43) (.tmp 40) 0 ([x95,x96,x97,x98,x99,x100,x101,x102,x103,x104,x105,x106,x107,x108,x109,x110] : List Int) [] [] (Int.toNat x127) x128 false rfl (by kernel_rfl) (by kernel_rfl) (by kernel_rfl) (by kernel_rfl) (by kernel_rfl) (idx_lt (n:=16) hg130) [y131,y132,y133,y134,y135,y136,y137,y138,y139,y140,y141,y142,y143,y144,y145,y146] hy147 #[vu y131,vu y132,vu y133,vu y134,vu y135,vu y136,vu y137,vu y138,vu y139,vu y140,vu y141,vu y142,vu y143,vu y144,vu y145,vu y146] (by kernel_rfl) (fun w148 H149=>?_))
    clear H126
    refine z0 ?_
    refine zr 1 10 [(8,vu x129)] ?_
    refine zd ?_
    refine inb_n (then_n ?_)
    refine zg ?_
    obtain ⟨x150,e,h⟩:=ls h
    refine ze 3 3 [(9,vi x150),(20,vi x150),(19,vi x112)] ?_
    refine zd ?_
    exact then_n ⟨n,lS n,y131,y132,y133,y134,y135,y136,y137,y138,y139,y140,y141,y142,y143,y144,y145,y146,x129,x150,yy H149 [0,1,2,3] h⟩
   intro a w hq
   refine Exists.elim hq fun x76 hq=>Exists.elim hq fun x77 hq=>Exists.elim hq fun x78 hq=>Exists.elim hq fun x79 hq=>Exists.elim hq fun x80 hq=>Exists.elim hq fun x81 hq=>Exists.elim hq fun x82 hq=>Exists.elim hq fun x83 hq=>Exists.elim hq fun x84 hq=>Exists.elim hq fun x85 hq=>Exists.elim hq fun x86 hq=>Exists.elim hq fun x87 hq=>Exists.elim hq fun x88 hq=>Exists.elim hq fun x89 hq=>Exists.elim hq fun x90 hq=>Exists.elim hq fun x91 hq=>Exists.elim hq fun x92 hq=>Exists.elim hq fun G93 hq=>?_
   obtain ⟨rfl,H,h⟩:=hq
   subst hK94
   obtain ⟨w151,rfl⟩ : ∃ x,x = w:=⟨_,rfl⟩
   have H152:=H; clear H
   refine then_n ?_
   refine zg ?_
   obtain ⟨x153,e,h⟩:=ls h
   obtain ⟨hg154,h⟩:=gs h
   refine ze 3 3 [(46,vu x92),(45,vi x153),(44,vi x53)] ?_
   refine zv (va (((⟨b15,0,none⟩ : Addr).add 0).add (Int.toNat x153 * 1))) (lla ((⟨b15,0,none⟩ : Addr).add 0) 16 22 1 .i64 x153 hg154) ?_
   obtain ⟨y155,y156,y157,y158,y159,y160,y161,y162,y163,y164,y165,y166,y167,y168,y169,y170,hy171,h⟩:=ls16_some h
   refine WPI.op rfl (Op1.storeBoxI fU64 H152 0 rfl (by kernel_rfl) 22 (.tmp 47) (.tmp 46) 0 ([x76,x77,x78,x79,x80,x81,x82,x83,x84,x85,x86,x87,x88,x89,x90,x91] : List Int) [] [] (Int.toNat x153) x92 false rfl (by kernel_rfl) (by kernel_rfl) (by kernel_rfl) (by kernel_rfl) (by kernel_rfl) (idx_lt (n:=16) hg154) [y155,y156,y157,y158,y159,y160,y161,y162,y163,y164,y165,y166,y167,y168,y169,y170] hy171 #[vu y155,vu y156,vu y157,vu y158,vu y159,vu y160,vu y161,vu y162,vu y163,vu y164,vu y165,vu y166,vu y167,vu y168,vu y169,vu y170] (by kernel_rfl) (fun w172 H173=>?_))
   clear H152
   refine z0 ?_
   refine zd ?_
   exact inb_n (then_n ⟨y155,y156,y157,y158,y159,y160,y161,y162,y163,y164,y165,y166,y167,y168,y169,y170,yy H173 [0,1,2,3] h⟩)
  intro a w hq
  refine Exists.elim hq fun x58 hq=>Exists.elim hq fun x59 hq=>Exists.elim hq fun x60 hq=>Exists.elim hq fun x61 hq=>Exists.elim hq fun x62 hq=>Exists.elim hq fun x63 hq=>Exists.elim hq fun x64 hq=>Exists.elim hq fun x65 hq=>Exists.elim hq fun x66 hq=>Exists.elim hq fun x67 hq=>Exists.elim hq fun x68 hq=>Exists.elim hq fun x69 hq=>Exists.elim hq fun x70 hq=>Exists.elim hq fun x71 hq=>Exists.elim hq fun x72 hq=>Exists.elim hq fun x73 hq=>Exists.elim hq fun G74 hq=>?_
  obtain ⟨rfl,H,h⟩:=hq
  subst hK75
  obtain ⟨w174,rfl⟩ : ∃ x,x = w:=⟨_,rfl⟩
  have H175:=H; clear H
  refine then_n ?_
  refine zg ?_
  obtain ⟨x176,e,h⟩:=ls h
  refine ze 3 3 [(7,vi x176),(16,vi x176),(15,vi x53)] ?_
  refine zd ?_
  exact then_n ⟨n,lS n,x58,x59,x60,x61,x62,x63,x64,x65,x66,x67,x68,x69,x70,x71,x72,x73,x176,yy H175 [0,1,2,3] h⟩
 intro a w hq
 refine Exists.elim hq fun x19 hq=>Exists.elim hq fun x20 hq=>Exists.elim hq fun x21 hq=>Exists.elim hq fun x22 hq=>Exists.elim hq fun x23 hq=>Exists.elim hq fun x24 hq=>Exists.elim hq fun x25 hq=>Exists.elim hq fun x26 hq=>Exists.elim hq fun x27 hq=>Exists.elim hq fun x28 hq=>Exists.elim hq fun x29 hq=>Exists.elim hq fun x30 hq=>Exists.elim hq fun x31 hq=>Exists.elim hq fun x32 hq=>Exists.elim hq fun x33 hq=>Exists.elim hq fun x34 hq=>Exists.elim hq fun G35 hq=>?_
 obtain ⟨rfl,H,h⟩:=hq
 subst hK36
 obtain ⟨w177,rfl⟩ : ∃ x,x = w:=⟨_,rfl⟩
 have H178:=H; clear H
 refine then_n ?_
 refine zsg ?_
 refine zr 1 1 [(48,.agg #[vu 0,vu 0,vu 0,vu 0])] ?_
 refine zo (oal H178 #[vu 0,vu 0,vu 0,vu 0] 24 (fun b179 w181 H182=>?_))
 clear H178
 refine zn ?_
 refine zo (osb H182 0 0 (.agg #[vu 0,vu 0,vu 0,vu 0]) #[vu 0,vu 0,vu 0,vu 0] true (flat_one1 fTU256 (TU256.mk 0 0 0 0)) (fun w183 H184=>?_))
 clear H182
 refine z0 ?_
 refine zdn ?_
 refine zs ?_
 refine zsg ?_
 refine zrd 1 1 [(12,vi 0)] ?_
 obtain ⟨K190,hK190,h⟩:=js h
 refine WP.blockJ (fun a w=>∃ (x185 : Int) (x186 : Int) (x187 : Int) (x188 : Int),Y 75 [(4,vp b11 0),(11,vp b179 0)] [] no w0 [Box b179 #[vu x185,vu x186,vu x187,vu x188] 24,Box b15 #[vu x19,vu x20,vu x21,vu x22,vu x23,vu x24,vu x25,vu x26,vu x27,vu x28,vu x29,vu x30,vu x31,vu x32,vu x33,vu x34] 162,Box b11 #[vu 0,vu 0,vu 0,vu 0] 24,Box b7 (TU256.cs p2).toArray 24,Box b3 (TU256.cs p1).toArray 24] (K190 x185 x186 x187 x188 = some r) a w) ?_ ?_
 ·refine WP.loop (fun n a w=>∃ (x191 : Int) (x192 : Int) (x193 : Int) (x194 : Int) (x195 : Int),Y 75 [(4,vp b11 0),(6,vp b15 0),(11,vp b179 0),(12,vi x195)] [] no w0 [Box b179 #[vu x191,vu x192,vu x193,vu x194] 24,Box b15 #[vu x19,vu x20,vu x21,vu x22,vu x23,vu x24,vu x25,vu x26,vu x27,vu x28,vu x29,vu x30,vu x31,vu x32,vu x33,vu x34] 162,Box b11 #[vu 0,vu 0,vu 0,vu 0] 24,Box b7 (TU256.cs p2).toArray 24,Box b3 (TU256.cs p1).toArray 24] (g_tarnref1_Mul_l3 x19 x20 x21 x22 x23 x24 x25 x26 x27 x28 x29 x30 x31 x32 x33 x34 K190 fuel n x191 x192 x193 x194 x195 = some r) a w) fuel ⟨0,0,0,0,0,yy H184 [0,1,2,3,4] h⟩ ?_
  intro n a w hq
  refine Exists.elim hq fun x191 hq=>Exists.elim hq fun x192 hq=>Exists.elim hq fun x193 hq=>Exists.elim hq fun x194 hq=>Exists.elim hq fun x195 hq=>Exists.elim hq fun G196 hq=>?_
  obtain ⟨rfl,H,h⟩:=hq
  obtain _ | n:=n
  ·rw [g_tarnref1_Mul_l3] at h; cases h
  rw [g_tarnref1_Mul_l3] at h
  obtain ⟨w197,rfl⟩ : ∃ x,x = w:=⟨_,rfl⟩
  have H198:=H; clear H
  refine zs ?_
  refine zsg ?_
  obtain ⟨c199,e,h⟩:=ls h
  refine zed 2 2 [(50,vb c199),(49,vi x195)] ?_
  cases c199
  ·replace h:=bf h
   refine zF ?_
   refine WP.exit ?_
   exact then_e (then_e (inb_e (then_n ⟨x191,x192,x193,x194,yy H198 [0,1,2,3,4] h⟩)))
  replace h:=bt h
  refine zTn ?_
  refine zs ?_
  refine WP.block ?_
  refine zs ?_
  refine zsg ?_
  obtain ⟨x200,e,h⟩:=ls h
  obtain ⟨hg201,h⟩:=gs h
  refine ze 2 2 [(54,vi x200),(53,vi x195)] ?_
  refine zv (va (((⟨b15,0,none⟩ : Addr).add 0).add (Int.toNat x200 * 1))) (lla ((⟨b15,0,none⟩ : Addr).add 0) 16 22 1 .i64 x200 hg201) ?_
  obtain ⟨x202,hx202,h⟩:=bs h
  refine zv (vu x202) (lld 0 (CellsAt.elem fU64 (St.boxAt H198 1 rfl) 0 [x19,x20,x21,x22,x23,x24,x25,x26,x27,x28,x29,x30,x31,x32,x33,x34] [] (by kernel_rfl) _ _ hx202) (le_self _)) ?_
  obtain ⟨c203,e,h⟩:=ls h
  refine zed 1 5 [(57,vb c203)] ?_
  cases c203
  rotate_left
  ·replace h:=bt h
   refine zT ?_
   refine zsg ?_
   refine zr 1 1 [(58,.agg #[vu 0,vu 0,vu 0,vu 0])] ?_
   refine zo (osb H198 2 0 (.agg #[vu 0,vu 0,vu 0,vu 0]) #[vu 0,vu 0,vu 0,vu 0] true (flat_one1 fTU256 (TU256.mk 0 0 0 0)) (fun w233 H234=>?_))
   clear H198
   refine z0 ?_
   refine zrd 1 3 [(5,vb false)] ?_
   refine WP.ret ?_
   obtain rfl:=oi h
   exact then_r (inb_r (then_r (then_r (inb_r (then_r (then_r (post_r (.tuple #[.agg #[vu 0,vu 0,vu 0,vu 0],vb false]) rfl (results_cell_tmp rfl (by kernel_rfl) (by kernel_rfl) (run_loadAt (ad:=(⟨b11,0,none⟩ : Addr)) (off:=0) (St.boxAt H234 0 rfl) (le_self _) (by kernel_rfl))) ⟨rfl,sl H234 []⟩)))))))
  replace h:=bf h
  refine zFn ?_
  obtain ⟨K209,hK209,h⟩:=js h
  refine WP.drawI (by kernel_rfl) (by kernel_rfl) (fun w=>St no w0 w [Box b15 #[vu x19,vu x20,vu x21,vu x22,vu x23,vu x24,vu x25,vu x26,vu x27,vu x28,vu x29,vu x30,vu x31,vu x32,vu x33,vu x34] 162,Box b11 #[vu 0,vu 0,vu 0,vu 0] 24,Box b7 (TU256.cs p2).toArray 24,Box b3 (TU256.cs p1).toArray 24]) [15] (fun w=>St no w0 w [Box b179 #[vu x191,vu x192,vu x193,vu x194] 24,Box b15 #[vu x19,vu x20,vu x21,vu x22,vu x23,vu x24,vu x25,vu x26,vu x27,vu x28,vu x29,vu x30,vu x31,vu x32,vu x33,vu x34] 162,Box b11 #[vu 0,vu 0,vu 0,vu 0] 24,Box b7 (TU256.cs p2).toArray 24,Box b3 (TU256.cs p1).toArray 24]) (fun a w=>∃ (x204 : Int) (x205 : Int) (x206 : Int) (x207 : Int),Y 75 [(4,vp b11 0),(6,vp b15 0),(11,vp b179 0),(12,vi x195)] [] no w0 [Box b179 #[vu x204,vu x205,vu x206,vu x207] 24,Box b15 #[vu x19,vu x20,vu x21,vu x22,vu x23,vu x24,vu x25,vu x26,vu x27,vu x28,vu x29,vu x30,vu x31,vu x32,vu x33,vu x34] 162,Box b11 #[vu 0,vu 0,vu 0,vu 0] 24,Box b7 (TU256.cs p2).toArray 24,Box b3 (TU256.cs p1).toArray 24] (K209 x204 x205 x206 x207 = some r) a w) 16 #[F,F,F,F,F,F,F,F,F,F,F,F,F,F,F,F] (by kernel_rfl) (by kernel_rfl) ?_ ?_
  ·have H210:=St.drew H198
   obtain ⟨x211,hx211,h⟩:=ls h
   obtain ⟨x212,hx212,h⟩:=ls h
   obtain ⟨hg213,h⟩:=gs h
   refine WI.runS [0,1,2,3] 12 _ #[T,T,T,T,F,F,F,F,F,F,F,F,F,F,F,F] [(62,vi x212),(61,vi x195),(60,vi x211),(59,vi x195)] rfl (fun K=>by subst hx212 hx211; kernel_rfl) ?_
   refine WI.takeS 4 (va (((⟨b179,0,none⟩ : Addr).add 0).add (Int.toNat x212 * 1))) 63 rfl rfl (by kernel_rfl) (by kernel_rfl) (fun w H=>ev_indexArr (ad:=(⟨b179,0,none⟩ : Addr).add 0) 24 (.tmp 11) (.tmp 62) 4 22 1 .i64 x212 rfl (by kernel_rfl) (by kernel_rfl) (by kernel_rfl) hg213) (li':=#[T,T,T,T,T,F,F,F,F,F,F,F,F,F,F,F]) (by kernel_rfl) ?_
   obtain ⟨x214,hx214,h⟩:=bs h
   refine WI.takeT 5 (vu x214) 64 rfl rfl (by kernel_rfl) (by kernel_rfl) (by kernel_rfl) (fun w H=>ev_load 22 (.tmp 63) 0 (vu x214) (CellsAt.elem fU64 (St.boxAt H 0 rfl) 0 [x191,x192,x193,x194] [] (by kernel_rfl) _ _ hx214) (le_self _) rfl (by kernel_rfl) (by kernel_rfl)) (li':=#[T,T,T,T,T,T,F,F,F,F,F,F,F,F,F,F]) (by kernel_rfl) ?_
   obtain ⟨hg215,h⟩:=gs h
   refine WI.runS [6] 9 _ #[T,T,T,T,T,T,T,F,F,F,F,F,F,F,F,F] [(65,vi x195)] rfl (fun K=>by kernel_rfl) ?_
   refine WI.takeS 7 (va (((⟨b15,0,none⟩ : Addr).add 0).add (Int.toNat x195 * 1))) 66 rfl rfl (by kernel_rfl) (by kernel_rfl) (fun w H=>ev_indexArr (ad:=(⟨b15,0,none⟩ : Addr).add 0) 162 (.tmp 6) (.tmp 65) 16 22 1 .i64 x195 rfl (by kernel_rfl) (by kernel_rfl) (by kernel_rfl) hg215) (li':=#[T,T,T,T,T,T,T,T,F,F,F,F,F,F,F,F]) (by kernel_rfl) ?_
   obtain ⟨x216,hx216,h⟩:=bs h
   refine WI.takeS 8 (vu x216) 67 rfl rfl (by kernel_rfl) (by kernel_rfl) (fun w H=>ev_load 22 (.tmp 66) 0 (vu x216) (CellsAt.elem fU64 (St.boxAt H 0 rfl) 0 [x19,x20,x21,x22,x23,x24,x25,x26,x27,x28,x29,x30,x31,x32,x33,x34] [] (by kernel_rfl) _ _ hx216) (le_self _) rfl (by kernel_rfl) (by kernel_rfl)) (li':=#[T,T,T,T,T,T,T,T,T,F,F,F,F,F,F,F]) (by kernel_rfl) ?_
   obtain ⟨x217,hx217,h⟩:=ls h
   obtain ⟨x218,hx218,h⟩:=ls h
   obtain ⟨hg219,h⟩:=gs h
   obtain ⟨x220,hx220,h⟩:=ls h
   refine WI.runS [9,10,11] 4 _ #[T,T,T,T,T,T,T,T,T,T,T,T,F,F,F,F] [(70,vi x218),(69,vi x217),(68,vi x195)] rfl (fun K=>by subst hx218 hx217; kernel_rfl) ?_
   refine WI.takeS 12 (vu x220) 71 rfl rfl (by kernel_rfl) (by kernel_rfl) (fun w H=>Eq.trans (ev_shl .u64 .i64 x216 x218 22 3 (.tmp 67) (.tmp 70) rfl (by kernel_rfl) (by kernel_rfl) hg219) (by rw [← hx220])) (li':=#[T,T,T,T,T,T,T,T,T,T,T,T,T,F,F,F]) (by kernel_rfl) ?_
   obtain ⟨x221,hx221,h⟩:=ls h
   obtain ⟨hg222,h⟩:=gs h
   refine WI.runS [13] 2 _ #[T,T,T,T,T,T,T,T,T,T,T,T,T,T,F,F] [(72,vu x221)] rfl (fun K=>by subst hx221; kernel_rfl) ?_
   refine WI.takeS 14 (va (((⟨b179,0,none⟩ : Addr).add 0).add (Int.toNat x211 * 1))) 73 rfl rfl (by kernel_rfl) (by kernel_rfl) (fun w H=>ev_indexArr (ad:=(⟨b179,0,none⟩ : Addr).add 0) 24 (.tmp 11) (.tmp 60) 4 22 1 .i64 x211 rfl (by kernel_rfl) (by kernel_rfl) (by kernel_rfl) hg222) (li':=#[T,T,T,T,T,T,T,T,T,T,T,T,T,T,T,F]) (by kernel_rfl) ?_
   obtain ⟨y223,y224,y225,y226,hy227,h⟩:=ls4_some h
   refine WI.one 15 (by kernel_rfl) (nod (sl H210 [1,2,3,4]) (sl H210 [0,1,2,3,4])) rfl (Op1.storeBoxI fU64 H210 0 rfl (by kernel_rfl) 22 (.tmp 73) (.tmp 72) 0 ([x191,x192,x193,x194] : List Int) [] [] (Int.toNat x211) x221 false rfl (by kernel_rfl) (by kernel_rfl) (by kernel_rfl) (by kernel_rfl) (by kernel_rfl) (idx_lt (n:=4) hg222) [y223,y224,y225,y226] hy227 #[vu y223,vu y224,vu y225,vu y226] (by kernel_rfl) (fun w228 H229=>?_))
   clear H210
   refine WI.nS0 #[T,T,T,T,T,T,T,T,T,T,T,T,T,T,T,T] (by kernel_rfl) rfl ?_
   refine WI.done (by kernel_rfl) (nod0 (sl H229 [1,2,3,4]) 15 (by decide) (by kernel_rfl)) ?_
   exact ⟨y223,y224,y225,y226,yy H229 [0,1,2,3,4] h⟩
  rintro a w230 ⟨x204,x205,x206,x207,G208,rfl,H231,h⟩
  subst hK209
  refine inb_n (then_n ?_)
  refine zg ?_
  obtain ⟨x232,e,h⟩:=ls h
  refine ze 3 3 [(12,vi x232),(52,vi x232),(51,vi x195)] ?_
  refine zd ?_
  exact then_n ⟨n,lS n,x204,x205,x206,x207,x232,yy H231 [0,1,2,3,4] h⟩
 rintro a w235 ⟨x185,x186,x187,x188,G189,rfl,H236,h⟩
 subst hK190
 refine then_n ?_
 refine zsg ?_
 refine zv (.agg #[vu x185,vu x186,vu x187,vu x188]) (llb H236 0 0) ?_
 refine zo (osb H236 2 0 (.agg #[vu x185,vu x186,vu x187,vu x188]) #[vu x185,vu x186,vu x187,vu x188] true (flat_one1 fTU256 (TU256.mk x185 x186 x187 x188)) (fun w237 H238=>?_))
 clear H236
 refine z0 ?_
 refine zrd 1 3 [(5,vb true)] ?_
 refine WP.ret ?_
 obtain rfl:=oi h
 exact post_r (.tuple #[.agg #[vu x185,vu x186,vu x187,vu x188],vb true]) rfl (results_cell_tmp rfl (by kernel_rfl) (by kernel_rfl) (run_loadAt (ad:=(⟨b11,0,none⟩ : Addr)) (off:=0) (St.boxAt H238 0 rfl) (le_self _) (by kernel_rfl))) ⟨rfl,sl H238 []⟩
/- tarn/tarnref1.Add -/
def g_tarnref1_Add_l1 (p1 : TU256) (p2 : TU256) (K25 : Int → Int → Int → Int → Int → Option (TU256 × Bool)) (fuel : Nat) : Nat → Int → Int → Int → Int → Int → Int → Option (TU256 × Bool)
  | 0, _, _, _, _, _, _ => none
  | n + 1, x26, x27, x28, x29, x30, x31 => lt (decide (x31 < 4)) fun c35 => br c35 (jn (fun (x36 : Int) (x37 : Int) (x38 : Int) (x39 : Int) (x40 : Int) => lt (wr .i64 (x31 + 1)) fun x84 => g_tarnref1_Add_l1 p1 p2 K25 fuel n x36 x37 x38 x39 x40 x84) fun K42 => jn (fun (x43 : Int) (x44 : Int) (x45 : Int) (x46 : Int) (x47 : Int) => K42 x43 x44 x45 x46 x47) fun K49 => gd ((0 : Int) ≤ x31 ∧ x31 < 4) <| bd (([p1.e0, p1.e1, p1.e2, p1.e3] : List Int)[Int.toNat x31]?) fun x51 => gd ((0 : Int) ≤ x31 ∧ x31 < 4) <| bd (([p2.e0, p2.e1, p2.e2, p2.e3] : List Int)[Int.toNat x31]?) fun x53 => lt (wr .u64 (x51 + x53)) fun x54 => jn (fun (x57 : Int) => lt (wr .u64 (x54 + x30)) fun x65 => jn (fun (x66 : Int) => gd ((0 : Int) ≤ x31 ∧ x31 < 4) <| ls4 (List.set ([x26, x27, x28, x29] : List Int) (Int.toNat x31) x65) fun y73 y74 y75 y76 => K49 y73 y74 y75 y76 x66) fun K68 => lt (decide (x65 < x54)) fun c69 => br c69 (K68 1) (K68 x57)) fun K59 => gd ((0 : Int) ≤ x31 ∧ x31 < 4) <| bd (([p1.e0, p1.e1, p1.e2, p1.e3] : List Int)[Int.toNat x31]?) fun x61 => lt (decide (x54 < x61)) fun c62 => br c62 (K59 1) (K59 0)) (K25 x26 x27 x28 x29 x30)
def g_tarnref1_Add (fuel : Nat) (p1 : TU256) (p2 : TU256) : Option (TU256 × Bool) :=
  jn (fun (x19 : Int) (x20 : Int) (x21 : Int) (x22 : Int) (x23 : Int) => lt (decide (x23 > 0)) fun c87 => br c87 (some (TU256.mk 0 0 0 0, false)) (some (TU256.mk x19 x20 x21 x22, true))) fun K25 => g_tarnref1_Add_l1 p1 p2 K25 fuel fuel 0 0 0 0 0 0
theorem g_tarnref1_Add_w (fuel : Nat) (p1 : TU256) (p2 : TU256) (r : TU256 × Bool) (h : g_tarnref1_Add fuel p1 p2 = some r) (w0 : World) :
 Ret Tryz.prog 85 #[TU256.val p1, TU256.val p2] w0 (fun v w' => v = .tuple #[TU256.val r.1, vb r.2] ∧ St no w0 w' []) := by
 unfold g_tarnref1_Add at h
 refine ret_of_wpS Tryz.func85 rfl 42 rfl [(0,TU256.val p1),(1,TU256.val p2)] (by kernel_rfl) (fun G=>?_)
 have H0:=St.start w0
 refine zsg ?_
 refine zo (obx H0 (TU256.cs p1).toArray 24 (fun b3 w5 H6=>?_))
 refine zn ?_
 refine zo (obx H6 (TU256.cs p2).toArray 24 (fun b7 w9 H10=>?_))
 clear H6
 refine zn ?_
 refine zo (oal H10 #[vu 0,vu 0,vu 0,vu 0] 24 (fun b11 w13 H14=>?_))
 clear H10
 refine zn ?_
 refine zrd 1 4 [(5,vb false)] ?_
 refine zsg ?_
 refine zo (oal H14 #[vu 0,vu 0,vu 0,vu 0] 24 (fun b15 w17 H18=>?_))
 clear H14
 refine zn ?_
 refine zdn ?_
 refine zsg ?_
 refine zrd 1 1 [(7,vu 0)] ?_
 refine zs ?_
 refine zsg ?_
 refine zrd 1 1 [(8,vi 0)] ?_
 obtain ⟨K25,hK25,h⟩:=js h
 refine WP.blockJ (fun a w=>∃ (x19 : Int) (x20 : Int) (x21 : Int) (x22 : Int) (x23 : Int),Y 42 [(4,vp b11 0),(6,vp b15 0),(7,vu x23)] [] no w0 [Box b15 #[vu x19,vu x20,vu x21,vu x22] 24,Box b11 #[vu 0,vu 0,vu 0,vu 0] 24,Box b7 (TU256.cs p2).toArray 24,Box b3 (TU256.cs p1).toArray 24] (K25 x19 x20 x21 x22 x23 = some r) a w) ?_ ?_
 ·refine WP.loop (fun n a w=>∃ (x26 : Int) (x27 : Int) (x28 : Int) (x29 : Int) (x30 : Int) (x31 : Int),Y 42 [(2,vp b3 0),(3,vp b7 0),(4,vp b11 0),(6,vp b15 0),(7,vu x30),(8,vi x31)] [] no w0 [Box b15 #[vu x26,vu x27,vu x28,vu x29] 24,Box b11 #[vu 0,vu 0,vu 0,vu 0] 24,Box b7 (TU256.cs p2).toArray 24,Box b3 (TU256.cs p1).toArray 24] (g_tarnref1_Add_l1 p1 p2 K25 fuel n x26 x27 x28 x29 x30 x31 = some r) a w) fuel ⟨0,0,0,0,0,0,yy H18 [0,1,2,3] h⟩ ?_
  intro n a w hq
  refine Exists.elim hq fun x26 hq=>Exists.elim hq fun x27 hq=>Exists.elim hq fun x28 hq=>Exists.elim hq fun x29 hq=>Exists.elim hq fun x30 hq=>Exists.elim hq fun x31 hq=>Exists.elim hq fun G32 hq=>?_
  obtain ⟨rfl,H,h⟩:=hq
  obtain _ | n:=n
  ·rw [g_tarnref1_Add_l1] at h; cases h
  rw [g_tarnref1_Add_l1] at h
  obtain ⟨w33,rfl⟩ : ∃ x,x = w:=⟨_,rfl⟩
  have H34:=H; clear H
  refine zs ?_
  refine zsg ?_
  obtain ⟨c35,e,h⟩:=ls h
  refine zed 2 2 [(13,vb c35),(12,vi x31)] ?_
  cases c35
  ·replace h:=bf h
   refine zF ?_
   refine WP.exit ?_
   exact then_e (then_e (inb_e (then_n ⟨x26,x27,x28,x29,x30,yy H34 [0,1,2,3] h⟩)))
  replace h:=bt h
  refine zTn ?_
  obtain ⟨K42,hK42,h⟩:=js h
  refine WP.seqJ (fun a w=>∃ (x36 : Int) (x37 : Int) (x38 : Int) (x39 : Int) (x40 : Int),Y 42 [(2,vp b3 0),(3,vp b7 0),(4,vp b11 0),(6,vp b15 0),(7,vu x40),(8,vi x31)] [] no w0 [Box b15 #[vu x36,vu x37,vu x38,vu x39] 24,Box b11 #[vu 0,vu 0,vu 0,vu 0] 24,Box b7 (TU256.cs p2).toArray 24,Box b3 (TU256.cs p1).toArray 24] (K42 x36 x37 x38 x39 x40 = some r) a w) ?_ ?_
  ·obtain ⟨K49,hK49,h⟩:=js h
   refine WP.blockJ (fun a w=>∃ (x43 : Int) (x44 : Int) (x45 : Int) (x46 : Int) (x47 : Int),Y 42 [(2,vp b3 0),(3,vp b7 0),(4,vp b11 0),(6,vp b15 0),(7,vu x47),(8,vi x31)] [] no w0 [Box b15 #[vu x43,vu x44,vu x45,vu x46] 24,Box b11 #[vu 0,vu 0,vu 0,vu 0] 24,Box b7 (TU256.cs p2).toArray 24,Box b3 (TU256.cs p1).toArray 24] (K49 x43 x44 x45 x46 x47 = some r) a w) ?_ ?_
   ·refine zs ?_
    refine WP.quiet (by kernel_rfl) (by kernel_rfl) (by kernel_rfl) (fun w=>St no w0 w [Box b15 #[vu x26,vu x27,vu x28,vu x29] 24,Box b11 #[vu 0,vu 0,vu 0,vu 0] 24,Box b7 (TU256.cs p2).toArray 24,Box b3 (TU256.cs p1).toArray 24]) (St.drew H34) ?_
    obtain ⟨hg50,h⟩:=gs h
    refine qr 1 1 [(16,vi x31)] ?_
    refine qv (va (((⟨b3,0,none⟩ : Addr).add 0).add (Int.toNat x31 * 1))) (fun w H=>lla ((⟨b3,0,none⟩ : Addr).add 0) 4 22 1 .i64 x31 hg50) ?_
    obtain ⟨x51,hx51,h⟩:=bs h
    refine qv (vu x51) (fun w H=>lld 0 (CellsAt.elem fU64 (St.boxAt H 3 rfl) 0 [p1.e0,p1.e1,p1.e2,p1.e3] [] (by kernel_rfl) _ _ hx51) (le_self _)) ?_
    obtain ⟨hg52,h⟩:=gs h
    refine qr 1 4 [(19,vi x31)] ?_
    refine qv (va (((⟨b7,0,none⟩ : Addr).add 0).add (Int.toNat x31 * 1))) (fun w H=>lla ((⟨b7,0,none⟩ : Addr).add 0) 4 22 1 .i64 x31 hg52) ?_
    obtain ⟨x53,hx53,h⟩:=bs h
    refine qv (vu x53) (fun w H=>lld 0 (CellsAt.elem fU64 (St.boxAt H 2 rfl) 0 [p2.e0,p2.e1,p2.e2,p2.e3] [] (by kernel_rfl) _ _ hx53) (le_self _)) ?_
    obtain ⟨x54,e,h⟩:=ls h
    refine qe 2 8 [(9,vu x54),(22,vu x54)] ?_
    refine qd fun w55 H56=>?_
    refine then_n ?_
    refine zsg ?_
    refine zrd 1 1 [(10,vu 0)] ?_
    obtain ⟨K59,hK59,h⟩:=js h
    refine WP.seqJ (fun a w=>∃ (x57 : Int),Y 42 [(2,vp b3 0),(3,vp b7 0),(4,vp b11 0),(6,vp b15 0),(7,vu x30),(8,vi x31),(9,vu x54),(10,vu x57)] [] no w0 [Box b15 #[vu x26,vu x27,vu x28,vu x29] 24,Box b11 #[vu 0,vu 0,vu 0,vu 0] 24,Box b7 (TU256.cs p2).toArray 24,Box b3 (TU256.cs p1).toArray 24] (K59 x57 = some r) a w) ?_ ?_
    ·refine zsg ?_
     obtain ⟨hg60,h⟩:=gs h
     refine zr 2 2 [(24,vi x31),(23,vu x54)] ?_
     refine zv (va (((⟨b3,0,none⟩ : Addr).add 0).add (Int.toNat x31 * 1))) (lla ((⟨b3,0,none⟩ : Addr).add 0) 4 22 1 .i64 x31 hg60) ?_
     obtain ⟨x61,hx61,h⟩:=bs h
     refine zv (vu x61) (lld 0 (CellsAt.elem fU64 (St.boxAt H56 3 rfl) 0 [p1.e0,p1.e1,p1.e2,p1.e3] [] (by kernel_rfl) _ _ hx61) (le_self _)) ?_
     obtain ⟨c62,e,h⟩:=ls h
     refine zed 1 5 [(27,vb c62)] ?_
     cases c62
     ·replace h:=bf h
      refine zF ?_
      refine WP.skip ?_
      exact then_n ⟨0,yy H56 [0,1,2,3] h⟩
     replace h:=bt h
     refine zT ?_
     refine zg ?_
     refine zr 1 1 [(10,vu 1)] ?_
     refine zd ?_
     exact then_n ⟨1,yy H56 [0,1,2,3] h⟩
    rintro a w63 ⟨x57,G58,rfl,H64,h⟩
    subst hK59
    refine zsg ?_
    obtain ⟨x65,e,h⟩:=ls h
    refine zed 4 4 [(11,vu x65),(30,vu x65),(29,vu x30),(28,vu x54)] ?_
    obtain ⟨K68,hK68,h⟩:=js h
    refine WP.seqJ (fun a w=>∃ (x66 : Int),Y 42 [(2,vp b3 0),(3,vp b7 0),(4,vp b11 0),(6,vp b15 0),(8,vi x31),(10,vu x66),(11,vu x65)] [] no w0 [Box b15 #[vu x26,vu x27,vu x28,vu x29] 24,Box b11 #[vu 0,vu 0,vu 0,vu 0] 24,Box b7 (TU256.cs p2).toArray 24,Box b3 (TU256.cs p1).toArray 24] (K68 x66 = some r) a w) ?_ ?_
    ·refine zsg ?_
     obtain ⟨c69,e,h⟩:=ls h
     refine zed 3 3 [(33,vb c69),(32,vu x54),(31,vu x65)] ?_
     cases c69
     ·replace h:=bf h
      refine zF ?_
      refine WP.skip ?_
      exact then_n ⟨x57,yy H64 [0,1,2,3] h⟩
     replace h:=bt h
     refine zT ?_
     refine zg ?_
     refine zr 1 1 [(10,vu 1)] ?_
     refine zd ?_
     exact then_n ⟨1,yy H64 [0,1,2,3] h⟩
    rintro a w70 ⟨x66,G67,rfl,H71,h⟩
    subst hK68
    refine zg ?_
    obtain ⟨hg72,h⟩:=gs h
    refine zr 3 3 [(36,vu x66),(35,vu x65),(34,vi x31)] ?_
    refine zv (va (((⟨b15,0,none⟩ : Addr).add 0).add (Int.toNat x31 * 1))) (lla ((⟨b15,0,none⟩ : Addr).add 0) 4 22 1 .i64 x31 hg72) ?_
    obtain ⟨y73,y74,y75,y76,hy77,h⟩:=ls4_some h
    refine WPI.op rfl (Op1.storeBoxI fU64 H71 0 rfl (by kernel_rfl) 22 (.tmp 37) (.tmp 35) 0 ([x26,x27,x28,x29] : List Int) [] [] (Int.toNat x31) x65 false rfl (by kernel_rfl) (by kernel_rfl) (by kernel_rfl) (by kernel_rfl) (by kernel_rfl) (idx_lt (n:=4) hg72) [y73,y74,y75,y76] hy77 #[vu y73,vu y74,vu y75,vu y76] (by kernel_rfl) (fun w78 H79=>?_))
    clear H71
    refine z0 ?_
    refine zr 1 6 [(7,vu x66)] ?_
    refine zd ?_
    exact inb_n (then_n ⟨y73,y74,y75,y76,x66,yy H79 [0,1,2,3] h⟩)
   intro a w hq
   refine Exists.elim hq fun x43 hq=>Exists.elim hq fun x44 hq=>Exists.elim hq fun x45 hq=>Exists.elim hq fun x46 hq=>Exists.elim hq fun x47 hq=>Exists.elim hq fun G48 hq=>?_
   obtain ⟨rfl,H,h⟩:=hq
   subst hK49
   obtain ⟨w80,rfl⟩ : ∃ x,x = w:=⟨_,rfl⟩
   have H81:=H; clear H
   exact then_n ⟨x43,x44,x45,x46,x47,yy H81 [0,1,2,3] h⟩
  intro a w hq
  refine Exists.elim hq fun x36 hq=>Exists.elim hq fun x37 hq=>Exists.elim hq fun x38 hq=>Exists.elim hq fun x39 hq=>Exists.elim hq fun x40 hq=>Exists.elim hq fun G41 hq=>?_
  obtain ⟨rfl,H,h⟩:=hq
  subst hK42
  obtain ⟨w82,rfl⟩ : ∃ x,x = w:=⟨_,rfl⟩
  have H83:=H; clear H
  refine zg ?_
  obtain ⟨x84,e,h⟩:=ls h
  refine ze 3 3 [(8,vi x84),(15,vi x84),(14,vi x31)] ?_
  refine zd ?_
  exact then_n ⟨n,lS n,x36,x37,x38,x39,x40,x84,yy H83 [0,1,2,3] h⟩
 intro a w hq
 refine Exists.elim hq fun x19 hq=>Exists.elim hq fun x20 hq=>Exists.elim hq fun x21 hq=>Exists.elim hq fun x22 hq=>Exists.elim hq fun x23 hq=>Exists.elim hq fun G24 hq=>?_
 obtain ⟨rfl,H,h⟩:=hq
 subst hK25
 obtain ⟨w85,rfl⟩ : ∃ x,x = w:=⟨_,rfl⟩
 have H86:=H; clear H
 refine then_n ?_
 refine zs ?_
 refine zsg ?_
 obtain ⟨c87,e,h⟩:=ls h
 refine zed 2 2 [(39,vb c87),(38,vu x23)] ?_
 cases c87
 rotate_left
 ·replace h:=bt h
  refine zT ?_
  refine zsg ?_
  refine zr 1 1 [(40,.agg #[vu 0,vu 0,vu 0,vu 0])] ?_
  refine zo (osb H86 1 0 (.agg #[vu 0,vu 0,vu 0,vu 0]) #[vu 0,vu 0,vu 0,vu 0] true (flat_one1 fTU256 (TU256.mk 0 0 0 0)) (fun w90 H91=>?_))
  clear H86
  refine z0 ?_
  refine zrd 1 3 [(5,vb false)] ?_
  refine WP.ret ?_
  obtain rfl:=oi h
  exact then_r (post_r (.tuple #[.agg #[vu 0,vu 0,vu 0,vu 0],vb false]) rfl (results_cell_tmp rfl (by kernel_rfl) (by kernel_rfl) (run_loadAt (ad:=(⟨b11,0,none⟩ : Addr)) (off:=0) (St.boxAt H91 0 rfl) (le_self _) (by kernel_rfl))) ⟨rfl,sl H91 []⟩)
 replace h:=bf h
 refine zFn ?_
 refine zsg ?_
 refine zv (.agg #[vu x19,vu x20,vu x21,vu x22]) (llb H86 0 0) ?_
 refine zo (osb H86 1 0 (.agg #[vu x19,vu x20,vu x21,vu x22]) #[vu x19,vu x20,vu x21,vu x22] true (flat_one1 fTU256 (TU256.mk x19 x20 x21 x22)) (fun w88 H89=>?_))
 clear H86
 refine z0 ?_
 refine zrd 1 3 [(5,vb true)] ?_
 refine WP.ret ?_
 obtain rfl:=oi h
 exact post_r (.tuple #[.agg #[vu x19,vu x20,vu x21,vu x22],vb true]) rfl (results_cell_tmp rfl (by kernel_rfl) (by kernel_rfl) (run_loadAt (ad:=(⟨b11,0,none⟩ : Addr)) (off:=0) (St.boxAt H89 0 rfl) (le_self _) (by kernel_rfl))) ⟨rfl,sl H89 []⟩
/- tarn/tarnref7.Cost -/
def g_tarnref7_Cost (fuel : Nat) (p1 : TTx) : Option (TU256 × Bool) :=
  jn (fun (x20 : TU256) (c21 : Bool) => jn (fun (x71 : TU256) (c72 : Bool) => jn (fun (c117 : Bool) => br c117 (some (TU256.mk 0 0 0 0, false)) (bd (g_tarnref1_Add fuel x20 x71) fun t124 => lt (!t124.2) fun c134 => br c134 (some (TU256.mk 0 0 0 0, false)) (bd (g_tarnref1_Add fuel t124.1 p1.Value_) fun t135 => some (t135.1, t135.2)))) fun K119 => lt (!c21) fun c120 => br c120 (K119 true) (lt (!c72) fun c121 => K119 c121)) fun K74 => lt (wr .i64 (131072 * (((List.length p1.Blobs : Nat) : Int)))) fun x76 => bd (g_tarnref1_Of fuel x76) fun t77 => bd (g_tarnref1_Mul fuel p1.BlobCap t77) fun t81 => K74 t81.1 t81.2) fun K23 => bd (g_tarnref1_Of fuel p1.Gas) fun t25 => bd (g_tarnref1_Mul fuel p1.Cap t25) fun t29 => K23 t29.1 t29.2
theorem g_tarnref7_Cost_w (fuel : Nat) (s2 s4 : Value) (p1 : TTx) (r : TU256 × Bool) (h : g_tarnref7_Cost fuel p1 = some r) (w0 : World) (hs3 : Rd fU64 (hp no w0) s2 p1.Hashes) (hs5 : Rd fStr (hp no w0) s4 p1.Blobs) :
 Ret Tryz.prog 82 #[(gTx p1 s2 s4)] w0 (fun v w' => v = .tuple #[TU256.val r.1, vb r.2] ∧ St no w0 w' []) := by
 unfold g_tarnref7_Cost at h
 refine ret_of_wpS Tryz.func82 rfl 52 rfl [(0,(gTx p1 s2 s4))] (by kernel_rfl) (fun G=>?_)
 have H0:=St.start w0
 refine zsg ?_
 refine zo (obx H0 #[vi p1.From,vi p1.Nonce,vu p1.Tip.e0,vu p1.Tip.e1,vu p1.Tip.e2,vu p1.Tip.e3,vu p1.Cap.e0,vu p1.Cap.e1,vu p1.Cap.e2,vu p1.Cap.e3,vu p1.BlobCap.e0,vu p1.BlobCap.e1,vu p1.BlobCap.e2,vu p1.BlobCap.e3,vu p1.Value_.e0,vu p1.Value_.e1,vu p1.Value_.e2,vu p1.Value_.e3,vi p1.Gas,s2,s4] 44 (fun b6 w8 H9=>?_))
 refine zn ?_
 refine zo (oal H9 #[vu 0,vu 0,vu 0,vu 0] 24 (fun b10 w12 H13=>?_))
 clear H9
 refine zn ?_
 refine zrd 1 3 [(3,vb false)] ?_
 refine zs ?_
 obtain ⟨K23,hK23,h⟩:=js h
 refine WP.drawI (by kernel_rfl) (by kernel_rfl) (fun w=>St no w0 w [Box b10 #[vu 0,vu 0,vu 0,vu 0] 24,Box b6 #[vi p1.From,vi p1.Nonce,vu p1.Tip.e0,vu p1.Tip.e1,vu p1.Tip.e2,vu p1.Tip.e3,vu p1.Cap.e0,vu p1.Cap.e1,vu p1.Cap.e2,vu p1.Cap.e3,vu p1.BlobCap.e0,vu p1.BlobCap.e1,vu p1.BlobCap.e2,vu p1.BlobCap.e3,vu p1.Value_.e0,vu p1.Value_.e1,vu p1.Value_.e2,vu p1.Value_.e3,vi p1.Gas,s2,s4] 44]) [10] (fun w=>St no w0 w [Box b10 #[vu 0,vu 0,vu 0,vu 0] 24,Box b6 #[vi p1.From,vi p1.Nonce,vu p1.Tip.e0,vu p1.Tip.e1,vu p1.Tip.e2,vu p1.Tip.e3,vu p1.Cap.e0,vu p1.Cap.e1,vu p1.Cap.e2,vu p1.Cap.e3,vu p1.BlobCap.e0,vu p1.BlobCap.e1,vu p1.BlobCap.e2,vu p1.BlobCap.e3,vu p1.Value_.e0,vu p1.Value_.e1,vu p1.Value_.e2,vu p1.Value_.e3,vi p1.Gas,s2,s4] 44]) (fun a w=>∃ (x20 : TU256) (c21 : Bool) (b14 : Nat),Y 52 [(1,vp b6 0),(2,vp b10 0),(4,vp b14 0),(5,vb c21)] [] no w0 [Box b10 #[vu 0,vu 0,vu 0,vu 0] 24,Box b6 #[vi p1.From,vi p1.Nonce,vu p1.Tip.e0,vu p1.Tip.e1,vu p1.Tip.e2,vu p1.Tip.e3,vu p1.Cap.e0,vu p1.Cap.e1,vu p1.Cap.e2,vu p1.Cap.e3,vu p1.BlobCap.e0,vu p1.BlobCap.e1,vu p1.BlobCap.e2,vu p1.BlobCap.e3,vu p1.Value_.e0,vu p1.Value_.e1,vu p1.Value_.e2,vu p1.Value_.e3,vi p1.Gas,s2,s4] 44,Box b14 (TU256.cs x20).toArray 24] (K23 x20 c21 = some r) a w) 12 #[F,F,F,F,F,F,F,F,F,F,F,F] (by kernel_rfl) (by kernel_rfl) ?_ ?_
 ·have H24:=St.drew H13
  refine WI.runS [0] 11 _ #[T,F,F,F,F,F,F,F,F,F,F,F] [(11,vp b6 6)] rfl (fun K=>by kernel_rfl) ?_
  refine WI.takeS 1 (TU256.val p1.Cap) 12 rfl rfl (by kernel_rfl) (by kernel_rfl) (fun w H=>ev_loadBox H 1 rfl 24 (.tmp 11) 6 (TU256.val p1.Cap) rfl (by kernel_rfl) (by kernel_rfl)) (li':=#[T,T,F,F,F,F,F,F,F,F,F,F]) (by kernel_rfl) ?_
  refine WI.runS [2] 9 _ #[T,T,T,F,F,F,F,F,F,F,F,F] [(13,vp b6 18)] rfl (fun K=>by kernel_rfl) ?_
  refine WI.takeS 3 (vi p1.Gas) 14 rfl rfl (by kernel_rfl) (by kernel_rfl) (fun w H=>ev_loadBox H 1 rfl 3 (.tmp 13) 18 (vi p1.Gas) rfl (by kernel_rfl) (by kernel_rfl)) (li':=#[T,T,T,T,F,F,F,F,F,F,F,F]) (by kernel_rfl) ?_
  refine WI.any [4,9] (by kernel_rfl) (by simp) (nod (sl H24 [0,1]) (sl H24 [0,1])) ?_
  simp only [List.mem_cons,List.not_mem_nil,or_false,forall_eq_or_imp,forall_eq]
  refine ⟨⟨_,rfl,?_⟩,⟨_,rfl,?_⟩⟩
  ·obtain ⟨t25,ht25,h⟩:=bs h
   refine id (Op1.call (by kernel_rfl) (by kernel_rfl) (g_tarnref1_Of_w fuel p1.Gas t25 ht25 _) ?_)
   rintro _ w26 ⟨rfl,Hc27⟩
   have H28:=St.call0' H24 Hc27
   clear H24 Hc27
   refine WI.nS 15 #[T,T,T,T,T,F,F,F,F,F,F,F] (by kernel_rfl) rfl ?_
   refine WI.any [5,9] (by kernel_rfl) (by simp) (nod (sl H28 [0,1]) (sl H28 [0,1])) ?_
   simp only [List.mem_cons,List.not_mem_nil,or_false,forall_eq_or_imp,forall_eq]
   refine ⟨⟨_,rfl,?_⟩,⟨_,rfl,?_⟩⟩
   ·obtain ⟨t29,ht29,h⟩:=bs h
    refine id (Op1.call (by kernel_rfl) (by kernel_rfl) (g_tarnref1_Mul_w fuel p1.Cap t25 t29 ht29 _) ?_)
    rintro _ w30 ⟨rfl,Hc31⟩
    have H32:=St.call0' H28 Hc31
    clear H28 Hc31
    refine WI.nS 16 #[T,T,T,T,T,T,F,F,F,F,F,F] (by kernel_rfl) rfl ?_
    refine WI.runS [6,7,8] 3 _ #[T,T,T,T,T,T,T,T,T,F,F,F] [(18,vb t29.2),(17,TU256.val t29.1),(10,.tuple #[TU256.val t29.1,vb t29.2])] rfl (fun K=>by kernel_rfl) ?_
    refine WI.one 9 (by kernel_rfl) (nod (sl H32 [0,1]) (sl H32 [0,1])) rfl (Op1.alloc H32 #[vu 0,vu 0,vu 0,vu 0] (by kernel_rfl) 24 rfl (by kernel_rfl) (fun b33 w35 H36=>?_))
    clear H32
    refine WI.nS 4 #[T,T,T,T,T,T,T,T,T,T,F,F] (by kernel_rfl) rfl ?_
    refine WI.one 10 (by kernel_rfl) (nod (sl H36 [1,2]) (sl H36 [1,2])) rfl (Op1.storeBox H36 0 rfl (by kernel_rfl) 24 (.tmp 4) (.tmp 17) 0 (TU256.val t29.1) (TU256.cs t29.1).toArray true rfl (by kernel_rfl) (by kernel_rfl) (by kernel_rfl) (by kernel_rfl) (by kernel_rfl) (flat_one1 fTU256 t29.1) (fun w37 H38=>?_))
    clear H36
    refine WI.nS0 #[T,T,T,T,T,T,T,T,T,T,T,F] (by kernel_rfl) rfl ?_
    refine WI.runS [11] 0 _ #[T,T,T,T,T,T,T,T,T,T,T,T] [(5,vb t29.2)] rfl (fun K=>by kernel_rfl) ?_
    refine WI.done (by kernel_rfl) (nod0 (sl H38 [1,2]) 10 (by decide) (by kernel_rfl)) ?_
    exact ⟨t29.1,t29.2,b33,yy H38 [1,2,0] h⟩
   refine id (Op1.alloc H28 #[vu 0,vu 0,vu 0,vu 0] (by kernel_rfl) 24 rfl (by kernel_rfl) (fun b39 w41 H42=>?_))
   clear H28
   refine WI.nS 4 #[T,T,T,T,T,F,F,F,F,T,F,F] (by kernel_rfl) rfl ?_
   obtain ⟨t43,ht43,h⟩:=bs h
   refine WI.one 5 (by kernel_rfl) (nod (sl H42 [1,2]) (sl H42 [1,2])) rfl (Op1.call (by kernel_rfl) (by kernel_rfl) (g_tarnref1_Mul_w fuel p1.Cap t25 t43 ht43 _) ?_)
   rintro _ w44 ⟨rfl,Hc45⟩
   have H46:=St.call0' H42 Hc45
   clear H42 Hc45
   refine WI.nS 16 #[T,T,T,T,T,T,F,F,F,T,F,F] (by kernel_rfl) rfl ?_
   refine WI.runS [6,7,8] 2 _ #[T,T,T,T,T,T,T,T,T,T,F,F] [(18,vb t43.2),(17,TU256.val t43.1),(10,.tuple #[TU256.val t43.1,vb t43.2])] rfl (fun K=>by kernel_rfl) ?_
   refine WI.one 10 (by kernel_rfl) (nod (sl H46 [1,2]) (sl H46 [1,2])) rfl (Op1.storeBox H46 0 rfl (by kernel_rfl) 24 (.tmp 4) (.tmp 17) 0 (TU256.val t43.1) (TU256.cs t43.1).toArray true rfl (by kernel_rfl) (by kernel_rfl) (by kernel_rfl) (by kernel_rfl) (by kernel_rfl) (flat_one1 fTU256 t43.1) (fun w47 H48=>?_))
   clear H46
   refine WI.nS0 #[T,T,T,T,T,T,T,T,T,T,T,F] (by kernel_rfl) rfl ?_
   refine WI.runS [11] 0 _ #[T,T,T,T,T,T,T,T,T,T,T,T] [(5,vb t43.2)] rfl (fun K=>by kernel_rfl) ?_
   refine WI.done (by kernel_rfl) (nod0 (sl H48 [1,2]) 10 (by decide) (by kernel_rfl)) ?_
   exact ⟨t43.1,t43.2,b39,yy H48 [1,2,0] h⟩
  refine id (Op1.alloc H24 #[vu 0,vu 0,vu 0,vu 0] (by kernel_rfl) 24 rfl (by kernel_rfl) (fun b49 w51 H52=>?_))
  clear H24
  refine WI.nS 4 #[T,T,T,T,F,F,F,F,F,T,F,F] (by kernel_rfl) rfl ?_
  obtain ⟨t53,ht53,h⟩:=bs h
  refine WI.one 4 (by kernel_rfl) (nod (sl H52 [1,2]) (sl H52 [1,2])) rfl (Op1.call (by kernel_rfl) (by kernel_rfl) (g_tarnref1_Of_w fuel p1.Gas t53 ht53 _) ?_)
  rintro _ w54 ⟨rfl,Hc55⟩
  have H56:=St.call0' H52 Hc55
  clear H52 Hc55
  refine WI.nS 15 #[T,T,T,T,T,F,F,F,F,T,F,F] (by kernel_rfl) rfl ?_
  obtain ⟨t57,ht57,h⟩:=bs h
  refine WI.one 5 (by kernel_rfl) (nod (sl H56 [1,2]) (sl H56 [1,2])) rfl (Op1.call (by kernel_rfl) (by kernel_rfl) (g_tarnref1_Mul_w fuel p1.Cap t53 t57 ht57 _) ?_)
  rintro _ w58 ⟨rfl,Hc59⟩
  have H60:=St.call0' H56 Hc59
  clear H56 Hc59
  refine WI.nS 16 #[T,T,T,T,T,T,F,F,F,T,F,F] (by kernel_rfl) rfl ?_
  refine WI.runS [6,7,8] 2 _ #[T,T,T,T,T,T,T,T,T,T,F,F] [(18,vb t57.2),(17,TU256.val t57.1),(10,.tuple #[TU256.val t57.1,vb t57.2])] rfl (fun K=>by kernel_rfl) ?_
  refine WI.one 10 (by kernel_rfl) (nod (sl H60 [1,2]) (sl H60 [1,2])) rfl (Op1.storeBox H60 0 rfl (by kernel_rfl) 24 (.tmp 4) (.tmp 17) 0 (TU256.val t57.1) (TU256.cs t57.1).toArray true rfl (by kernel_rfl) (by kernel_rfl) (by kernel_rfl) (by kernel_rfl) (by kernel_rfl) (flat_one1 fTU256 t57.1) (fun w61 H62=>?_))
  clear H60
  refine WI.nS0 #[T,T,T,T,T,T,T,T,T,T,T,F] (by kernel_rfl) rfl ?_
  refine WI.runS [11] 0 _ #[T,T,T,T,T,T,T,T,T,T,T,T] [(5,vb t57.2)] rfl (fun K=>by kernel_rfl) ?_
  refine WI.done (by kernel_rfl) (nod0 (sl H62 [1,2]) 10 (by decide) (by kernel_rfl)) ?_
  exact ⟨t57.1,t57.2,b49,yy H62 [1,2,0] h⟩
 rintro a w63 ⟨x20,c21,b14,G22,rfl,H64,h⟩
 subst hK23
 refine then_n ?_
 refine zs ?_
 obtain ⟨K74,hK74,h⟩:=js h
 refine WP.drawI (by kernel_rfl) (by kernel_rfl) (fun w=>St no w0 w [Box b10 #[vu 0,vu 0,vu 0,vu 0] 24,Box b6 #[vi p1.From,vi p1.Nonce,vu p1.Tip.e0,vu p1.Tip.e1,vu p1.Tip.e2,vu p1.Tip.e3,vu p1.Cap.e0,vu p1.Cap.e1,vu p1.Cap.e2,vu p1.Cap.e3,vu p1.BlobCap.e0,vu p1.BlobCap.e1,vu p1.BlobCap.e2,vu p1.BlobCap.e3,vu p1.Value_.e0,vu p1.Value_.e1,vu p1.Value_.e2,vu p1.Value_.e3,vi p1.Gas,s2,s4] 44,Box b14 (TU256.cs x20).toArray 24]) [12] (fun w=>St no w0 w [Box b10 #[vu 0,vu 0,vu 0,vu 0] 24,Box b6 #[vi p1.From,vi p1.Nonce,vu p1.Tip.e0,vu p1.Tip.e1,vu p1.Tip.e2,vu p1.Tip.e3,vu p1.Cap.e0,vu p1.Cap.e1,vu p1.Cap.e2,vu p1.Cap.e3,vu p1.BlobCap.e0,vu p1.BlobCap.e1,vu p1.BlobCap.e2,vu p1.BlobCap.e3,vu p1.Value_.e0,vu p1.Value_.e1,vu p1.Value_.e2,vu p1.Value_.e3,vi p1.Gas,s2,s4] 44,Box b14 (TU256.cs x20).toArray 24]) (fun a w=>∃ (x71 : TU256) (c72 : Bool) (b65 : Nat),Y 52 [(1,vp b6 0),(2,vp b10 0),(4,vp b14 0),(5,vb c21),(6,vp b65 0),(7,vb c72)] [] no w0 [Box b10 #[vu 0,vu 0,vu 0,vu 0] 24,Box b6 #[vi p1.From,vi p1.Nonce,vu p1.Tip.e0,vu p1.Tip.e1,vu p1.Tip.e2,vu p1.Tip.e3,vu p1.Cap.e0,vu p1.Cap.e1,vu p1.Cap.e2,vu p1.Cap.e3,vu p1.BlobCap.e0,vu p1.BlobCap.e1,vu p1.BlobCap.e2,vu p1.BlobCap.e3,vu p1.Value_.e0,vu p1.Value_.e1,vu p1.Value_.e2,vu p1.Value_.e3,vi p1.Gas,s2,s4] 44,Box b14 (TU256.cs x20).toArray 24,Box b65 (TU256.cs x71).toArray 24] (K74 x71 c72 = some r) a w) 14 #[F,F,F,F,F,F,F,F,F,F,F,F,F,F] (by kernel_rfl) (by kernel_rfl) ?_ ?_
 ·have H75:=St.drew H64
  refine WI.runS [0] 13 _ #[T,F,F,F,F,F,F,F,F,F,F,F,F,F] [(20,vp b6 10)] rfl (fun K=>by kernel_rfl) ?_
  refine WI.takeS 1 (TU256.val p1.BlobCap) 21 rfl rfl (by kernel_rfl) (by kernel_rfl) (fun w H=>ev_loadBox H 1 rfl 24 (.tmp 20) 10 (TU256.val p1.BlobCap) rfl (by kernel_rfl) (by kernel_rfl)) (li':=#[T,T,F,F,F,F,F,F,F,F,F,F,F,F]) (by kernel_rfl) ?_
  refine WI.runS [2] 11 _ #[T,T,T,F,F,F,F,F,F,F,F,F,F,F] [(22,vp b6 20)] rfl (fun K=>by kernel_rfl) ?_
  refine WI.takeS 3 (s4) 23 rfl rfl (by kernel_rfl) (by kernel_rfl) (fun w H=>ev_loadBox H 1 rfl 42 (.tmp 22) 20 (s4) rfl (by kernel_rfl) (by kernel_rfl)) (li':=#[T,T,T,T,F,F,F,F,F,F,F,F,F,F]) (by kernel_rfl) ?_
  refine WI.takeS 4 (vi (((List.length p1.Blobs : Nat) : Int))) 24 rfl rfl (by kernel_rfl) (by kernel_rfl) (fun w H=>ev_len (Rd.sl hs5) 42 (.tmp 23) 9 1 16 rfl (by kernel_rfl) (by kernel_rfl)) (li':=#[T,T,T,T,T,F,F,F,F,F,F,F,F,F]) (by kernel_rfl) ?_
  obtain ⟨x76,hx76,h⟩:=ls h
  refine WI.runS [5] 8 _ #[T,T,T,T,T,T,F,F,F,F,F,F,F,F] [(25,vi x76)] rfl (fun K=>by subst hx76; kernel_rfl) ?_
  refine WI.any [6,11] (by kernel_rfl) (by simp) (nod (sl H75 [0,1,2]) (sl H75 [0,1,2])) ?_
  simp only [List.mem_cons,List.not_mem_nil,or_false,forall_eq_or_imp,forall_eq]
  refine ⟨⟨_,rfl,?_⟩,⟨_,rfl,?_⟩⟩
  ·obtain ⟨t77,ht77,h⟩:=bs h
   refine id (Op1.call (by kernel_rfl) (by kernel_rfl) (g_tarnref1_Of_w fuel x76 t77 ht77 _) ?_)
   rintro _ w78 ⟨rfl,Hc79⟩
   have H80:=St.call0' H75 Hc79
   clear H75 Hc79
   refine WI.nS 26 #[T,T,T,T,T,T,T,F,F,F,F,F,F,F] (by kernel_rfl) rfl ?_
   refine WI.any [7,11] (by kernel_rfl) (by simp) (nod (sl H80 [0,1,2]) (sl H80 [0,1,2])) ?_
   simp only [List.mem_cons,List.not_mem_nil,or_false,forall_eq_or_imp,forall_eq]
   refine ⟨⟨_,rfl,?_⟩,⟨_,rfl,?_⟩⟩
   ·obtain ⟨t81,ht81,h⟩:=bs h
    refine id (Op1.call (by kernel_rfl) (by kernel_rfl) (g_tarnref1_Mul_w fuel p1.BlobCap t77 t81 ht81 _) ?_)
    rintro _ w82 ⟨rfl,Hc83⟩
    have H84:=St.call0' H80 Hc83
    clear H80 Hc83
    refine WI.nS 27 #[T,T,T,T,T,T,T,T,F,F,F,F,F,F] (by kernel_rfl) rfl ?_
    refine WI.runS [8,9,10] 3 _ #[T,T,T,T,T,T,T,T,T,T,T,F,F,F] [(29,vb t81.2),(28,TU256.val t81.1),(19,.tuple #[TU256.val t81.1,vb t81.2])] rfl (fun K=>by kernel_rfl) ?_
    refine WI.one 11 (by kernel_rfl) (nod (sl H84 [0,1,2]) (sl H84 [0,1,2])) rfl (Op1.alloc H84 #[vu 0,vu 0,vu 0,vu 0] (by kernel_rfl) 24 rfl (by kernel_rfl) (fun b85 w87 H88=>?_))
    clear H84
    refine WI.nS 6 #[T,T,T,T,T,T,T,T,T,T,T,T,F,F] (by kernel_rfl) rfl ?_
    refine WI.one 12 (by kernel_rfl) (nod (sl H88 [1,2,3]) (sl H88 [1,2,3])) rfl (Op1.storeBox H88 0 rfl (by kernel_rfl) 24 (.tmp 6) (.tmp 28) 0 (TU256.val t81.1) (TU256.cs t81.1).toArray true rfl (by kernel_rfl) (by kernel_rfl) (by kernel_rfl) (by kernel_rfl) (by kernel_rfl) (flat_one1 fTU256 t81.1) (fun w89 H90=>?_))
    clear H88
    refine WI.nS0 #[T,T,T,T,T,T,T,T,T,T,T,T,T,F] (by kernel_rfl) rfl ?_
    refine WI.runS [13] 0 _ #[T,T,T,T,T,T,T,T,T,T,T,T,T,T] [(7,vb t81.2)] rfl (fun K=>by kernel_rfl) ?_
    refine WI.done (by kernel_rfl) (nod0 (sl H90 [1,2,3]) 12 (by decide) (by kernel_rfl)) ?_
    exact ⟨t81.1,t81.2,b85,yy H90 [1,2,3,0] h⟩
   refine id (Op1.alloc H80 #[vu 0,vu 0,vu 0,vu 0] (by kernel_rfl) 24 rfl (by kernel_rfl) (fun b91 w93 H94=>?_))
   clear H80
   refine WI.nS 6 #[T,T,T,T,T,T,T,F,F,F,F,T,F,F] (by kernel_rfl) rfl ?_
   obtain ⟨t95,ht95,h⟩:=bs h
   refine WI.one 7 (by kernel_rfl) (nod (sl H94 [1,2,3]) (sl H94 [1,2,3])) rfl (Op1.call (by kernel_rfl) (by kernel_rfl) (g_tarnref1_Mul_w fuel p1.BlobCap t77 t95 ht95 _) ?_)
   rintro _ w96 ⟨rfl,Hc97⟩
   have H98:=St.call0' H94 Hc97
   clear H94 Hc97
   refine WI.nS 27 #[T,T,T,T,T,T,T,T,F,F,F,T,F,F] (by kernel_rfl) rfl ?_
   refine WI.runS [8,9,10] 2 _ #[T,T,T,T,T,T,T,T,T,T,T,T,F,F] [(29,vb t95.2),(28,TU256.val t95.1),(19,.tuple #[TU256.val t95.1,vb t95.2])] rfl (fun K=>by kernel_rfl) ?_
   refine WI.one 12 (by kernel_rfl) (nod (sl H98 [1,2,3]) (sl H98 [1,2,3])) rfl (Op1.storeBox H98 0 rfl (by kernel_rfl) 24 (.tmp 6) (.tmp 28) 0 (TU256.val t95.1) (TU256.cs t95.1).toArray true rfl (by kernel_rfl) (by kernel_rfl) (by kernel_rfl) (by kernel_rfl) (by kernel_rfl) (flat_one1 fTU256 t95.1) (fun w99 H100=>?_))
   clear H98
   refine WI.nS0 #[T,T,T,T,T,T,T,T,T,T,T,T,T,F] (by kernel_rfl) rfl ?_
   refine WI.runS [13] 0 _ #[T,T,T,T,T,T,T,T,T,T,T,T,T,T] [(7,vb t95.2)] rfl (fun K=>by kernel_rfl) ?_
   refine WI.done (by kernel_rfl) (nod0 (sl H100 [1,2,3]) 12 (by decide) (by kernel_rfl)) ?_
   exact ⟨t95.1,t95.2,b91,yy H100 [1,2,3,0] h⟩
  refine id (Op1.alloc H75 #[vu 0,vu 0,vu 0,vu 0] (by kernel_rfl) 24 rfl (by kernel_rfl) (fun b101 w103 H104=>?_))
  clear H75
  refine WI.nS 6 #[T,T,T,T,T,T,F,F,F,F,F,T,F,F] (by kernel_rfl) rfl ?_
  obtain ⟨t105,ht105,h⟩:=bs h
  refine WI.one 6 (by kernel_rfl) (nod (sl H104 [1,2,3]) (sl H104 [1,2,3])) rfl (Op1.call (by kernel_rfl) (by kernel_rfl) (g_tarnref1_Of_w fuel x76 t105 ht105 _) ?_)
  rintro _ w106 ⟨rfl,Hc107⟩
  have H108:=St.call0' H104 Hc107
  clear H104 Hc107
  refine WI.nS 26 #[T,T,T,T,T,T,T,F,F,F,F,T,F,F] (by kernel_rfl) rfl ?_
  obtain ⟨t109,ht109,h⟩:=bs h
  refine WI.one 7 (by kernel_rfl) (nod (sl H108 [1,2,3]) (sl H108 [1,2,3])) rfl (Op1.call (by kernel_rfl) (by kernel_rfl) (g_tarnref1_Mul_w fuel p1.BlobCap t105 t109 ht109 _) ?_)
  rintro _ w110 ⟨rfl,Hc111⟩
  have H112:=St.call0' H108 Hc111
  clear H108 Hc111
  refine WI.nS 27 #[T,T,T,T,T,T,T,T,F,F,F,T,F,F] (by kernel_rfl) rfl ?_
  refine WI.runS [8,9,10] 2 _ #[T,T,T,T,T,T,T,T,T,T,T,T,F,F] [(29,vb t109.2),(28,TU256.val t109.1),(19,.tuple #[TU256.val t109.1,vb t109.2])] rfl (fun K=>by kernel_rfl) ?_
  refine WI.one 12 (by kernel_rfl) (nod (sl H112 [1,2,3]) (sl H112 [1,2,3])) rfl (Op1.storeBox H112 0 rfl (by kernel_rfl) 24 (.tmp 6) (.tmp 28) 0 (TU256.val t109.1) (TU256.cs t109.1).toArray true rfl (by kernel_rfl) (by kernel_rfl) (by kernel_rfl) (by kernel_rfl) (by kernel_rfl) (flat_one1 fTU256 t109.1) (fun w113 H114=>?_))
  clear H112
  refine WI.nS0 #[T,T,T,T,T,T,T,T,T,T,T,T,T,F] (by kernel_rfl) rfl ?_
  refine WI.runS [13] 0 _ #[T,T,T,T,T,T,T,T,T,T,T,T,T,T] [(7,vb t109.2)] rfl (fun K=>by kernel_rfl) ?_
  refine WI.done (by kernel_rfl) (nod0 (sl H114 [1,2,3]) 12 (by decide) (by kernel_rfl)) ?_
  exact ⟨t109.1,t109.2,b101,yy H114 [1,2,3,0] h⟩
 rintro a w115 ⟨x71,c72,b65,G73,rfl,H116,h⟩
 subst hK74
 refine then_n ?_
 refine zs ?_
 refine zs ?_
 obtain ⟨K119,hK119,h⟩:=js h
 refine WP.onlyN (fun a w=>∃ (c117 : Bool),Y 52 [(1,vp b6 0),(2,vp b10 0),(4,vp b14 0),(6,vp b65 0),(35,vb c117)] [] no w0 [Box b10 #[vu 0,vu 0,vu 0,vu 0] 24,Box b6 #[vi p1.From,vi p1.Nonce,vu p1.Tip.e0,vu p1.Tip.e1,vu p1.Tip.e2,vu p1.Tip.e3,vu p1.Cap.e0,vu p1.Cap.e1,vu p1.Cap.e2,vu p1.Cap.e3,vu p1.BlobCap.e0,vu p1.BlobCap.e1,vu p1.BlobCap.e2,vu p1.BlobCap.e3,vu p1.Value_.e0,vu p1.Value_.e1,vu p1.Value_.e2,vu p1.Value_.e3,vi p1.Gas,s2,s4] 44,Box b14 (TU256.cs x20).toArray 24,Box b65 (TU256.cs x71).toArray 24] (K119 c117 = some r) a w) ?_ ?_
 ·refine zg ?_
  obtain ⟨c120,e,h⟩:=ls h
  refine ze 3 3 [(32,vb c120),(31,vb c120),(30,vb c21)] ?_
  cases c120
  rotate_left
  ·replace h:=bt h
   refine zr 3 6 [(35,vb true),(34,Z),(33,Z)] ?_
   refine zd ?_
   exact ⟨true,yy H116 [0,1,2,3] h⟩
  replace h:=bf h
  obtain ⟨c121,e,h⟩:=ls h
  refine ze 3 6 [(35,vb c121),(34,vb c121),(33,vb c72)] ?_
  refine zd ?_
  exact ⟨c121,yy H116 [0,1,2,3] h⟩
 rintro a w122 ⟨c117,G118,rfl,H123,h⟩
 subst hK119
 refine then_n ?_
 cases c117
 rotate_left
 ·replace h:=bt h
  refine zT ?_
  refine zsg ?_
  refine zr 1 1 [(36,.agg #[vu 0,vu 0,vu 0,vu 0])] ?_
  refine zo (osb H123 0 0 (.agg #[vu 0,vu 0,vu 0,vu 0]) #[vu 0,vu 0,vu 0,vu 0] true (flat_one1 fTU256 (TU256.mk 0 0 0 0)) (fun w143 H144=>?_))
  clear H123
  refine z0 ?_
  refine zrd 1 3 [(3,vb false)] ?_
  refine WP.ret ?_
  obtain rfl:=oi h
  exact then_r (post_r (.tuple #[.agg #[vu 0,vu 0,vu 0,vu 0],vb false]) rfl (results_cell_tmp rfl (by kernel_rfl) (by kernel_rfl) (run_loadAt (ad:=(⟨b10,0,none⟩ : Addr)) (off:=0) (St.boxAt H144 0 rfl) (le_self _) (by kernel_rfl))) ⟨rfl,sl H144 []⟩)
 replace h:=bf h
 refine zFn ?_
 refine zsg ?_
 refine zv (TU256.val x20) (llb H123 2 0) ?_
 refine zv (TU256.val x71) (llb H123 3 0) ?_
 obtain ⟨t124,ht124,h⟩:=bs h
 refine zo (oca (g_tarnref1_Add_w fuel x20 x71 t124 ht124 _) ?_)
 rintro _ w125 ⟨rfl,Hc126⟩
 have H127:=St.call0' H123 Hc126
 clear H123 Hc126
 refine zn ?_
 refine zr 3 6 [(42,vb t124.2),(41,TU256.val t124.1),(37,.tuple #[TU256.val t124.1,vb t124.2])] ?_
 refine zo (oal H127 #[vu 0,vu 0,vu 0,vu 0] 24 (fun b128 w130 H131=>?_))
 clear H127
 refine zn ?_
 refine zo (osb H131 0 0 (TU256.val t124.1) (TU256.cs t124.1).toArray true (flat_one1 fTU256 t124.1) (fun w132 H133=>?_))
 clear H131
 refine z0 ?_
 refine zrd 1 9 [(9,vb t124.2)] ?_
 refine zs ?_
 refine zsg ?_
 obtain ⟨c134,e,h⟩:=ls h
 refine zed 2 2 [(44,vb c134),(43,vb t124.2)] ?_
 cases c134
 rotate_left
 ·replace h:=bt h
  refine zT ?_
  refine zsg ?_
  refine zr 1 1 [(45,.agg #[vu 0,vu 0,vu 0,vu 0])] ?_
  refine zo (osb H133 1 0 (.agg #[vu 0,vu 0,vu 0,vu 0]) #[vu 0,vu 0,vu 0,vu 0] true (flat_one1 fTU256 (TU256.mk 0 0 0 0)) (fun w141 H142=>?_))
  clear H133
  refine z0 ?_
  refine zrd 1 3 [(3,vb false)] ?_
  refine WP.ret ?_
  obtain rfl:=oi h
  exact then_r (post_r (.tuple #[.agg #[vu 0,vu 0,vu 0,vu 0],vb false]) rfl (results_cell_tmp rfl (by kernel_rfl) (by kernel_rfl) (run_loadAt (ad:=(⟨b10,0,none⟩ : Addr)) (off:=0) (St.boxAt H142 0 rfl) (le_self _) (by kernel_rfl))) ⟨rfl,sl H142 []⟩)
 replace h:=bf h
 refine zFn ?_
 refine zsg ?_
 refine zv (TU256.val t124.1) (llb H133 0 0) ?_
 refine zr 1 2 [(47,vp b6 14)] ?_
 refine zv (TU256.val p1.Value_) (llb H133 2 14) ?_
 obtain ⟨t135,ht135,h⟩:=bs h
 refine zo (oca (g_tarnref1_Add_w fuel t124.1 p1.Value_ t135 ht135 _) ?_)
 rintro _ w136 ⟨rfl,Hc137⟩
 have H138:=St.call0' H133 Hc137
 clear H133 Hc137
 refine zn ?_
 refine zr 2 6 [(51,vb t135.2),(50,TU256.val t135.1)] ?_
 refine zo (osb H138 1 0 (TU256.val t135.1) (TU256.cs t135.1).toArray true (flat_one1 fTU256 t135.1) (fun w139 H140=>?_))
 clear H138
 refine z0 ?_
 refine zrd 1 8 [(3,vb t135.2)] ?_
 refine WP.ret ?_
 obtain rfl:=oi h
 exact post_r (.tuple #[TU256.val t135.1,vb t135.2]) rfl (results_cell_tmp rfl (by kernel_rfl) (by kernel_rfl) (run_loadAt (ad:=(⟨b10,0,none⟩ : Addr)) (off:=0) (St.boxAt H140 0 rfl) (le_self _) (by kernel_rfl))) ⟨rfl,sl H140 []⟩
/- tarn/tarnref7.Tx -/
def g_tarnref7_Tx (fuel : Nat) (p1 : TTx) : Option Bool :=
  jn (fun (c10 : Bool) => br c10 (some false) (bd (g_tarnref7_Cost fuel p1) fun t40 => some t40.2)) fun K12 => bd (g_tarnref0_Num fuel p1.From 7) fun t13 => lt (!t13) fun c17 => br c17 (K12 true) (bd (g_tarnref0_Num fuel p1.Nonce 1099511627776) fun t18 => lt (!t18) fun c22 => br c22 (K12 true) (bd (g_tarnref0_Num fuel p1.Gas 1073741824) fun t23 => lt (!t23) fun c27 => br c27 (K12 true) (bd (g_tarnref1_Cmp fuel p1.Tip p1.Cap) fun t28 => lt (decide (t28 > 0)) fun c32 => br c32 (K12 true) (bd (g_tarnref4_Fits fuel p1.Hashes p1.Blobs) fun t33 => lt (t33 != 0) fun c37 => K12 c37))))
theorem g_tarnref7_Tx_w (fuel : Nat) (s2 s4 : Value) (p1 : TTx) (r : Bool) (h : g_tarnref7_Tx fuel p1 = some r) (w0 : World) (hs3 : Rd fU64 (hp no w0) s2 p1.Hashes) (hs5 : Rd fStr (hp no w0) s4 p1.Blobs) :
 Ret Tryz.prog 61 #[(gTx p1 s2 s4)] w0 (fun v w' => v = vb r ∧ St no w0 w' []) := by
 unfold g_tarnref7_Tx at h
 refine ret_of_wpS Tryz.func61 rfl 43 rfl [(0,(gTx p1 s2 s4))] (by kernel_rfl) (fun G=>?_)
 have H0:=St.start w0
 refine zsg ?_
 refine zo (obx H0 #[vi p1.From,vi p1.Nonce,vu p1.Tip.e0,vu p1.Tip.e1,vu p1.Tip.e2,vu p1.Tip.e3,vu p1.Cap.e0,vu p1.Cap.e1,vu p1.Cap.e2,vu p1.Cap.e3,vu p1.BlobCap.e0,vu p1.BlobCap.e1,vu p1.BlobCap.e2,vu p1.BlobCap.e3,vu p1.Value_.e0,vu p1.Value_.e1,vu p1.Value_.e2,vu p1.Value_.e3,vi p1.Gas,s2,s4] 44 (fun b6 w8 H9=>?_))
 refine zn ?_
 refine zrd 1 2 [(2,vb false)] ?_
 refine zs ?_
 refine zs ?_
 obtain ⟨K12,hK12,h⟩:=js h
 refine WP.onlyN (fun a w=>∃ (c10 : Bool),Y 43 [(1,vp b6 0),(36,vb c10)] [] no w0 [Box b6 #[vi p1.From,vi p1.Nonce,vu p1.Tip.e0,vu p1.Tip.e1,vu p1.Tip.e2,vu p1.Tip.e3,vu p1.Cap.e0,vu p1.Cap.e1,vu p1.Cap.e2,vu p1.Cap.e3,vu p1.BlobCap.e0,vu p1.BlobCap.e1,vu p1.BlobCap.e2,vu p1.BlobCap.e3,vu p1.Value_.e0,vu p1.Value_.e1,vu p1.Value_.e2,vu p1.Value_.e3,vi p1.Gas,s2,s4] 44] (K12 c10 = some r) a w) ?_ ?_
 ·refine zg ?_
  refine zr 1 1 [(5,vp b6 0)] ?_
  refine zv (vi p1.From) (llb H9 0 0) ?_
  obtain ⟨t13,ht13,h⟩:=bs h
  refine zo (oca (g_tarnref0_Num_w fuel p1.From 7 t13 ht13 _) ?_)
  rintro _ w14 ⟨rfl,Hc15⟩
  have H16:=St.call0' H9 Hc15
  clear H9 Hc15
  obtain ⟨c17,e,h⟩:=ls h
  refine zn ?_
  refine ze 2 5 [(9,vb c17),(8,vb c17)] ?_
  cases c17
  rotate_left
  ·replace h:=bt h
   refine zr 27 32 [(36,vb true),(35,Z),(34,Z),(33,Z),(32,Z),(31,Z),(30,Z),(29,vb true),(28,vb true),(27,Z),(26,Z),(25,Z),(24,Z),(23,Z),(22,Z),(21,vb true),(20,vb true),(19,Z),(18,Z),(17,Z),(16,Z),(15,vb true),(14,vb true),(13,Z),(12,Z),(11,Z),(10,Z)] ?_
   refine zd ?_
   exact ⟨true,yy H16 [0] h⟩
  replace h:=bf h
  refine zr 1 6 [(10,vp b6 1)] ?_
  refine zv (vi p1.Nonce) (llb H16 0 1) ?_
  obtain ⟨t18,ht18,h⟩:=bs h
  refine zo (oca (g_tarnref0_Num_w fuel p1.Nonce 1099511627776 t18 ht18 _) ?_)
  rintro _ w19 ⟨rfl,Hc20⟩
  have H21:=St.call0' H16 Hc20
  clear H16 Hc20
  obtain ⟨c22,e,h⟩:=ls h
  refine zn ?_
  refine ze 3 11 [(15,vb c22),(14,vb c22),(13,vb c22)] ?_
  cases c22
  rotate_left
  ·replace h:=bt h
   refine zr 21 32 [(36,vb true),(35,Z),(34,Z),(33,Z),(32,Z),(31,Z),(30,Z),(29,vb true),(28,vb true),(27,Z),(26,Z),(25,Z),(24,Z),(23,Z),(22,Z),(21,vb true),(20,vb true),(19,Z),(18,Z),(17,Z),(16,Z)] ?_
   refine zd ?_
   exact ⟨true,yy H21 [0] h⟩
  replace h:=bf h
  refine zr 1 12 [(16,vp b6 18)] ?_
  refine zv (vi p1.Gas) (llb H21 0 18) ?_
  obtain ⟨t23,ht23,h⟩:=bs h
  refine zo (oca (g_tarnref0_Num_w fuel p1.Gas 1073741824 t23 ht23 _) ?_)
  rintro _ w24 ⟨rfl,Hc25⟩
  have H26:=St.call0' H21 Hc25
  clear H21 Hc25
  obtain ⟨c27,e,h⟩:=ls h
  refine zn ?_
  refine ze 3 17 [(21,vb c27),(20,vb c27),(19,vb c27)] ?_
  cases c27
  rotate_left
  ·replace h:=bt h
   refine zr 15 32 [(36,vb true),(35,Z),(34,Z),(33,Z),(32,Z),(31,Z),(30,Z),(29,vb true),(28,vb true),(27,Z),(26,Z),(25,Z),(24,Z),(23,Z),(22,Z)] ?_
   refine zd ?_
   exact ⟨true,yy H26 [0] h⟩
  replace h:=bf h
  refine zr 1 18 [(22,vp b6 2)] ?_
  refine zv (TU256.val p1.Tip) (llb H26 0 2) ?_
  refine zr 1 20 [(24,vp b6 6)] ?_
  refine zv (TU256.val p1.Cap) (llb H26 0 6) ?_
  obtain ⟨t28,ht28,h⟩:=bs h
  refine zo (oca (g_tarnref1_Cmp_w fuel p1.Tip p1.Cap t28 ht28 _) ?_)
  rintro _ w29 ⟨rfl,Hc30⟩
  have H31:=St.call0' H26 Hc30
  clear H26 Hc30
  obtain ⟨c32,e,h⟩:=ls h
  refine zn ?_
  refine ze 3 25 [(29,vb c32),(28,vb c32),(27,vb c32)] ?_
  cases c32
  rotate_left
  ·replace h:=bt h
   refine zr 7 32 [(36,vb true),(35,Z),(34,Z),(33,Z),(32,Z),(31,Z),(30,Z)] ?_
   refine zd ?_
   exact ⟨true,yy H31 [0] h⟩
  replace h:=bf h
  refine zr 1 26 [(30,vp b6 19)] ?_
  refine zv (s2) (llb H31 0 19) ?_
  refine zr 1 28 [(32,vp b6 20)] ?_
  refine zv (s4) (llb H31 0 20) ?_
  obtain ⟨t33,ht33,h⟩:=bs h
  refine zo (oca (g_tarnref4_Fits_w fuel s2 p1.Hashes s4 p1.Blobs t33 ht33 _ (Rd.arg0 hs3 H31) (Rd.arg0 hs5 H31)) ?_)
  rintro _ w34 ⟨rfl,Hc35⟩
  have H36:=St.call0' H31 Hc35
  clear H31 Hc35
  obtain ⟨c37,e,h⟩:=ls h
  refine zn ?_
  refine ze 2 32 [(36,vb c37),(35,vb c37)] ?_
  refine zd ?_
  exact ⟨c37,yy H36 [0] h⟩
 rintro a w38 ⟨c10,G11,rfl,H39,h⟩
 subst hK12
 refine then_n ?_
 cases c10
 rotate_left
 ·replace h:=bt h
  refine zT ?_
  refine zsg ?_
  refine zrd 1 1 [(2,vb false)] ?_
  refine WP.ret ?_
  obtain rfl:=oi h
  exact then_r (post_r (vb false) rfl (by kernel_rfl) ⟨rfl,sl H39 []⟩)
 replace h:=bf h
 refine zFn ?_
 refine zsg ?_
 refine zv ((gTx p1 s2 s4)) (llb H39 0 0) ?_
 obtain ⟨t40,ht40,h⟩:=bs h
 refine zo (oca (g_tarnref7_Cost_w fuel s2 s4 p1 t40 ht40 _ (Rd.arg0 hs3 H39) (Rd.arg0 hs5 H39)) ?_)
 rintro _ w41 ⟨rfl,Hc42⟩
 have H43:=St.call0' H39 Hc42
 clear H39 Hc42
 refine zn ?_
 refine zr 3 5 [(41,vb t40.2),(40,TU256.val t40.1),(37,.tuple #[TU256.val t40.1,vb t40.2])] ?_
 refine zo (oal H43 #[vu 0,vu 0,vu 0,vu 0] 24 (fun b44 w46 H47=>?_))
 clear H43
 refine zn ?_
 refine zo (osb H47 0 0 (TU256.val t40.1) (TU256.cs t40.1).toArray true (flat_one1 fTU256 t40.1) (fun w48 H49=>?_))
 clear H47
 refine z0 ?_
 refine zrd 1 8 [(4,vb t40.2)] ?_
 refine zsg ?_
 refine zrd 2 2 [(2,vb t40.2),(42,vb t40.2)] ?_
 refine WP.ret ?_
 obtain rfl:=oi h
 exact post_r (vb t40.2) rfl (by kernel_rfl) ⟨rfl,sl H49 []⟩
/- tarn/tarnref7.Txs -/
def g_tarnref7_Txs_l1 (l2 : List TTx) (fuel : Nat) (K4 : Option Bool) : Nat → Int → Option Bool
  | 0, _ => none
  | n + 1, x5 => lt (decide (x5 < (((List.length l2 : Nat) : Int)))) fun c9 => br c9 (gd ((0 : Int) ≤ x5 ∧ x5 < ((List.length l2 : Nat) : Int)) <| bd (l2[Int.toNat x5]?) fun x11 => bd (g_tarnref7_Tx fuel x11) fun t19 => lt (!t19) fun c23 => br c23 (some false) (lt (wr .i64 (x5 + 1)) fun x24 => g_tarnref7_Txs_l1 l2 fuel K4 n x24)) (K4)
def g_tarnref7_Txs (fuel : Nat) (l2 : List TTx) : Option Bool :=
  jn (some true) fun K4 => g_tarnref7_Txs_l1 l2 fuel K4 fuel 0
theorem g_tarnref7_Txs_w (fuel : Nat) (s1 : Value) (l2 : List TTx) (r : Bool) (h : g_tarnref7_Txs fuel l2 = some r) (w0 : World) (hs1 : RdD dTTx (hp no w0) s1 l2) :
 Ret Tryz.prog 29 #[s1] w0 (fun v w' => v = vb r ∧ St no w0 w' []) := by
 unfold g_tarnref7_Txs at h
 refine ret_of_wpS Tryz.func29 rfl 16 rfl [(0,s1)] (by kernel_rfl) (fun G=>?_)
 have H0:=St.start w0
 refine zsg ?_
 refine zrd 1 1 [(2,vb false)] ?_
 refine zs ?_
 refine zsg ?_
 refine zrd 1 1 [(3,vi 0)] ?_
 obtain ⟨K4,hK4,h⟩:=js h
 refine WP.blockJ (fun a w=>Y 16 [] [] no w0 [] (K4 = some r) a w) ?_ ?_
 ·refine WP.loop (fun n a w=>∃ (x5 : Int),Y 16 [(0,s1),(3,vi x5)] [] no w0 [] (g_tarnref7_Txs_l1 l2 fuel K4 n x5 = some r) a w) fuel ⟨0,yy H0 [] h⟩ ?_
  rintro n a w7 ⟨x5,G6,rfl,H8,h⟩
  obtain _ | n:=n
  ·rw [g_tarnref7_Txs_l1] at h; cases h
  rw [g_tarnref7_Txs_l1] at h
  refine zs ?_
  refine zsg ?_
  refine zr 2 2 [(5,s1),(4,vi x5)] ?_
  refine zv (vi (((List.length l2 : Nat) : Int))) (lln (RdD.sl hs1) 44 21 200) ?_
  obtain ⟨c9,e,h⟩:=ls h
  refine zed 1 4 [(7,vb c9)] ?_
  cases c9
  ·replace h:=bf h
   refine zF ?_
   refine WP.exit ?_
   exact then_e (then_e (inb_e (then_n (yy H8 [] h))))
  replace h:=bt h
  refine zTn ?_
  refine zs ?_
  refine WP.block ?_
  refine zsg ?_
  obtain ⟨hg10,h⟩:=gs h
  refine zr 2 2 [(11,vi x5),(10,s1)] ?_
  refine zv (va (slAt s1 21 (Int.toNat x5))) (lli (RdD.sl hs1) 44 21 200 .i64 x5 hg10) ?_
  obtain ⟨x11,hx11,h⟩:=bs h
  obtain ⟨c16,hr17,hc18⟩:=RdD.at_ hs1 _ _ hx11
  obtain ⟨s12,s14,rfl,hs13,hs15⟩:=hr17
  refine zv ((gTx x11 s12 s14)) (lld 0 hc18 (St.hp_le H8)) ?_
  obtain ⟨t19,ht19,h⟩:=bs h
  refine zo (oca (g_tarnref7_Tx_w fuel s12 s14 x11 t19 ht19 _ (Rd.arg0 hs13 H8) (Rd.arg0 hs15 H8)) ?_)
  rintro _ w20 ⟨rfl,Hc21⟩
  have H22:=St.call0' H8 Hc21
  clear H8 Hc21
  obtain ⟨c23,e,h⟩:=ls h
  refine zn ?_
  refine zed 1 6 [(15,vb c23)] ?_
  cases c23
  rotate_left
  ·replace h:=bt h
   refine zT ?_
   refine zsg ?_
   refine zrd 1 1 [(2,vb false)] ?_
   refine WP.ret ?_
   obtain rfl:=oi h
   exact inb_r (then_r (then_r (inb_r (then_r (then_r (post_r (vb false) rfl (by kernel_rfl) ⟨rfl,sl H22 []⟩))))))
  replace h:=bf h
  refine zF ?_
  refine WP.skip ?_
  refine inb_n (then_n ?_)
  refine zg ?_
  obtain ⟨x24,e,h⟩:=ls h
  refine ze 3 3 [(3,vi x24),(9,vi x24),(8,vi x5)] ?_
  refine zd ?_
  exact then_n ⟨n,lS n,x24,yy H22 [] h⟩
 rintro a w25 ⟨G3,rfl,H26,h⟩
 subst hK4
 refine then_n ?_
 refine zsg ?_
 refine zrd 1 1 [(2,vb true)] ?_
 refine WP.ret ?_
 obtain rfl:=oi h
 exact post_r (vb true) rfl (by kernel_rfl) ⟨rfl,sl H26 []⟩
/- tarn/tarnref4.MarkText -/
def g_tarnref4_MarkText_l1 (p1 : Int) (K6 : (List Int) → Option ByteArray) (fuel : Nat) : Nat → (List Int) → Int → Option ByteArray
  | 0, _, _ => none
  | n + 1, l8, x10 => lt (decide (x10 ≥ 0)) fun c15 => br c15 (lt (wr .i64 (8 * x10)) fun x16 => gd ((0 : Int) ≤ x16) <| lt (ishr .u64 p1 x16) fun x18 => lt (wr .u8 x18) fun x19 => gd ((List.length l8 + List.length (([x19] : List Int))) * 1 ≤ 140737488355328) <| lt (l8 ++ (([x19] : List Int))) fun l26 => lt (wr .i64 (x10 - 1)) fun x31 => g_tarnref4_MarkText_l1 p1 K6 fuel n l26 x31) (K6 l8)
def g_tarnref4_MarkText (fuel : Nat) (p1 : Int) : Option ByteArray :=
  jn (fun (l3 : List Int) => lt (bsl l3) fun t35 => some t35) fun K6 => g_tarnref4_MarkText_l1 p1 K6 fuel fuel ([]) 7
theorem g_tarnref4_MarkText_w (fuel : Nat) (p1 : Int) (r : ByteArray) (h : g_tarnref4_MarkText fuel p1 = some r) (w0 : World) :
 Ret Tryz.prog 39 #[vu p1] w0 (fun v w' => v = .string r ∧ St no w0 w' []) := by
 unfold g_tarnref4_MarkText at h
 refine ret_of_wpS Tryz.func39 rfl 19 rfl [(0,vu p1)] (by kernel_rfl) (fun G=>?_)
 have H0:=St.start w0
 refine zsg ?_
 refine zrd 1 1 [(2,.string ((ByteArray.mk #[])))] ?_
 refine zsg ?_
 refine zrd 1 1 [(3,vn)] ?_
 refine zs ?_
 refine zsg ?_
 refine zrd 1 1 [(4,vi 7)] ?_
 obtain ⟨K6,hK6,h⟩:=js h
 refine WP.blockJ (fun a w=>∃ (l3 : List Int) (s4 : Value),Y 19 [(3,s4)] [] no w0 [Own fU8 5 s4 l3] (K6 l3 = some r) a w) ?_ ?_
 ·refine WP.loop (fun n a w=>∃ (l8 : List Int) (x10 : Int) (s9 : Value),Y 19 [(0,vu p1),(3,s9),(4,vi x10)] [] no w0 [Own fU8 5 s9 l8] (g_tarnref4_MarkText_l1 p1 K6 fuel n l8 x10 = some r) a w) fuel ⟨([]),7,vn,yy (St.nil H0 fU8 5) [0] h⟩ ?_
  rintro n a w12 ⟨l8,x10,s9,G11,rfl,H13,h⟩
  obtain _ | n:=n
  ·rw [g_tarnref4_MarkText_l1] at h; cases h
  rw [g_tarnref4_MarkText_l1] at h
  refine zs ?_
  refine zsg ?_
  obtain ⟨c15,e,h⟩:=ls h
  refine zed 2 2 [(6,vb c15),(5,vi x10)] ?_
  cases c15
  ·replace h:=bf h
   refine zF ?_
   refine WP.exit ?_
   exact then_e (then_e (inb_e (then_n ⟨l8,s9,yy H13 [0] h⟩)))
  replace h:=bt h
  refine zTn ?_
  refine zs ?_
  refine WP.block ?_
  refine zg ?_
  obtain ⟨x16,hx16,h⟩:=ls h
  obtain ⟨hg17,h⟩:=gs h
  obtain ⟨x18,hx18,h⟩:=ls h
  refine zr 4 4 [(12,vi x16),(11,vi x10),(10,vu p1),(9,s9)] ?_ rfl (fun K=>by subst hx16; kernel_rfl)
  refine WPI.valueS (vu x18) 13 rfl rfl (by kernel_rfl) (Eq.trans (ev_shr .u64 .i64 p1 x16 22 3 (.tmp 10) (.tmp 12) rfl (by kernel_rfl) (by kernel_rfl) hg17) (by rw [← hx18])) ?_
  obtain ⟨x19,e,h⟩:=ls h
  refine ze 1 6 [(14,.int .u8 x19)] ?_
  refine WPI.op rfl (Op1.lit (F:=fU8) (E:=5) H13 (by kernel_rfl) ([x19] : List Int) (fun w=>by kernel_rfl) (by simp [maxLen]) (fun s21 w23 H24=>?_))
  clear H13
  obtain ⟨hg25,h⟩:=gs h
  obtain ⟨l26,hl26,h⟩:=ls h
  refine zn ?_
  refine WPI.op rfl (Op1.append (F:=fU8) H24 1 rfl (by kernel_rfl) 106 (.tmp 9) (.tmp 15) 1 rfl (by kernel_rfl) (by kernel_rfl) s21 (([x19] : List Int)) (St.rd H24 0 rfl) (hp_no_le _) (by kernel_rfl) (app_len hg25 (by decide)) (fun s27 w29 H30=>?_))
  rw [← hl26] at H30
  clear H24
  refine zn ?_
  refine zr 1 9 [(3,s27)] ?_
  refine zd ?_
  refine inb_n (then_n ?_)
  refine zg ?_
  obtain ⟨x31,e,h⟩:=ls h
  refine ze 3 3 [(4,vi x31),(8,vi x31),(7,vi x10)] ?_
  refine zd ?_
  exact then_n ⟨n,lS n,l26,x31,s27,yy H30 [0] h⟩
 rintro a w32 ⟨l3,s4,G5,rfl,H33,h⟩
 subst hK6
 refine then_n ?_
 refine zsg ?_
 obtain ⟨t35,ht35,h⟩:=ls h
 refine zr 1 1 [(17,s4)] ?_
 refine WPI.valueS (.string t35) 18 rfl rfl (by kernel_rfl) (Eq.trans (ev_b2s (St.rd H33 0 rfl) (hp_no_le _) 106 9 5 (.tmp 17) rfl (by kernel_rfl) (by kernel_rfl) (by kernel_rfl) (by kernel_rfl)) (by rw [← ht35])) ?_
 refine zrd 1 3 [(2,.string t35)] ?_
 refine WP.ret ?_
 obtain rfl:=oi h
 exact post_r (.string t35) rfl (by kernel_rfl) ⟨rfl,sl H33 []⟩
/- tarn/tarnref7.text -/
def g_tarnref7_text (fuel : Nat) (p1 : ByteArray) : Option TItem :=
  some (TItem.mk false p1 ([]))
theorem g_tarnref7_text_w (fuel : Nat) (p1 : ByteArray) (r : TItem) (h : g_tarnref7_text fuel p1 = some r) (w0 : World) :
 Ret Tryz.prog 38 #[.string p1] w0 (fun v w' => v = .agg #[vb r.List_, .string r.Text, vn] ∧ St no w0 w' []) := by
 unfold g_tarnref7_text at h
 refine ret_of_wpS Tryz.func38 rfl 5 rfl [(0,.string p1)] (by kernel_rfl) (fun G=>?_)
 have H0:=St.start w0
 refine zsg ?_
 refine zo (oal H0 #[vb false,.string ByteArray.empty,vn] 79 (fun b2 w4 H5=>?_))
 refine zn ?_
 refine zdn ?_
 refine zsg ?_
 refine zr 2 2 [(4,.agg #[vb false,.string p1,vn]),(3,.string p1)] ?_
 refine zo (osb H5 0 0 (.agg #[vb false,.string p1,vn]) #[vb false,.string p1,vn] true (oc1 rfl (oc1 rfl (oc1 rfl oc0))) (fun w6 H7=>?_))
 clear H5
 refine z0 ?_
 refine zdn ?_
 refine WP.ret ?_
 obtain rfl:=oi h
 exact post_r (.agg #[vb false,.string p1,vn]) rfl (results_cell rfl (by kernel_rfl) (run_loadAt (ad:=(⟨b2,0,none⟩ : Addr)) (off:=0) (St.boxAt H7 0 rfl) (le_self _) (by kernel_rfl))) ⟨rfl,sl H7 []⟩
/- tarn/tarnref1.Text -/
def g_tarnref1_Text_l1 (p1 : TU256) (K10 : (List Int) → Option ByteArray) (fuel : Nat) : Nat → (List Int) → Int → Option ByteArray
  | 0, _, _ => none
  | n + 1, l12, x14 => lt (decide (x14 ≥ 0)) fun c19 => br c19 (jn (fun (l20 : List Int) => lt (wr .i64 (x14 - 1)) fun x61 => g_tarnref1_Text_l1 p1 K10 fuel n l20 x61) fun K23 => jn (fun (l24 : List Int) => K23 l24) fun K27 => lt (wr .i64 (Int.tdiv x14 8)) fun x28 => gd ((0 : Int) ≤ x28 ∧ x28 < 4) <| bd (([p1.e0, p1.e1, p1.e2, p1.e3] : List Int)[Int.toNat x28]?) fun x30 => lt (Int.tmod x14 8) fun x31 => lt (wr .i64 (8 * x31)) fun x32 => gd ((0 : Int) ≤ x32) <| lt (ishr .u64 x30 x32) fun x34 => lt (wr .u8 x34) fun x35 => jn (fun (c36 : Bool) => br c36 (gd ((List.length l12 + List.length (([x35] : List Int))) * 1 ≤ 140737488355328) <| lt (l12 ++ (([x35] : List Int))) fun l50 => K27 l50) (K27 l12)) fun K38 => lt (x35 != 0) fun c39 => br c39 (K38 true) (lt (decide ((((List.length l12 : Nat) : Int)) > 0)) fun c40 => K38 c40)) (K10 l12)
def g_tarnref1_Text (fuel : Nat) (p1 : TU256) : Option ByteArray :=
  jn (fun (l7 : List Int) => lt (bsl l7) fun t65 => some t65) fun K10 => g_tarnref1_Text_l1 p1 K10 fuel fuel ([]) 31
theorem g_tarnref1_Text_w (fuel : Nat) (p1 : TU256) (r : ByteArray) (h : g_tarnref1_Text fuel p1 = some r) (w0 : World) :
 Ret Tryz.prog 42 #[TU256.val p1] w0 (fun v w' => v = .string r ∧ St no w0 w' []) := by
 unfold g_tarnref1_Text at h
 refine ret_of_wpS Tryz.func42 rfl 32 rfl [(0,TU256.val p1)] (by kernel_rfl) (fun G=>?_)
 have H0:=St.start w0
 refine zsg ?_
 refine zo (obx H0 (TU256.cs p1).toArray 24 (fun b2 w4 H5=>?_))
 refine zn ?_
 refine zrd 1 2 [(2,.string ((ByteArray.mk #[])))] ?_
 refine zsg ?_
 refine zrd 1 1 [(3,vn)] ?_
 refine zs ?_
 refine zsg ?_
 refine zrd 1 1 [(4,vi 31)] ?_
 obtain ⟨K10,hK10,h⟩:=js h
 refine WP.blockJ (fun a w=>∃ (l7 : List Int) (s8 : Value),Y 32 [(3,s8)] [] no w0 [Box b2 (TU256.cs p1).toArray 24,Own fU8 5 s8 l7] (K10 l7 = some r) a w) ?_ ?_
 ·refine WP.loop (fun n a w=>∃ (l12 : List Int) (x14 : Int) (s13 : Value),Y 32 [(1,vp b2 0),(3,s13),(4,vi x14)] [] no w0 [Box b2 (TU256.cs p1).toArray 24,Own fU8 5 s13 l12] (g_tarnref1_Text_l1 p1 K10 fuel n l12 x14 = some r) a w) fuel ⟨([]),31,vn,yy (St.nil H5 fU8 5) [1,0] h⟩ ?_
  rintro n a w16 ⟨l12,x14,s13,G15,rfl,H17,h⟩
  obtain _ | n:=n
  ·rw [g_tarnref1_Text_l1] at h; cases h
  rw [g_tarnref1_Text_l1] at h
  have sf18:=Own.isSl (St.get H17 1 rfl)
  refine zs ?_
  refine zsg ?_
  obtain ⟨c19,e,h⟩:=ls h
  refine zed 2 2 [(7,vb c19),(6,vi x14)] ?_
  cases c19
  ·replace h:=bf h
   refine zF ?_
   refine WP.exit ?_
   exact then_e (then_e (inb_e (then_n ⟨l12,s13,yy H17 [0,1] h⟩)))
  replace h:=bt h
  refine zTn ?_
  obtain ⟨K23,hK23,h⟩:=js h
  refine WP.seqJ (fun a w=>∃ (l20 : List Int) (s21 : Value),Y 32 [(1,vp b2 0),(3,s21),(4,vi x14)] [] no w0 [Box b2 (TU256.cs p1).toArray 24,Own fU8 5 s21 l20] (K23 l20 = some r) a w) ?_ ?_
  ·obtain ⟨K27,hK27,h⟩:=js h
   refine WP.blockJ (fun a w=>∃ (l24 : List Int) (s25 : Value),Y 32 [(1,vp b2 0),(3,s25),(4,vi x14)] [] no w0 [Box b2 (TU256.cs p1).toArray 24,Own fU8 5 s25 l24] (K27 l24 = some r) a w) ?_ ?_
   ·refine zsg ?_
    obtain ⟨x28,e,h⟩:=ls h
    obtain ⟨hg29,h⟩:=gs h
    refine ze 2 2 [(11,vi x28),(10,vi x14)] ?_
    refine zv (va (((⟨b2,0,none⟩ : Addr).add 0).add (Int.toNat x28 * 1))) (lla ((⟨b2,0,none⟩ : Addr).add 0) 4 22 1 .i64 x28 hg29) ?_
    obtain ⟨x30,hx30,h⟩:=bs h
    refine zv (vu x30) (lld 0 (CellsAt.elem fU64 (St.boxAt H17 0 rfl) 0 [p1.e0,p1.e1,p1.e2,p1.e3] [] (by kernel_rfl) _ _ hx30) (le_self _)) ?_
    obtain ⟨x31,hx31,h⟩:=ls h
    obtain ⟨x32,hx32,h⟩:=ls h
    obtain ⟨hg33,h⟩:=gs h
    obtain ⟨x34,hx34,h⟩:=ls h
    refine zr 3 7 [(16,vi x32),(15,vi x31),(14,vi x14)] ?_ rfl (fun K=>by subst hx32 hx31; kernel_rfl)
    refine WPI.valueS (vu x34) 17 rfl rfl (by kernel_rfl) (Eq.trans (ev_shr .u64 .i64 x30 x32 22 3 (.tmp 13) (.tmp 16) rfl (by kernel_rfl) (by kernel_rfl) hg33) (by rw [← hx34])) ?_
    obtain ⟨x35,e,h⟩:=ls h
    refine zed 2 10 [(5,.int .u8 x35),(18,.int .u8 x35)] ?_
    refine zs ?_
    obtain ⟨K38,hK38,h⟩:=js h
    refine WP.onlyN (fun a w=>∃ (c36 : Bool),Y 32 [(1,vp b2 0),(3,s13),(4,vi x14),(5,.int .u8 x35),(25,vb c36)] [] no w0 [Box b2 (TU256.cs p1).toArray 24,Own fU8 5 s13 l12] (K38 c36 = some r) a w) ?_ ?_
    ·refine zg ?_
     obtain ⟨c39,e,h⟩:=ls h
     refine ze 3 3 [(21,vb c39),(20,vb c39),(19,.int .u8 x35)] ?_
     cases c39
     rotate_left
     ·replace h:=bt h
      refine zr 4 7 [(25,vb true),(24,Z),(23,Z),(22,Z)] ?_
      refine zd ?_
      exact ⟨true,yy H17 [0,1] h⟩
     replace h:=bf h
     refine zr 1 4 [(22,s13)] ?_
     refine zv (vi (((List.length l12 : Nat) : Int))) (lln sf18 5 1 1) ?_
     obtain ⟨c40,e,h⟩:=ls h
     refine ze 2 7 [(25,vb c40),(24,vb c40)] ?_
     refine zd ?_
     exact ⟨c40,yy H17 [0,1] h⟩
    rintro a w41 ⟨c36,G37,rfl,H42,h⟩
    subst hK38
    refine then_n ?_
    cases c36
    ·replace h:=bf h
     refine zF ?_
     refine WP.skip ?_
     exact inb_n (then_n ⟨l12,s13,yy H42 [0,1] h⟩)
    replace h:=bt h
    refine zT ?_
    refine zg ?_
    refine zr 2 2 [(27,.int .u8 x35),(26,s13)] ?_
    refine WPI.op rfl (Op1.lit (F:=fU8) (E:=5) H42 (by kernel_rfl) ([x35] : List Int) (fun w=>by kernel_rfl) (by simp [maxLen]) (fun s45 w47 H48=>?_))
    clear H42
    obtain ⟨hg49,h⟩:=gs h
    obtain ⟨l50,hl50,h⟩:=ls h
    refine zn ?_
    refine WPI.op rfl (Op1.append (F:=fU8) H48 2 rfl (by kernel_rfl) 106 (.tmp 26) (.tmp 28) 1 rfl (by kernel_rfl) (by kernel_rfl) s45 (([x35] : List Int)) (St.rd H48 0 rfl) (hp_no_le _) (by kernel_rfl) (app_len hg49 (by decide)) (fun s51 w53 H54=>?_))
    rw [← hl50] at H54
    clear H48
    refine zn ?_
    refine zr 1 5 [(3,s51)] ?_
    refine zd ?_
    exact inb_n (then_n ⟨l50,s51,yy H54 [2,0] h⟩)
   rintro a w55 ⟨l24,s25,G26,rfl,H56,h⟩
   subst hK27
   exact then_n ⟨l24,s25,yy H56 [0,1] h⟩
  rintro a w58 ⟨l20,s21,G22,rfl,H59,h⟩
  subst hK23
  refine zg ?_
  obtain ⟨x61,e,h⟩:=ls h
  refine ze 3 3 [(4,vi x61),(9,vi x61),(8,vi x14)] ?_
  refine zd ?_
  exact then_n ⟨n,lS n,l20,x61,s21,yy H59 [0,1] h⟩
 rintro a w62 ⟨l7,s8,G9,rfl,H63,h⟩
 subst hK10
 refine then_n ?_
 refine zsg ?_
 obtain ⟨t65,ht65,h⟩:=ls h
 refine zr 1 1 [(30,s8)] ?_
 refine WPI.valueS (.string t65) 31 rfl rfl (by kernel_rfl) (Eq.trans (ev_b2s (St.rd H63 1 rfl) (hp_no_le _) 106 9 5 (.tmp 30) rfl (by kernel_rfl) (by kernel_rfl) (by kernel_rfl) (by kernel_rfl)) (by rw [← ht65])) ?_
 refine zrd 1 3 [(2,.string t65)] ?_
 refine WP.ret ?_
 obtain rfl:=oi h
 exact post_r (.string t65) rfl (by kernel_rfl) ⟨rfl,sl H63 []⟩
/- tarn/tarnref7.number -/
def g_tarnref7_number (fuel : Nat) (p1 : Int) : Option TItem :=
  bd (g_tarnref1_Of fuel p1) fun t6 => bd (g_tarnref1_Text fuel t6) fun t10 => bd (g_tarnref7_text fuel t10) fun t14 => some (TItem.mk t14.List_ t14.Text ([]))
theorem g_tarnref7_number_w (fuel : Nat) (p1 : Int) (r : TItem) (h : g_tarnref7_number fuel p1 = some r) (w0 : World) :
 Ret Tryz.prog 41 #[vi p1] w0 (fun v w' => v = .agg #[vb r.List_, .string r.Text, vn] ∧ St no w0 w' []) := by
 unfold g_tarnref7_number at h
 refine ret_of_wpS Tryz.func41 rfl 7 rfl [(0,vi p1)] (by kernel_rfl) (fun G=>?_)
 have H0:=St.start w0
 refine zsg ?_
 refine zo (oal H0 #[vb false,.string ByteArray.empty,vn] 79 (fun b2 w4 H5=>?_))
 refine zn ?_
 refine zdn ?_
 refine zsg ?_
 obtain ⟨t6,ht6,h⟩:=bs h
 refine zr 1 1 [(3,vi p1)] ?_
 refine zo (oca (g_tarnref1_Of_w fuel p1 t6 ht6 _) ?_)
 rintro _ w7 ⟨rfl,Hc8⟩
 have H9:=St.call0' H5 Hc8
 clear H5 Hc8
 obtain ⟨t10,ht10,h⟩:=bs h
 refine zn ?_
 refine zo (oca (g_tarnref1_Text_w fuel t6 t10 ht10 _) ?_)
 rintro _ w11 ⟨rfl,Hc12⟩
 have H13:=St.call0' H9 Hc12
 clear H9 Hc12
 obtain ⟨t14,ht14,h⟩:=bs h
 refine zn ?_
 refine zo (oca (g_tarnref7_text_w fuel t10 t14 ht14 _) ?_)
 rintro _ w15 ⟨rfl,Hc16⟩
 have H17:=St.call0' H13 Hc16
 clear H13 Hc16
 refine zn ?_
 refine zo (osb H17 0 0 (.agg #[vb t14.List_,.string t14.Text,vn]) #[vb t14.List_,.string t14.Text,vn] true (oc1 rfl (oc1 rfl (oc1 rfl oc0))) (fun w18 H19=>?_))
 clear H17
 refine z0 ?_
 refine zdn ?_
 refine WP.ret ?_
 obtain rfl:=oi h
 exact post_r (.agg #[vb t14.List_,.string t14.Text,vn]) rfl (results_cell rfl (by kernel_rfl) (run_loadAt (ad:=(⟨b2,0,none⟩ : Addr)) (off:=0) (St.boxAt H19 0 rfl) (le_self _) (by kernel_rfl))) ⟨rfl,sl H19 []⟩
/- tarn/tarnref4.deep -/
def g_tarnref4_deep_l1 (p1 : TItem) (self : (TItem → Option Int)) (K12 : Int → Option Int) (fuel : Nat) : Nat → Int → Int → Option Int
  | 0, _, _ => none
  | n + 1, x13, x14 => lt (decide (x14 < (((List.length p1.Items : Nat) : Int)))) fun c18 => br c18 (gd ((0 : Int) ≤ x14 ∧ x14 < ((List.length p1.Items : Nat) : Int)) <| bd (p1.Items[Int.toNat x14]?) fun x20 => bd (self x20) fun t26 => lt ((if t26 > x13 then t26 else x13)) fun x30 => lt (wr .i64 (x14 + 1)) fun x31 => g_tarnref4_deep_l1 p1 self K12 fuel n x30 x31) (K12 x13)
def g_tarnref4_deep : Nat → TItem → Option Int
  | 0, _ => none
  | fuel + 1, p1 => (fun (self : (TItem → Option Int)) => lt (!p1.List_) fun c8 => br c8 (lt (decide ((((List.length p1.Items : Nat) : Int)) > 0)) fun c35 => br c35 (some 17) (some 0)) (lt (!(seq p1.Text ((ByteArray.mk #[])))) fun c9 => br c9 (some 17) (jn (fun (x10 : Int) => lt (wr .i64 (x10 + 1)) fun x34 => some x34) fun K12 => g_tarnref4_deep_l1 p1 self K12 fuel fuel 0 0))) (g_tarnref4_deep fuel)
theorem g_tarnref4_deep_w : ∀ (fuel : Nat) (s2 : Value) (p1 : TItem) (r : Int) (h : g_tarnref4_deep fuel p1 = some r) (w0 : World) (hs3 : RdD dTItem (hp no w0) s2 p1.Items),
 Ret Tryz.prog 66 #[.agg #[vb p1.List_, .string p1.Text, s2]] w0 (fun v w' => v = vi r ∧ St no w0 w' []) := by
 intro fuel
 induction fuel with
 | zero=>intro s2 p1 r h w0 hs3; unfold g_tarnref4_deep at h; cases h
 | succ fuel ih =>
  intro s2 p1 r h w0 hs3
  rw [g_tarnref4_deep] at h
  have ih:=ih
  refine ret_of_wpS Tryz.func66 rfl 32 rfl [(0,.agg #[vb p1.List_,.string p1.Text,s2])] (by kernel_rfl) (fun G=>?_)
  have H0:=St.start w0
  refine zsg ?_
  refine zo (obx H0 #[vb p1.List_,.string p1.Text,s2] 79 (fun b4 w6 H7=>?_))
  refine zn ?_
  refine zrd 1 2 [(2,vi 0)] ?_
  refine zs ?_
  refine zsg ?_
  refine zr 1 1 [(5,vp b4 0)] ?_
  refine zv (vb p1.List_) (llb H7 0 0) ?_
  obtain ⟨c8,e,h⟩:=ls h
  refine zed 1 3 [(7,vb c8)] ?_
  cases c8
  rotate_left
  ·replace h:=bt h
   refine zT ?_
   refine zs ?_
   refine zsg ?_
   refine zr 1 1 [(8,vp b4 2)] ?_
   refine zv (s2) (llb H7 0 2) ?_
   refine zv (vi (((List.length p1.Items : Nat) : Int))) (lln (RdD.sl hs3) 79 3 48) ?_
   obtain ⟨c35,e,h⟩:=ls h
   refine zed 1 4 [(11,vb c35)] ?_
   cases c35
   ·replace h:=bf h
    refine zFn ?_
    refine zsg ?_
    refine zrd 1 1 [(2,vi 0)] ?_
    refine WP.ret ?_
    obtain rfl:=oi h
    exact then_r (post_r (vi 0) rfl (by kernel_rfl) ⟨rfl,sl H7 []⟩)
   replace h:=bt h
   refine zT ?_
   refine zsg ?_
   refine zrd 1 1 [(2,vi 17)] ?_
   refine WP.ret ?_
   obtain rfl:=oi h
   exact then_r (then_r (post_r (vi 17) rfl (by kernel_rfl) ⟨rfl,sl H7 []⟩))
  replace h:=bf h
  refine zFn ?_
  refine zs ?_
  refine zsg ?_
  refine zr 1 1 [(12,vp b4 1)] ?_
  refine zv (.string p1.Text) (llb H7 0 1) ?_
  obtain ⟨c9,e,h⟩:=ls h
  refine zed 1 3 [(14,vb c9)] ?_
  cases c9
  rotate_left
  ·replace h:=bt h
   refine zT ?_
   refine zsg ?_
   refine zrd 1 1 [(2,vi 17)] ?_
   refine WP.ret ?_
   obtain rfl:=oi h
   exact then_r (post_r (vi 17) rfl (by kernel_rfl) ⟨rfl,sl H7 []⟩)
  replace h:=bf h
  refine zFn ?_
  refine zsg ?_
  refine zrd 1 1 [(3,vi 0)] ?_
  refine zs ?_
  refine zsg ?_
  refine zrd 1 1 [(4,vi 0)] ?_
  obtain ⟨K12,hK12,h⟩:=js h
  refine WP.blockJ (fun a w=>∃ (x10 : Int),Y 32 [(3,vi x10)] [] no w0 [Box b4 #[vb p1.List_,.string p1.Text,s2] 79] (K12 x10 = some r) a w) ?_ ?_
  ·refine WP.loop (fun n a w=>∃ (x13 : Int) (x14 : Int),Y 32 [(1,vp b4 0),(3,vi x13),(4,vi x14)] [] no w0 [Box b4 #[vb p1.List_,.string p1.Text,s2] 79] (g_tarnref4_deep_l1 p1 (g_tarnref4_deep fuel) K12 fuel n x13 x14 = some r) a w) fuel ⟨0,0,yy H7 [0] h⟩ ?_
   rintro n a w16 ⟨x13,x14,G15,rfl,H17,h⟩
   obtain _ | n:=n
   ·rw [g_tarnref4_deep_l1] at h; cases h
   rw [g_tarnref4_deep_l1] at h
   refine zs ?_
   refine zsg ?_
   refine zr 2 2 [(16,vp b4 2),(15,vi x14)] ?_
   refine zv (s2) (llb H17 0 2) ?_
   refine zv (vi (((List.length p1.Items : Nat) : Int))) (lln (RdD.sl hs3) 79 3 48) ?_
   obtain ⟨c18,e,h⟩:=ls h
   refine zed 1 5 [(19,vb c18)] ?_
   cases c18
   ·replace h:=bf h
    refine zF ?_
    refine WP.exit ?_
    exact then_e (then_e (inb_e (then_n ⟨x13,yy H17 [0] h⟩)))
   replace h:=bt h
   refine zTn ?_
   refine zs ?_
   refine WP.block ?_
   refine zg ?_
   refine zr 2 2 [(23,vp b4 2),(22,vi x13)] ?_
   refine zv (s2) (llb H17 0 2) ?_
   obtain ⟨hg19,h⟩:=gs h
   refine zr 1 4 [(25,vi x14)] ?_
   refine zv (va (slAt s2 3 (Int.toNat x14))) (lli (RdD.sl hs3) 79 3 48 .i64 x14 hg19) ?_
   obtain ⟨x20,hx20,h⟩:=bs h
   obtain ⟨c23,hr24,hc25⟩:=RdD.at_ hs3 _ _ hx20
   obtain ⟨s21,rfl,hs22⟩:=rTItem.opn hr24
   refine zv (.agg #[vb x20.List_,.string x20.Text,s21]) (lld 0 hc25 (St.hp_le H17)) ?_
   obtain ⟨t26,ht26,h⟩:=bs h
   refine zo (oca (ih s21 x20 t26 ht26 _ (RdD.mono (sub_hp (St.hp_le H17)) hs22)) ?_)
   rintro _ w27 ⟨rfl,Hc28⟩
   have H29:=St.call0' H17 Hc28
   clear H17 Hc28
   obtain ⟨x30,e,h⟩:=ls h
   refine zn ?_
   refine ze 2 9 [(3,vi x30),(29,vi x30)] ?_
   refine zd ?_
   refine inb_n (then_n ?_)
   refine zg ?_
   obtain ⟨x31,e,h⟩:=ls h
   refine ze 3 3 [(4,vi x31),(21,vi x31),(20,vi x14)] ?_
   refine zd ?_
   exact then_n ⟨n,lS n,x30,x31,yy H29 [0] h⟩
  rintro a w32 ⟨x10,G11,rfl,H33,h⟩
  subst hK12
  refine then_n ?_
  refine zsg ?_
  obtain ⟨x34,e,h⟩:=ls h
  refine zed 3 3 [(2,vi x34),(31,vi x34),(30,vi x10)] ?_
  refine WP.ret ?_
  obtain rfl:=oi h
  exact post_r (vi x34) rfl (by kernel_rfl) ⟨rfl,sl H33 []⟩
/- tarn/tarnref4.head -/
def g_tarnref4_head (fuel : Nat) (p1 : Int) (p2 : Int) : Option ByteArray :=
  lt (decide (p1 ≤ 55)) fun c3 => br c3 (lt (wr .i64 (p2 + p1)) fun x23 => lt (wr .u8 x23) fun x24 => lt (bsl (([x24] : List Int))) fun t30 => some t30) (bd (g_tarnref1_Of fuel p1) fun t4 => bd (g_tarnref1_Text fuel t4) fun t8 => lt (wr .i64 (p2 + 55)) fun x12 => lt (wr .i64 (x12 + ((slen t8)))) fun x13 => lt (wr .u8 x13) fun x14 => lt (bsl (([x14] : List Int))) fun t20 => gd (slen t20 + slen t8 ≤ 9223372036854775807) <| lt (t20 ++ t8) fun t22 => some t22)
theorem g_tarnref4_head_w (fuel : Nat) (p1 : Int) (p2 : Int) (r : ByteArray) (h : g_tarnref4_head fuel p1 p2 = some r) (w0 : World) :
 Ret Tryz.prog 86 #[vi p1, vi p2] w0 (fun v w' => v = .string r ∧ St no w0 w' []) := by
 unfold g_tarnref4_head at h
 refine ret_of_wpS Tryz.func86 rfl 27 rfl [(0,vi p1),(1,vi p2)] (by kernel_rfl) (fun G=>?_)
 have H0:=St.start w0
 refine zsg ?_
 refine zrd 1 1 [(4,.string ((ByteArray.mk #[])))] ?_
 refine zs ?_
 refine zsg ?_
 obtain ⟨c3,e,h⟩:=ls h
 refine zed 2 2 [(7,vb c3),(6,vi p1)] ?_
 cases c3
 rotate_left
 ·replace h:=bt h
  refine zT ?_
  refine zsg ?_
  obtain ⟨x23,hx23,h⟩:=ls h
  obtain ⟨x24,hx24,h⟩:=ls h
  refine zr 4 4 [(11,.int .u8 x24),(10,vi x23),(9,vi p1),(8,vi p2)] ?_ rfl (fun K=>by subst hx24 hx23; kernel_rfl)
  refine WPI.op rfl (Op1.lit (F:=fU8) (E:=5) H0 (by kernel_rfl) ([x24] : List Int) (fun w=>by kernel_rfl) (by simp [maxLen]) (fun s26 w28 H29=>?_))
  obtain ⟨t30,ht30,h⟩:=ls h
  refine zn ?_
  refine WPI.valueS (.string t30) 13 rfl rfl (by kernel_rfl) (Eq.trans (ev_b2s (St.rd H29 0 rfl) (hp_no_le _) 106 9 5 (.tmp 12) rfl (by kernel_rfl) (by kernel_rfl) (by kernel_rfl) (by kernel_rfl)) (by rw [← ht30])) ?_
  refine zrd 1 7 [(4,.string t30)] ?_
  refine WP.ret ?_
  obtain rfl:=oi h
  exact then_r (post_r (.string t30) rfl (by kernel_rfl) ⟨rfl,sl H29 []⟩)
 replace h:=bf h
 refine zFn ?_
 refine zsg ?_
 obtain ⟨t4,ht4,h⟩:=bs h
 refine zr 1 1 [(14,vi p1)] ?_
 refine zo (oca (g_tarnref1_Of_w fuel p1 t4 ht4 _) ?_)
 rintro _ w5 ⟨rfl,Hc6⟩
 have H7:=St.call0' H0 Hc6
 clear Hc6
 obtain ⟨t8,ht8,h⟩:=bs h
 refine zn ?_
 refine zo (oca (g_tarnref1_Text_w fuel t4 t8 ht8 _) ?_)
 rintro _ w9 ⟨rfl,Hc10⟩
 have H11:=St.call0' H7 Hc10
 clear H7 Hc10
 refine zn ?_
 refine zrd 1 4 [(5,.string t8)] ?_
 refine zsg ?_
 obtain ⟨x12,e,h⟩:=ls h
 refine ze 3 3 [(19,.string t8),(18,vi x12),(17,vi p2)] ?_
 refine WPI.valueS (vi ((slen t8))) 20 rfl rfl (by kernel_rfl) (ev_slen t8 9 (.tmp 19) rfl (by kernel_rfl) (by kernel_rfl)) ?_
 obtain ⟨x13,hx13,h⟩:=ls h
 obtain ⟨x14,hx14,h⟩:=ls h
 refine zr 2 6 [(22,.int .u8 x14),(21,vi x13)] ?_ rfl (fun K=>by subst hx14 hx13; kernel_rfl)
 refine WPI.op rfl (Op1.lit (F:=fU8) (E:=5) H11 (by kernel_rfl) ([x14] : List Int) (fun w=>by kernel_rfl) (by simp [maxLen]) (fun s16 w18 H19=>?_))
 clear H11
 obtain ⟨t20,ht20,h⟩:=ls h
 refine zn ?_
 refine WPI.valueS (.string t20) 24 rfl rfl (by kernel_rfl) (Eq.trans (ev_b2s (St.rd H19 0 rfl) (hp_no_le _) 106 9 5 (.tmp 23) rfl (by kernel_rfl) (by kernel_rfl) (by kernel_rfl) (by kernel_rfl)) (by rw [← ht20])) ?_
 obtain ⟨hg21,h⟩:=gs h
 obtain ⟨t22,ht22,h⟩:=ls h
 refine zr 1 9 [(25,.string t8)] ?_
 refine WPI.valueS (.string t22) 26 rfl rfl (by kernel_rfl) (Eq.trans (ev_cat t20 t8 9 9 (.tmp 24) (.tmp 25) rfl (by kernel_rfl) (by kernel_rfl) hg21) (by rw [← ht22])) ?_
 refine zrd 1 11 [(4,.string t22)] ?_
 refine WP.ret ?_
 obtain rfl:=oi h
 exact post_r (.string t22) rfl (by kernel_rfl) ⟨rfl,sl H19 []⟩
/- tarn/tarnref4.raw -/
def g_tarnref4_raw_l1 (p1 : TItem) (self : (TItem → Option ByteArray)) (K11 : ByteArray → Option ByteArray) (fuel : Nat) : Nat → ByteArray → Int → Option ByteArray
  | 0, _, _ => none
  | n + 1, t12, x13 => jn (fun (c17 : Bool) => br c17 (gd ((0 : Int) ≤ x13 ∧ x13 < ((List.length p1.Items : Nat) : Int)) <| bd (p1.Items[Int.toNat x13]?) fun x25 => bd (self x25) fun t31 => gd (slen t12 + slen t31 ≤ 9223372036854775807) <| lt (t12 ++ t31) fun t36 => lt (wr .i64 (x13 + 1)) fun x37 => g_tarnref4_raw_l1 p1 self K11 fuel n t36 x37) (K11 t12)) fun K19 => lt (decide (x13 < (((List.length p1.Items : Nat) : Int)))) fun c20 => br c20 (lt (decide (((slen t12)) ≤ 131072)) fun c21 => K19 c21) (K19 false)
def g_tarnref4_raw : Nat → TItem → Option ByteArray
  | 0, _ => none
  | fuel + 1, p1 => (fun (self : (TItem → Option ByteArray)) => lt (!p1.List_) fun c8 => br c8 (jn (fun (c46 : Bool) => br c46 (some p1.Text) (bd (g_tarnref4_head fuel ((slen p1.Text)) 128) fun t55 => gd (slen t55 + slen p1.Text ≤ 9223372036854775807) <| lt (t55 ++ p1.Text) fun t57 => some t57)) fun K48 => lt (((slen p1.Text)) == 1) fun c49 => br c49 (gd ((0 : Int) ≤ 0 ∧ 0 < slen p1.Text) <| lt (sget p1.Text 0) fun x51 => lt (decide (x51 < 128)) fun c52 => K48 c52) (K48 false)) (jn (fun (t9 : ByteArray) => bd (g_tarnref4_head fuel ((slen t9)) 192) fun t40 => gd (slen t40 + slen t9 ≤ 9223372036854775807) <| lt (t40 ++ t9) fun t45 => some t45) fun K11 => g_tarnref4_raw_l1 p1 self K11 fuel fuel ((ByteArray.mk #[])) 0)) (g_tarnref4_raw fuel)
theorem g_tarnref4_raw_w : ∀ (fuel : Nat) (s2 : Value) (p1 : TItem) (r : ByteArray) (h : g_tarnref4_raw fuel p1 = some r) (w0 : World) (hs3 : RdD dTItem (hp no w0) s2 p1.Items),
 Ret Tryz.prog 67 #[.agg #[vb p1.List_, .string p1.Text, s2]] w0 (fun v w' => v = .string r ∧ St no w0 w' []) := by
 intro fuel
 induction fuel with
 | zero=>intro s2 p1 r h w0 hs3; unfold g_tarnref4_raw at h; cases h
 | succ fuel ih =>
  intro s2 p1 r h w0 hs3
  rw [g_tarnref4_raw] at h
  have ih:=ih
  refine ret_of_wpS Tryz.func67 rfl 52 rfl [(0,.agg #[vb p1.List_,.string p1.Text,s2])] (by kernel_rfl) (fun G=>?_)
  have H0:=St.start w0
  refine zsg ?_
  refine zo (obx H0 #[vb p1.List_,.string p1.Text,s2] 79 (fun b4 w6 H7=>?_))
  refine zn ?_
  refine zrd 1 2 [(2,.string ((ByteArray.mk #[])))] ?_
  refine zs ?_
  refine zsg ?_
  refine zr 1 1 [(5,vp b4 0)] ?_
  refine zv (vb p1.List_) (llb H7 0 0) ?_
  obtain ⟨c8,e,h⟩:=ls h
  refine zed 1 3 [(7,vb c8)] ?_
  cases c8
  rotate_left
  ·replace h:=bt h
   refine zT ?_
   refine zs ?_
   refine zs ?_
   obtain ⟨K48,hK48,h⟩:=js h
   refine WP.onlyN (fun a w=>∃ (c46 : Bool),Y 52 [(1,vp b4 0),(17,vb c46)] [] no w0 [Box b4 #[vb p1.List_,.string p1.Text,s2] 79] (K48 c46 = some r) a w) ?_ ?_
   ·refine zg ?_
    refine zr 1 1 [(8,vp b4 1)] ?_
    refine zv (.string p1.Text) (llb H7 0 1) ?_
    refine WPI.valueS (vi ((slen p1.Text))) 10 rfl rfl (by kernel_rfl) (ev_slen p1.Text 9 (.tmp 9) rfl (by kernel_rfl) (by kernel_rfl)) ?_
    obtain ⟨c49,e,h⟩:=ls h
    refine ze 2 5 [(12,vb c49),(11,vb c49)] ?_
    cases c49
    ·replace h:=bf h
     refine zr 5 10 [(17,vb false),(16,Z),(15,Z),(14,Z),(13,Z)] ?_
     refine zd ?_
     exact ⟨false,yy H7 [0] h⟩
    replace h:=bt h
    refine zr 1 6 [(13,vp b4 1)] ?_
    refine zv (.string p1.Text) (llb H7 0 1) ?_
    obtain ⟨hg50,h⟩:=gs h
    obtain ⟨x51,hx51,h⟩:=ls h
    refine WPI.valueS (.int .u8 x51) 15 rfl rfl (by kernel_rfl) (Eq.trans (ev_sidx p1.Text .i64 0 9 (.tmp 14) (.const (vi 0)) rfl (by kernel_rfl) (by kernel_rfl) (by kernel_rfl) hg50) (by rw [← hx51])) ?_
    obtain ⟨c52,e,h⟩:=ls h
    refine ze 2 10 [(17,vb c52),(16,vb c52)] ?_
    refine zd ?_
    exact ⟨c52,yy H7 [0] h⟩
   rintro a w53 ⟨c46,G47,rfl,H54,h⟩
   subst hK48
   refine then_n ?_
   cases c46
   rotate_left
   ·replace h:=bt h
    refine zT ?_
    refine zsg ?_
    refine zr 1 1 [(18,vp b4 1)] ?_
    refine zv (.string p1.Text) (llb H54 0 1) ?_
    refine zrd 1 3 [(2,.string p1.Text)] ?_
    refine WP.ret ?_
    obtain rfl:=oi h
    exact then_r (then_r (post_r (.string p1.Text) rfl (by kernel_rfl) ⟨rfl,sl H54 []⟩))
   replace h:=bf h
   refine zFn ?_
   refine zs ?_
   refine WP.quiet (by kernel_rfl) (by kernel_rfl) (by kernel_rfl) (fun w=>St no w0 w [Box b4 #[vb p1.List_,.string p1.Text,s2] 79]) (St.drew H54) ?_
   refine qr 1 1 [(20,vp b4 1)] ?_
   refine qv (.string p1.Text) (fun w H=>llb H 0 1) ?_
   refine WQ.valueS (vi ((slen p1.Text))) 22 rfl rfl (by kernel_rfl) (fun w H=>ev_slen p1.Text 9 (.tmp 21) rfl (by kernel_rfl) (by kernel_rfl)) ?_
   obtain ⟨t55,ht55,h⟩:=bs h
   refine qc (.string t55) (fun w H=>Ret.mono (g_tarnref4_head_w fuel ((slen p1.Text)) 128 t55 ht55 _) fun u w1 hu=>⟨hu.1,St.call0' H hu.2⟩) ?_
   refine qr 1 5 [(24,vp b4 1)] ?_
   refine qv (.string p1.Text) (fun w H=>llb H 0 1) ?_
   obtain ⟨hg56,h⟩:=gs h
   obtain ⟨t57,ht57,h⟩:=ls h
   refine WQ.valueS (.string t57) 26 rfl rfl (by kernel_rfl) (fun w H=>Eq.trans (ev_cat t55 p1.Text 9 9 (.tmp 23) (.tmp 25) rfl (by kernel_rfl) (by kernel_rfl) hg56) (by rw [← ht57])) ?_
   refine qr 1 8 [(2,.string t57)] ?_
   refine qd fun w58 H59=>?_
   refine then_n ?_
   refine WP.ret ?_
   obtain rfl:=oi h
   exact then_r (post_r (.string t57) rfl (by kernel_rfl) ⟨rfl,sl H59 []⟩)
  replace h:=bf h
  refine zFn ?_
  refine zsg ?_
  refine zrd 1 1 [(3,.string ((ByteArray.mk #[])))] ?_
  refine zs ?_
  refine zsg ?_
  refine zrd 1 1 [(4,vi 0)] ?_
  obtain ⟨K11,hK11,h⟩:=js h
  refine WP.blockJ (fun a w=>∃ (t9 : ByteArray),Y 52 [(3,.string t9)] [] no w0 [Box b4 #[vb p1.List_,.string p1.Text,s2] 79] (K11 t9 = some r) a w) ?_ ?_
  ·refine WP.loop (fun n a w=>∃ (t12 : ByteArray) (x13 : Int),Y 52 [(1,vp b4 0),(3,.string t12),(4,vi x13)] [] no w0 [Box b4 #[vb p1.List_,.string p1.Text,s2] 79] (g_tarnref4_raw_l1 p1 (g_tarnref4_raw fuel) K11 fuel n t12 x13 = some r) a w) fuel ⟨((ByteArray.mk #[])),0,yy H7 [0] h⟩ ?_
   rintro n a w15 ⟨t12,x13,G14,rfl,H16,h⟩
   obtain _ | n:=n
   ·rw [g_tarnref4_raw_l1] at h; cases h
   rw [g_tarnref4_raw_l1] at h
   refine zs ?_
   refine zs ?_
   obtain ⟨K19,hK19,h⟩:=js h
   refine WP.onlyN (fun a w=>∃ (c17 : Bool),Y 52 [(1,vp b4 0),(3,.string t12),(4,vi x13),(36,vb c17)] [] no w0 [Box b4 #[vb p1.List_,.string p1.Text,s2] 79] (K19 c17 = some r) a w) ?_ ?_
   ·refine zg ?_
    refine zr 2 2 [(28,vp b4 2),(27,vi x13)] ?_
    refine zv (s2) (llb H16 0 2) ?_
    refine zv (vi (((List.length p1.Items : Nat) : Int))) (lln (RdD.sl hs3) 79 3 48) ?_
    obtain ⟨c20,e,h⟩:=ls h
    refine ze 2 6 [(32,vb c20),(31,vb c20)] ?_
    cases c20
    ·replace h:=bf h
     refine zr 4 10 [(36,vb false),(35,Z),(34,Z),(33,Z)] ?_
     refine zd ?_
     exact ⟨false,yy H16 [0] h⟩
    replace h:=bt h
    refine zr 1 7 [(33,.string t12)] ?_
    refine WPI.valueS (vi ((slen t12))) 34 rfl rfl (by kernel_rfl) (ev_slen t12 9 (.tmp 33) rfl (by kernel_rfl) (by kernel_rfl)) ?_
    obtain ⟨c21,e,h⟩:=ls h
    refine ze 2 10 [(36,vb c21),(35,vb c21)] ?_
    refine zd ?_
    exact ⟨c21,yy H16 [0] h⟩
   rintro a w22 ⟨c17,G18,rfl,H23,h⟩
   subst hK19
   refine then_n ?_
   cases c17
   ·replace h:=bf h
    refine zF ?_
    refine WP.exit ?_
    exact then_e (then_e (inb_e (then_n ⟨t12,yy H23 [0] h⟩)))
   replace h:=bt h
   refine zTn ?_
   refine zs ?_
   refine WP.block ?_
   refine zg ?_
   refine zr 2 2 [(40,vp b4 2),(39,.string t12)] ?_
   refine zv (s2) (llb H23 0 2) ?_
   obtain ⟨hg24,h⟩:=gs h
   refine zr 1 4 [(42,vi x13)] ?_
   refine zv (va (slAt s2 3 (Int.toNat x13))) (lli (RdD.sl hs3) 79 3 48 .i64 x13 hg24) ?_
   obtain ⟨x25,hx25,h⟩:=bs h
   obtain ⟨c28,hr29,hc30⟩:=RdD.at_ hs3 _ _ hx25
   obtain ⟨s26,rfl,hs27⟩:=rTItem.opn hr29
   refine zv (.agg #[vb x25.List_,.string x25.Text,s26]) (lld 0 hc30 (St.hp_le H23)) ?_
   obtain ⟨t31,ht31,h⟩:=bs h
   refine zo (oca (ih s26 x25 t31 ht31 _ (RdD.mono (sub_hp (St.hp_le H23)) hs27)) ?_)
   rintro _ w32 ⟨rfl,Hc33⟩
   have H34:=St.call0' H23 Hc33
   clear H23 Hc33
   obtain ⟨hg35,h⟩:=gs h
   obtain ⟨t36,ht36,h⟩:=ls h
   refine zn ?_
   refine WPI.valueS (.string t36) 46 rfl rfl (by kernel_rfl) (Eq.trans (ev_cat t12 t31 9 9 (.tmp 39) (.tmp 45) rfl (by kernel_rfl) (by kernel_rfl) hg35) (by rw [← ht36])) ?_
   refine zr 1 9 [(3,.string t36)] ?_
   refine zd ?_
   refine inb_n (then_n ?_)
   refine zg ?_
   obtain ⟨x37,e,h⟩:=ls h
   refine ze 3 3 [(4,vi x37),(38,vi x37),(37,vi x13)] ?_
   refine zd ?_
   exact then_n ⟨n,lS n,t36,x37,yy H34 [0] h⟩
  rintro a w38 ⟨t9,G10,rfl,H39,h⟩
  subst hK11
  refine then_n ?_
  refine zsg ?_
  refine zr 1 1 [(47,.string t9)] ?_
  refine WPI.valueS (vi ((slen t9))) 48 rfl rfl (by kernel_rfl) (ev_slen t9 9 (.tmp 47) rfl (by kernel_rfl) (by kernel_rfl)) ?_
  obtain ⟨t40,ht40,h⟩:=bs h
  refine zo (oca (g_tarnref4_head_w fuel ((slen t9)) 192 t40 ht40 _) ?_)
  rintro _ w41 ⟨rfl,Hc42⟩
  have H43:=St.call0' H39 Hc42
  clear H39 Hc42
  obtain ⟨hg44,h⟩:=gs h
  obtain ⟨t45,ht45,h⟩:=ls h
  refine zn ?_
  refine zr 1 4 [(50,.string t9)] ?_
  refine WPI.valueS (.string t45) 51 rfl rfl (by kernel_rfl) (Eq.trans (ev_cat t40 t9 9 9 (.tmp 49) (.tmp 50) rfl (by kernel_rfl) (by kernel_rfl) hg44) (by rw [← ht45])) ?_
  refine zrd 1 6 [(2,.string t45)] ?_
  refine WP.ret ?_
  obtain rfl:=oi h
  exact post_r (.string t45) rfl (by kernel_rfl) ⟨rfl,sl H43 []⟩
/- tarn/tarnref4.Item -/
def g_tarnref4_Item (fuel : Nat) (p1 : TItem) : Option (ByteArray × Bool) :=
  bd (g_tarnref4_deep fuel p1) fun t8 => lt (decide (t8 > 16)) fun c12 => br c12 (some ((ByteArray.mk #[]), false)) (bd (g_tarnref4_raw fuel p1) fun t13 => lt (decide (((slen t13)) > 65536)) fun c17 => br c17 (some ((ByteArray.mk #[]), false)) (some (t13, true)))
theorem g_tarnref4_Item_w (fuel : Nat) (s2 : Value) (p1 : TItem) (r : ByteArray × Bool) (h : g_tarnref4_Item fuel p1 = some r) (w0 : World) (hs3 : RdD dTItem (hp no w0) s2 p1.Items) :
 Ret Tryz.prog 40 #[.agg #[vb p1.List_, .string p1.Text, s2]] w0 (fun v w' => v = .tuple #[.string r.1, vb r.2] ∧ St no w0 w' []) := by
 unfold g_tarnref4_Item at h
 refine ret_of_wpS Tryz.func40 rfl 14 rfl [(0,.agg #[vb p1.List_,.string p1.Text,s2])] (by kernel_rfl) (fun G=>?_)
 have H0:=St.start w0
 refine zsg ?_
 refine zo (obx H0 #[vb p1.List_,.string p1.Text,s2] 79 (fun b4 w6 H7=>?_))
 refine zn ?_
 refine zrd 2 3 [(3,vb false),(2,.string ((ByteArray.mk #[])))] ?_
 refine zs ?_
 refine zsg ?_
 refine zv (.agg #[vb p1.List_,.string p1.Text,s2]) (llb H7 0 0) ?_
 obtain ⟨t8,ht8,h⟩:=bs h
 refine zo (oca (g_tarnref4_deep_w fuel s2 p1 t8 ht8 _ (RdD.mono (sub_hp (St.hp_le H7)) hs3)) ?_)
 rintro _ w9 ⟨rfl,Hc10⟩
 have H11:=St.call0' H7 Hc10
 clear H7 Hc10
 obtain ⟨c12,e,h⟩:=ls h
 refine zn ?_
 refine zed 1 3 [(7,vb c12)] ?_
 cases c12
 rotate_left
 ·replace h:=bt h
  refine zT ?_
  refine zsg ?_
  refine zrd 2 2 [(3,vb false),(2,.string ((ByteArray.mk #[])))] ?_
  refine WP.ret ?_
  obtain rfl:=oi h
  exact then_r (post_r (.tuple #[.string ((ByteArray.mk #[])),vb false]) rfl (by kernel_rfl) ⟨rfl,sl H11 []⟩)
 replace h:=bf h
 refine zFn ?_
 refine zsg ?_
 refine zv (.agg #[vb p1.List_,.string p1.Text,s2]) (llb H11 0 0) ?_
 obtain ⟨t13,ht13,h⟩:=bs h
 refine zo (oca (g_tarnref4_raw_w fuel s2 p1 t13 ht13 _ (RdD.mono (sub_hp (St.hp_le H11)) hs3)) ?_)
 rintro _ w14 ⟨rfl,Hc15⟩
 have H16:=St.call0' H11 Hc15
 clear H11 Hc15
 refine zn ?_
 refine zrd 1 3 [(4,.string t13)] ?_
 refine zs ?_
 refine zsg ?_
 refine zr 1 1 [(10,.string t13)] ?_
 refine WPI.valueS (vi ((slen t13))) 11 rfl rfl (by kernel_rfl) (ev_slen t13 9 (.tmp 10) rfl (by kernel_rfl) (by kernel_rfl)) ?_
 obtain ⟨c17,e,h⟩:=ls h
 refine zed 1 3 [(12,vb c17)] ?_
 cases c17
 ·replace h:=bf h
  refine zFn ?_
  refine zsg ?_
  refine zrd 3 3 [(3,vb true),(2,.string t13),(13,.string t13)] ?_
  refine WP.ret ?_
  obtain rfl:=oi h
  exact post_r (.tuple #[.string t13,vb true]) rfl (by kernel_rfl) ⟨rfl,sl H16 []⟩
 replace h:=bt h
 refine zT ?_
 refine zsg ?_
 refine zrd 2 2 [(3,vb false),(2,.string ((ByteArray.mk #[])))] ?_
 refine WP.ret ?_
 obtain rfl:=oi h
 exact then_r (post_r (.tuple #[.string ((ByteArray.mk #[])),vb false]) rfl (by kernel_rfl) ⟨rfl,sl H16 []⟩)
/- tarn/tarnref7.Bytes -/
def g_tarnref7_Bytes_l1 (p1 : TTx) (fuel : Nat) (K28 : (List TItem) → Option ByteArray) : Nat → (List TItem) → Int → Option ByteArray
  | 0, _, _ => none
  | n + 1, l30, x34 => lt (decide (x34 < (((List.length p1.Hashes : Nat) : Int)))) fun c39 => br c39 (jn (fun (l40 : List TItem) => lt (wr .i64 (x34 + 1)) fun x76 => g_tarnref7_Bytes_l1 p1 fuel K28 n l40 x76) fun K45 => gd ((0 : Int) ≤ x34 ∧ x34 < ((List.length p1.Hashes : Nat) : Int)) <| bd (p1.Hashes[Int.toNat x34]?) fun x48 => bd (g_tarnref4_MarkText fuel x48) fun t49 => bd (g_tarnref7_text fuel t49) fun t53 => gd ((List.length l30 + List.length (([TItem.mk t53.List_ t53.Text ([])] : List TItem))) * 48 ≤ 140737488355328) <| lt (l30 ++ (([TItem.mk t53.List_ t53.Text ([])] : List TItem))) fun l65 => K45 l65) (K28 l30)
def g_tarnref7_Bytes_l2 (p1 : TTx) (fuel : Nat) (K86 : (List TItem) → Option ByteArray) : Nat → (List TItem) → Int → Option ByteArray
  | 0, _, _ => none
  | n + 1, l88, x92 => lt (decide (x92 < (((List.length p1.Blobs : Nat) : Int)))) fun c98 => br c98 (jn (fun (l99 : List TItem) => lt (wr .i64 (x92 + 1)) fun x132 => g_tarnref7_Bytes_l2 p1 fuel K86 n l99 x132) fun K104 => gd ((0 : Int) ≤ x92 ∧ x92 < ((List.length p1.Blobs : Nat) : Int)) <| bd (p1.Blobs[Int.toNat x92]?) fun x107 => bd (g_tarnref7_text fuel x107) fun t108 => gd ((List.length l88 + List.length (([TItem.mk t108.List_ t108.Text ([])] : List TItem))) * 48 ≤ 140737488355328) <| lt (l88 ++ (([TItem.mk t108.List_ t108.Text ([])] : List TItem))) fun l120 => K104 l120) (K86 l88)
def g_tarnref7_Bytes (fuel : Nat) (p1 : TTx) : Option ByteArray :=
  jn (fun (l23 : List TItem) => jn (fun (l81 : List TItem) => jn (fun (t147 : ByteArray) => some t147) fun K149 => bd (g_tarnref7_number fuel p1.From) fun t151 => bd (g_tarnref7_number fuel p1.Nonce) fun t155 => bd (g_tarnref1_Text fuel p1.Tip) fun t159 => bd (g_tarnref7_text fuel t159) fun t163 => bd (g_tarnref1_Text fuel p1.Cap) fun t167 => bd (g_tarnref7_text fuel t167) fun t171 => bd (g_tarnref1_Text fuel p1.BlobCap) fun t175 => bd (g_tarnref7_text fuel t175) fun t179 => bd (g_tarnref1_Text fuel p1.Value_) fun t183 => bd (g_tarnref7_text fuel t183) fun t187 => bd (g_tarnref7_number fuel p1.Gas) fun t191 => bd (g_tarnref4_Item fuel (TItem.mk true ByteArray.empty (([TItem.mk t151.List_ t151.Text ([]), TItem.mk t155.List_ t155.Text ([]), TItem.mk t163.List_ t163.Text ([]), TItem.mk t171.List_ t171.Text ([]), TItem.mk t179.List_ t179.Text ([]), TItem.mk t187.List_ t187.Text ([]), TItem.mk t191.List_ t191.Text ([]), TItem.mk true ByteArray.empty l23, TItem.mk true ByteArray.empty l81] : List TItem)))) fun t210 => K149 t210.1) fun K86 => g_tarnref7_Bytes_l2 p1 fuel K86 fuel ([]) 0) fun K28 => g_tarnref7_Bytes_l1 p1 fuel K28 fuel ([]) 0
theorem g_tarnref7_Bytes_w (fuel : Nat) (s2 s4 : Value) (p1 : TTx) (r : ByteArray) (h : g_tarnref7_Bytes fuel p1 = some r) (w0 : World) (hs3 : Rd fU64 (hp no w0) s2 p1.Hashes) (hs5 : Rd fStr (hp no w0) s4 p1.Blobs) :
 Ret Tryz.prog 19 #[(gTx p1 s2 s4)] w0 (fun v w' => v = .string r ∧ St no w0 w' []) := by
 unfold g_tarnref7_Bytes at h
 refine ret_of_wpS Tryz.func19 rfl 82 rfl [(0,(gTx p1 s2 s4))] (by kernel_rfl) (fun G=>?_)
 have H0:=St.fz0 (St.start w0)
 refine zsg ?_
 refine zo (obx H0 #[vi p1.From,vi p1.Nonce,vu p1.Tip.e0,vu p1.Tip.e1,vu p1.Tip.e2,vu p1.Tip.e3,vu p1.Cap.e0,vu p1.Cap.e1,vu p1.Cap.e2,vu p1.Cap.e3,vu p1.BlobCap.e0,vu p1.BlobCap.e1,vu p1.BlobCap.e2,vu p1.BlobCap.e3,vu p1.Value_.e0,vu p1.Value_.e1,vu p1.Value_.e2,vu p1.Value_.e3,vi p1.Gas,s2,s4] 44 (fun b6 w8 H9=>?_))
 refine zn ?_
 refine zrd 1 2 [(2,.string ((ByteArray.mk #[])))] ?_
 refine zsg ?_
 refine zr 2 2 [(10,.agg #[vb true,.string ByteArray.empty,vn]),(9,.agg #[vb true,.string ByteArray.empty,vn])] ?_
 refine zo (oal H9 #[vb false,.string ByteArray.empty,vn] 79 (fun b10 w12 H13=>?_))
 clear H9
 refine zn ?_
 refine zo (oal H13 #[vb false,.string ByteArray.empty,vn] 79 (fun b14 w16 H17=>?_))
 clear H13
 refine zn ?_
 refine zo (osb H17 1 0 (.agg #[vb true,.string ByteArray.empty,vn]) #[vb true,.string ByteArray.empty,vn] true (oc1 rfl (oc1 rfl (oc1 rfl oc0))) (fun w18 H19=>?_))
 clear H17
 refine z0 ?_
 refine zo (osb H19 1 0 (.agg #[vb true,.string ByteArray.empty,vn]) #[vb true,.string ByteArray.empty,vn] true (oc1 rfl (oc1 rfl (oc1 rfl oc0))) (fun w20 H21=>?_))
 clear H19
 refine z0 ?_
 refine zdn ?_
 refine zs ?_
 refine zsg ?_
 refine zrd 1 1 [(5,vi 0)] ?_
 obtain ⟨K28,hK28,h⟩:=js h
 refine WP.blockJ (fun a w=>∃ (l23 : List TItem) (s24 : Value) (cs25 : List (Cells dTItem.sz)) (G27 : Nat → Value),a = S 82 G27 [(1,vp b6 0),(3,vp b10 0),(4,vp b14 0)] []∧St no w0 w [Fz (fun _=>none),Box b14 #[vb true,.string ByteArray.empty,vn] 79,Box b10 #[vb true,.string ByteArray.empty,s24] 79,Box b6 #[vi p1.From,vi p1.Nonce,vu p1.Tip.e0,vu p1.Tip.e1,vu p1.Tip.e2,vu p1.Tip.e3,vu p1.Cap.e0,vu p1.Cap.e1,vu p1.Cap.e2,vu p1.Cap.e3,vu p1.BlobCap.e0,vu p1.BlobCap.e1,vu p1.BlobCap.e2,vu p1.BlobCap.e3,vu p1.Value_.e0,vu p1.Value_.e1,vu p1.Value_.e2,vu p1.Value_.e3,vi p1.Gas,s2,s4] 44,Own (fD dTItem) 79 s24 cs25]∧F2 (dTItem.rel ((un (hp no w0) (fun _=>none)))) l23 cs25∧K28 l23 = some r) ?_ ?_
 ·refine WP.loop (fun n a w=>∃ (l30 : List TItem) (x34 : Int) (s31 : Value) (cs32 : List (Cells dTItem.sz)) (G35 : Nat → Value),a = S 82 G35 [(1,vp b6 0),(3,vp b10 0),(4,vp b14 0),(5,vi x34)] []∧St no w0 w [Fz (fun _=>none),Box b14 #[vb true,.string ByteArray.empty,vn] 79,Box b10 #[vb true,.string ByteArray.empty,s31] 79,Box b6 #[vi p1.From,vi p1.Nonce,vu p1.Tip.e0,vu p1.Tip.e1,vu p1.Tip.e2,vu p1.Tip.e3,vu p1.Cap.e0,vu p1.Cap.e1,vu p1.Cap.e2,vu p1.Cap.e3,vu p1.BlobCap.e0,vu p1.BlobCap.e1,vu p1.BlobCap.e2,vu p1.BlobCap.e3,vu p1.Value_.e0,vu p1.Value_.e1,vu p1.Value_.e2,vu p1.Value_.e3,vi p1.Gas,s2,s4] 44,Own (fD dTItem) 79 s31 cs32]∧F2 (dTItem.rel ((un (hp no w0) (fun _=>none)))) l30 cs32∧g_tarnref7_Bytes_l1 p1 fuel K28 n l30 x34 = some r) fuel ⟨([]),0,vn,([]),yy (St.nil H21 (fD dTItem) 79) [4,1,2,3,0] ⟨(F2.nil _),h⟩⟩ ?_
  rintro n a w36 ⟨l30,x34,s31,cs32,G35,rfl,H37,hf33,h⟩
  obtain _ | n:=n
  ·rw [g_tarnref7_Bytes_l1] at h; cases h
  rw [g_tarnref7_Bytes_l1] at h
  refine zs ?_
  refine zsg ?_
  refine zr 2 2 [(12,vp b6 19),(11,vi x34)] ?_
  refine zv (s2) (llb H37 3 19) ?_
  refine zv (vi (((List.length p1.Hashes : Nat) : Int))) (lln (Rd.sl hs3) 22 1 8) ?_
  obtain ⟨c39,e,h⟩:=ls h
  refine zed 1 5 [(15,vb c39)] ?_
  cases c39
  ·replace h:=bf h
   refine zF ?_
   refine WP.exit ?_
   exact then_e (then_e (inb_e (then_n ⟨l30,s31,cs32,yy H37 [0,1,2,3,4] ⟨hf33,h⟩⟩)))
  replace h:=bt h
  refine zTn ?_
  refine zs ?_
  refine WP.block ?_
  obtain ⟨K45,hK45,h⟩:=js h
  refine WP.drawI (by kernel_rfl) (by kernel_rfl) (fun w=>St no w0 w [Fz (fun _=>none),Box b14 #[vb true,.string ByteArray.empty,vn] 79,Box b6 #[vi p1.From,vi p1.Nonce,vu p1.Tip.e0,vu p1.Tip.e1,vu p1.Tip.e2,vu p1.Tip.e3,vu p1.Cap.e0,vu p1.Cap.e1,vu p1.Cap.e2,vu p1.Cap.e3,vu p1.BlobCap.e0,vu p1.BlobCap.e1,vu p1.BlobCap.e2,vu p1.BlobCap.e3,vu p1.Value_.e0,vu p1.Value_.e1,vu p1.Value_.e2,vu p1.Value_.e3,vi p1.Gas,s2,s4] 44]) [10,12] (fun w=>St no w0 w [Fz (fun _=>none),Box b14 #[vb true,.string ByteArray.empty,vn] 79,Box b10 #[vb true,.string ByteArray.empty,s31] 79,Box b6 #[vi p1.From,vi p1.Nonce,vu p1.Tip.e0,vu p1.Tip.e1,vu p1.Tip.e2,vu p1.Tip.e3,vu p1.Cap.e0,vu p1.Cap.e1,vu p1.Cap.e2,vu p1.Cap.e3,vu p1.BlobCap.e0,vu p1.BlobCap.e1,vu p1.BlobCap.e2,vu p1.BlobCap.e3,vu p1.Value_.e0,vu p1.Value_.e1,vu p1.Value_.e2,vu p1.Value_.e3,vi p1.Gas,s2,s4] 44,Own (fD dTItem) 79 s31 cs32]) (fun a w=>∃ (l40 : List TItem) (s41 : Value) (cs42 : List (Cells dTItem.sz)) (G44 : Nat → Value),a = S 82 G44 [(1,vp b6 0),(3,vp b10 0),(4,vp b14 0),(5,vi x34)] []∧St no w0 w [Fz (fun _=>none),Box b14 #[vb true,.string ByteArray.empty,vn] 79,Box b10 #[vb true,.string ByteArray.empty,s41] 79,Box b6 #[vi p1.From,vi p1.Nonce,vu p1.Tip.e0,vu p1.Tip.e1,vu p1.Tip.e2,vu p1.Tip.e3,vu p1.Cap.e0,vu p1.Cap.e1,vu p1.Cap.e2,vu p1.Cap.e3,vu p1.BlobCap.e0,vu p1.BlobCap.e1,vu p1.BlobCap.e2,vu p1.BlobCap.e3,vu p1.Value_.e0,vu p1.Value_.e1,vu p1.Value_.e2,vu p1.Value_.e3,vi p1.Gas,s2,s4] 44,Own (fD dTItem) 79 s41 cs42]∧F2 (dTItem.rel ((un (hp no w0) (fun _=>none)))) l40 cs42∧K45 l40 = some r) 13 #[F,F,F,F,F,F,F,F,F,F,F,F,F] (by kernel_rfl) (by kernel_rfl) ?_ ?_
  ·have H46:=St.drew H37
   refine WI.runS [0] 12 _ #[T,F,F,F,F,F,F,F,F,F,F,F,F] [(18,vp b10 2)] rfl (fun K=>by kernel_rfl) ?_
   refine WI.takeT 1 (s31) 19 rfl rfl (by kernel_rfl) (by kernel_rfl) (by kernel_rfl) (fun w H=>ev_loadBox H 2 rfl 77 (.tmp 18) 2 (s31) rfl (by kernel_rfl) (by kernel_rfl)) (li':=#[T,T,F,F,F,F,F,F,F,F,F,F,F]) (by kernel_rfl) ?_
   refine WI.runS [2] 10 _ #[T,T,T,F,F,F,F,F,F,F,F,F,F] [(20,vp b6 19)] rfl (fun K=>by kernel_rfl) ?_
   refine WI.takeS 3 (s2) 21 rfl rfl (by kernel_rfl) (by kernel_rfl) (fun w H=>ev_loadBox H 2 rfl 41 (.tmp 20) 19 (s2) rfl (by kernel_rfl) (by kernel_rfl)) (li':=#[T,T,T,T,F,F,F,F,F,F,F,F,F]) (by kernel_rfl) ?_
   obtain ⟨hg47,h⟩:=gs h
   refine WI.runS [4] 8 _ #[T,T,T,T,T,F,F,F,F,F,F,F,F] [(22,vi x34)] rfl (fun K=>by kernel_rfl) ?_
   refine WI.takeS 5 (va (slAt s2 1 (Int.toNat x34))) 23 rfl rfl (by kernel_rfl) (by kernel_rfl) (fun w H=>ev_index (Rd.sl hs3) 41 (.tmp 21) (.tmp 22) 22 1 8 .i64 x34 rfl (by kernel_rfl) (by kernel_rfl) (by kernel_rfl) hg47) (li':=#[T,T,T,T,T,T,F,F,F,F,F,F,F]) (by kernel_rfl) ?_
   obtain ⟨x48,hx48,h⟩:=bs h
   refine WI.takeS 6 (vu x48) 24 rfl rfl (by kernel_rfl) (by kernel_rfl) (fun w H=>ev_loadEl (F:=fU64) hs3 (St.hp_le H) hx48 22 (.tmp 23) 0 (vu x48) rfl (by kernel_rfl) (by kernel_rfl)) (li':=#[T,T,T,T,T,T,T,F,F,F,F,F,F]) (by kernel_rfl) ?_
   obtain ⟨t49,ht49,h⟩:=bs h
   refine WI.one 7 (by kernel_rfl) (nod (sl H46 [0,1,3]) (sl H46 [0,1,2,3,4])) rfl (Op1.call (by kernel_rfl) (by kernel_rfl) (g_tarnref4_MarkText_w fuel x48 t49 ht49 _) ?_)
   rintro _ w50 ⟨rfl,Hc51⟩
   have H52:=St.call0' H46 Hc51
   clear H46 Hc51
   refine WI.nS 25 #[T,T,T,T,T,T,T,T,F,F,F,F,F] (by kernel_rfl) rfl ?_
   obtain ⟨t53,ht53,h⟩:=bs h
   refine WI.one 8 (by kernel_rfl) (nod (sl H52 [0,1,3]) (sl H52 [0,1,2,3,4])) rfl (Op1.call (by kernel_rfl) (by kernel_rfl) (g_tarnref7_text_w fuel t49 t53 ht53 _) ?_)
   rintro _ w54 ⟨rfl,Hc55⟩
   have H56:=St.call0' H52 Hc55
   clear H52 Hc55
   refine WI.nS 26 #[T,T,T,T,T,T,T,T,T,F,F,F,F] (by kernel_rfl) rfl ?_
   have hd57 : dTItem.rel ((un (hp no w0) (fun _=>none))) (TItem.mk t53.List_ t53.Text ([])) [vb t53.List_,.string t53.Text,vn]:=rTItem.of (x:=TItem.mk t53.List_ t53.Text ([])) (RdD.nil dTItem _)
   have hf61 : F2 (dTItem.rel ((un (hp no w0) (fun _=>none)))) ([TItem.mk t53.List_ t53.Text ([])] : List TItem) ([dTItem.ce hd57] : List (Cells dTItem.sz)):=(F2.cons hd57 (F2.nil _))
   refine WI.one 9 (by kernel_rfl) (nod (sl H56 [0,1,3]) (sl H56 [0,1,2,3,4])) rfl (Op1.lit (F:=fD dTItem) (E:=79) H56 (by kernel_rfl) ([dTItem.ce hd57] : List (Cells dTItem.sz)) (fun w=>by kernel_rfl) (by simp [maxLen]) (fun s59 w62 H63=>?_))
   clear H56
   refine WI.nS 27 #[T,T,T,T,T,T,T,T,T,T,F,F,F] (by kernel_rfl) rfl ?_
   obtain ⟨hg64,h⟩:=gs h
   obtain ⟨l65,hl65,h⟩:=ls h
   refine WI.one 10 (by kernel_rfl) (nod (sl H63 [1,2,4]) (sl H63 [1,2,3,4,5])) rfl (Op1.append (F:=fD dTItem) H63 5 rfl (by kernel_rfl) 77 (.tmp 19) (.tmp 27) 48 rfl (by kernel_rfl) (by kernel_rfl) s59 (([dTItem.ce hd57] : List (Cells dTItem.sz))) (St.rd H63 0 rfl) (hp_no_le _) (by kernel_rfl) (app_lenD hf33.1 hf61.1 hg64 (by decide)) (fun s66 w69 H70=>?_))
   clear H63
   have hf68 : F2 (dTItem.rel ((un (hp no w0) (fun _=>none)))) l65 (cs32 ++ ([dTItem.ce hd57] : List (Cells dTItem.sz))):=by rw [hl65]; exact F2.append hf33 hf61
   have sf67:=Own.slD (St.get H70 0 rfl) hf68
   refine WI.nS 28 #[T,T,T,T,T,T,T,T,T,T,T,F,F] (by kernel_rfl) rfl ?_
   refine WI.runS [11] 1 _ #[T,T,T,T,T,T,T,T,T,T,T,T,F] [(29,vp b10 2)] rfl (fun K=>by kernel_rfl) ?_
   refine WI.one 12 (by kernel_rfl) (nod0 (sl H70 [2,3,5]) 10 (by decide) (by kernel_rfl)) rfl (Op1.storeBoxS H70 4 rfl (by kernel_rfl) 77 (.tmp 29) (.tmp 28) 2 (s66) #[vb true,.string ByteArray.empty,s66] sf67 rfl (by kernel_rfl) (by kernel_rfl) (by kernel_rfl) (by kernel_rfl) (by kernel_rfl) (fun w71 H72=>?_))
   clear H70
   refine WI.nS0 #[T,T,T,T,T,T,T,T,T,T,T,T,T] (by kernel_rfl) rfl ?_
   refine WI.done (by kernel_rfl) (nod0 (sl H72 [3,4,5]) 10 (by decide) (by kernel_rfl)) ?_
   exact ⟨l65,s66,((cs32 ++ ([dTItem.ce hd57] : List (Cells dTItem.sz)))),yy H72 [3,4,0,5,1] ⟨hf68,h⟩⟩
  rintro a w73 ⟨l40,s41,cs42,G44,rfl,H74,hf43,h⟩
  subst hK45
  refine inb_n (then_n ?_)
  refine zg ?_
  obtain ⟨x76,e,h⟩:=ls h
  refine ze 3 3 [(5,vi x76),(17,vi x76),(16,vi x34)] ?_
  refine zd ?_
  exact then_n ⟨n,lS n,l40,x76,s41,cs42,yy H74 [0,1,2,3,4] ⟨hf43,h⟩⟩
 rintro a w77 ⟨l23,s24,cs25,G27,rfl,H78,hf26,h⟩
 subst hK28
 refine then_n ?_
 refine zs ?_
 refine zsg ?_
 refine zrd 1 1 [(6,vi 0)] ?_
 obtain ⟨K86,hK86,h⟩:=js h
 refine WP.blockJ (fun a w=>∃ (l81 : List TItem) (s82 : Value) (cs83 : List (Cells dTItem.sz)) (G85 : Nat → Value),a = S 82 G85 [(1,vp b6 0),(3,vp b10 0),(4,vp b14 0)] []∧St no w0 w [Fz (fun _=>none),Box b14 #[vb true,.string ByteArray.empty,s82] 79,Box b10 #[vb true,.string ByteArray.empty,s24] 79,Box b6 #[vi p1.From,vi p1.Nonce,vu p1.Tip.e0,vu p1.Tip.e1,vu p1.Tip.e2,vu p1.Tip.e3,vu p1.Cap.e0,vu p1.Cap.e1,vu p1.Cap.e2,vu p1.Cap.e3,vu p1.BlobCap.e0,vu p1.BlobCap.e1,vu p1.BlobCap.e2,vu p1.BlobCap.e3,vu p1.Value_.e0,vu p1.Value_.e1,vu p1.Value_.e2,vu p1.Value_.e3,vi p1.Gas,s2,s4] 44,Own (fD dTItem) 79 s24 cs25,Own (fD dTItem) 79 s82 cs83]∧F2 (dTItem.rel ((un (hp no w0) (fun _=>none)))) l81 cs83∧K86 l81 = some r) ?_ ?_
 ·refine WP.loop (fun n a w=>∃ (l88 : List TItem) (x92 : Int) (s89 : Value) (cs90 : List (Cells dTItem.sz)) (G93 : Nat → Value),a = S 82 G93 [(1,vp b6 0),(3,vp b10 0),(4,vp b14 0),(6,vi x92)] []∧St no w0 w [Fz (fun _=>none),Box b14 #[vb true,.string ByteArray.empty,s89] 79,Box b10 #[vb true,.string ByteArray.empty,s24] 79,Box b6 #[vi p1.From,vi p1.Nonce,vu p1.Tip.e0,vu p1.Tip.e1,vu p1.Tip.e2,vu p1.Tip.e3,vu p1.Cap.e0,vu p1.Cap.e1,vu p1.Cap.e2,vu p1.Cap.e3,vu p1.BlobCap.e0,vu p1.BlobCap.e1,vu p1.BlobCap.e2,vu p1.BlobCap.e3,vu p1.Value_.e0,vu p1.Value_.e1,vu p1.Value_.e2,vu p1.Value_.e3,vi p1.Gas,s2,s4] 44,Own (fD dTItem) 79 s24 cs25,Own (fD dTItem) 79 s89 cs90]∧F2 (dTItem.rel ((un (hp no w0) (fun _=>none)))) l88 cs90∧g_tarnref7_Bytes_l2 p1 fuel K86 n l88 x92 = some r) fuel ⟨([]),0,vn,([]),yy (St.nil H78 (fD dTItem) 79) [1,2,3,4,5,0] ⟨(F2.nil _),h⟩⟩ ?_
  rintro n a w94 ⟨l88,x92,s89,cs90,G93,rfl,H95,hf91,h⟩
  obtain _ | n:=n
  ·rw [g_tarnref7_Bytes_l2] at h; cases h
  rw [g_tarnref7_Bytes_l2] at h
  refine zs ?_
  refine zsg ?_
  refine zr 2 2 [(31,vp b6 20),(30,vi x92)] ?_
  refine zv (s4) (llb H95 3 20) ?_
  refine zv (vi (((List.length p1.Blobs : Nat) : Int))) (lln (Rd.sl hs5) 9 1 16) ?_
  obtain ⟨c98,e,h⟩:=ls h
  refine zed 1 5 [(34,vb c98)] ?_
  cases c98
  ·replace h:=bf h
   refine zF ?_
   refine WP.exit ?_
   exact then_e (then_e (inb_e (then_n ⟨l88,s89,cs90,yy H95 [0,1,2,3,4,5] ⟨hf91,h⟩⟩)))
  replace h:=bt h
  refine zTn ?_
  refine zs ?_
  refine WP.block ?_
  obtain ⟨K104,hK104,h⟩:=js h
  refine WP.drawI (by kernel_rfl) (by kernel_rfl) (fun w=>St no w0 w [Fz (fun _=>none),Box b10 #[vb true,.string ByteArray.empty,s24] 79,Box b6 #[vi p1.From,vi p1.Nonce,vu p1.Tip.e0,vu p1.Tip.e1,vu p1.Tip.e2,vu p1.Tip.e3,vu p1.Cap.e0,vu p1.Cap.e1,vu p1.Cap.e2,vu p1.Cap.e3,vu p1.BlobCap.e0,vu p1.BlobCap.e1,vu p1.BlobCap.e2,vu p1.BlobCap.e3,vu p1.Value_.e0,vu p1.Value_.e1,vu p1.Value_.e2,vu p1.Value_.e3,vi p1.Gas,s2,s4] 44]) [9,11] (fun w=>St no w0 w [Fz (fun _=>none),Box b14 #[vb true,.string ByteArray.empty,s89] 79,Box b10 #[vb true,.string ByteArray.empty,s24] 79,Box b6 #[vi p1.From,vi p1.Nonce,vu p1.Tip.e0,vu p1.Tip.e1,vu p1.Tip.e2,vu p1.Tip.e3,vu p1.Cap.e0,vu p1.Cap.e1,vu p1.Cap.e2,vu p1.Cap.e3,vu p1.BlobCap.e0,vu p1.BlobCap.e1,vu p1.BlobCap.e2,vu p1.BlobCap.e3,vu p1.Value_.e0,vu p1.Value_.e1,vu p1.Value_.e2,vu p1.Value_.e3,vi p1.Gas,s2,s4] 44,Own (fD dTItem) 79 s24 cs25,Own (fD dTItem) 79 s89 cs90]) (fun a w=>∃ (l99 : List TItem) (s100 : Value) (cs101 : List (Cells dTItem.sz)) (G103 : Nat → Value),a = S 82 G103 [(1,vp b6 0),(3,vp b10 0),(4,vp b14 0),(6,vi x92)] []∧St no w0 w [Fz (fun _=>none),Box b14 #[vb true,.string ByteArray.empty,s100] 79,Box b10 #[vb true,.string ByteArray.empty,s24] 79,Box b6 #[vi p1.From,vi p1.Nonce,vu p1.Tip.e0,vu p1.Tip.e1,vu p1.Tip.e2,vu p1.Tip.e3,vu p1.Cap.e0,vu p1.Cap.e1,vu p1.Cap.e2,vu p1.Cap.e3,vu p1.BlobCap.e0,vu p1.BlobCap.e1,vu p1.BlobCap.e2,vu p1.BlobCap.e3,vu p1.Value_.e0,vu p1.Value_.e1,vu p1.Value_.e2,vu p1.Value_.e3,vi p1.Gas,s2,s4] 44,Own (fD dTItem) 79 s24 cs25,Own (fD dTItem) 79 s100 cs101]∧F2 (dTItem.rel ((un (hp no w0) (fun _=>none)))) l99 cs101∧K104 l99 = some r) 12 #[F,F,F,F,F,F,F,F,F,F,F,F] (by kernel_rfl) (by kernel_rfl) ?_ ?_
  ·have H105:=St.drew H95
   refine WI.runS [0] 11 _ #[T,F,F,F,F,F,F,F,F,F,F,F] [(37,vp b14 2)] rfl (fun K=>by kernel_rfl) ?_
   refine WI.takeT 1 (s89) 38 rfl rfl (by kernel_rfl) (by kernel_rfl) (by kernel_rfl) (fun w H=>ev_loadBox H 1 rfl 77 (.tmp 37) 2 (s89) rfl (by kernel_rfl) (by kernel_rfl)) (li':=#[T,T,F,F,F,F,F,F,F,F,F,F]) (by kernel_rfl) ?_
   refine WI.runS [2] 9 _ #[T,T,T,F,F,F,F,F,F,F,F,F] [(39,vp b6 20)] rfl (fun K=>by kernel_rfl) ?_
   refine WI.takeS 3 (s4) 40 rfl rfl (by kernel_rfl) (by kernel_rfl) (fun w H=>ev_loadBox H 2 rfl 42 (.tmp 39) 20 (s4) rfl (by kernel_rfl) (by kernel_rfl)) (li':=#[T,T,T,T,F,F,F,F,F,F,F,F]) (by kernel_rfl) ?_
   obtain ⟨hg106,h⟩:=gs h
   refine WI.runS [4] 7 _ #[T,T,T,T,T,F,F,F,F,F,F,F] [(41,vi x92)] rfl (fun K=>by kernel_rfl) ?_
   refine WI.takeS 5 (va (slAt s4 1 (Int.toNat x92))) 42 rfl rfl (by kernel_rfl) (by kernel_rfl) (fun w H=>ev_index (Rd.sl hs5) 42 (.tmp 40) (.tmp 41) 9 1 16 .i64 x92 rfl (by kernel_rfl) (by kernel_rfl) (by kernel_rfl) hg106) (li':=#[T,T,T,T,T,T,F,F,F,F,F,F]) (by kernel_rfl) ?_
   obtain ⟨x107,hx107,h⟩:=bs h
   refine WI.takeS 6 (.string x107) 43 rfl rfl (by kernel_rfl) (by kernel_rfl) (fun w H=>ev_loadEl (F:=fStr) hs5 (St.hp_le H) hx107 9 (.tmp 42) 0 (.string x107) rfl (by kernel_rfl) (by kernel_rfl)) (li':=#[T,T,T,T,T,T,T,F,F,F,F,F]) (by kernel_rfl) ?_
   obtain ⟨t108,ht108,h⟩:=bs h
   refine WI.one 7 (by kernel_rfl) (nod (sl H105 [0,2,3]) (sl H105 [0,1,2,3,4,5])) rfl (Op1.call (by kernel_rfl) (by kernel_rfl) (g_tarnref7_text_w fuel x107 t108 ht108 _) ?_)
   rintro _ w109 ⟨rfl,Hc110⟩
   have H111:=St.call0' H105 Hc110
   clear H105 Hc110
   refine WI.nS 44 #[T,T,T,T,T,T,T,T,F,F,F,F] (by kernel_rfl) rfl ?_
   have hd112 : dTItem.rel ((un (hp no w0) (fun _=>none))) (TItem.mk t108.List_ t108.Text ([])) [vb t108.List_,.string t108.Text,vn]:=rTItem.of (x:=TItem.mk t108.List_ t108.Text ([])) (RdD.nil dTItem _)
   have hf116 : F2 (dTItem.rel ((un (hp no w0) (fun _=>none)))) ([TItem.mk t108.List_ t108.Text ([])] : List TItem) ([dTItem.ce hd112] : List (Cells dTItem.sz)):=(F2.cons hd112 (F2.nil _))
   refine WI.one 8 (by kernel_rfl) (nod (sl H111 [0,2,3]) (sl H111 [0,1,2,3,4,5])) rfl (Op1.lit (F:=fD dTItem) (E:=79) H111 (by kernel_rfl) ([dTItem.ce hd112] : List (Cells dTItem.sz)) (fun w=>by kernel_rfl) (by simp [maxLen]) (fun s114 w117 H118=>?_))
   clear H111
   refine WI.nS 45 #[T,T,T,T,T,T,T,T,T,F,F,F] (by kernel_rfl) rfl ?_
   obtain ⟨hg119,h⟩:=gs h
   obtain ⟨l120,hl120,h⟩:=ls h
   refine WI.one 9 (by kernel_rfl) (nod (sl H118 [1,3,4]) (sl H118 [1,2,3,4,5,6])) rfl (Op1.append (F:=fD dTItem) H118 6 rfl (by kernel_rfl) 77 (.tmp 38) (.tmp 45) 48 rfl (by kernel_rfl) (by kernel_rfl) s114 (([dTItem.ce hd112] : List (Cells dTItem.sz))) (St.rd H118 0 rfl) (hp_no_le _) (by kernel_rfl) (app_lenD hf91.1 hf116.1 hg119 (by decide)) (fun s121 w124 H125=>?_))
   clear H118
   have hf123 : F2 (dTItem.rel ((un (hp no w0) (fun _=>none)))) l120 (cs90 ++ ([dTItem.ce hd112] : List (Cells dTItem.sz))):=by rw [hl120]; exact F2.append hf91 hf116
   have sf122:=Own.slD (St.get H125 0 rfl) hf123
   refine WI.nS 46 #[T,T,T,T,T,T,T,T,T,T,F,F] (by kernel_rfl) rfl ?_
   refine WI.runS [10] 1 _ #[T,T,T,T,T,T,T,T,T,T,T,F] [(47,vp b14 2)] rfl (fun K=>by kernel_rfl) ?_
   refine WI.one 11 (by kernel_rfl) (nod0 (sl H125 [2,4,5]) 9 (by decide) (by kernel_rfl)) rfl (Op1.storeBoxS H125 3 rfl (by kernel_rfl) 77 (.tmp 47) (.tmp 46) 2 (s121) #[vb true,.string ByteArray.empty,s121] sf122 rfl (by kernel_rfl) (by kernel_rfl) (by kernel_rfl) (by kernel_rfl) (by kernel_rfl) (fun w126 H127=>?_))
   clear H125
   refine WI.nS0 #[T,T,T,T,T,T,T,T,T,T,T,T] (by kernel_rfl) rfl ?_
   refine WI.done (by kernel_rfl) (nod0 (sl H127 [3,4,5]) 9 (by decide) (by kernel_rfl)) ?_
   exact ⟨l120,s121,((cs90 ++ ([dTItem.ce hd112] : List (Cells dTItem.sz)))),yy H127 [3,0,4,5,6,1] ⟨hf123,h⟩⟩
  rintro a w128 ⟨l99,s100,cs101,G103,rfl,H129,hf102,h⟩
  subst hK104
  refine inb_n (then_n ?_)
  refine zg ?_
  obtain ⟨x132,e,h⟩:=ls h
  refine ze 3 3 [(6,vi x132),(36,vi x132),(35,vi x92)] ?_
  refine zd ?_
  exact then_n ⟨n,lS n,l99,x132,s100,cs101,yy H129 [0,1,2,3,4,5] ⟨hf102,h⟩⟩
 rintro a w133 ⟨l81,s82,cs83,G85,rfl,H134,hf84,h⟩
 subst hK86
 refine then_n ?_
 refine zs ?_
 obtain ⟨h137,hu138,hs139,H140⟩:=St.freeze (hb:=hp no w0) (St.sel (Rs':=[Own (fD dTItem) 79 s24 cs25,Fz (fun _=>none),Box b14 #[vb true,.string ByteArray.empty,s82] 79,Box b10 #[vb true,.string ByteArray.empty,s24] 79,Box b6 #[vi p1.From,vi p1.Nonce,vu p1.Tip.e0,vu p1.Tip.e1,vu p1.Tip.e2,vu p1.Tip.e3,vu p1.Cap.e0,vu p1.Cap.e1,vu p1.Cap.e2,vu p1.Cap.e3,vu p1.BlobCap.e0,vu p1.BlobCap.e1,vu p1.BlobCap.e2,vu p1.BlobCap.e3,vu p1.Value_.e0,vu p1.Value_.e1,vu p1.Value_.e2,vu p1.Value_.e3,vi p1.Gas,s2,s4] 44,Own (fD dTItem) 79 s82 cs83]) H134 [4,0,1,2,3,5] (by decide) rfl) (St.hp_le H134)
 have hs141:=RdD.of hs139 (F2.up (un_mono hu138) hf26)
 obtain ⟨h142,hu143,hs144,H145⟩:=St.freeze (hb:=hp no w0) (St.sel (Rs':=[Own (fD dTItem) 79 s82 cs83,Fz h137,Box b14 #[vb true,.string ByteArray.empty,s82] 79,Box b10 #[vb true,.string ByteArray.empty,s24] 79,Box b6 #[vi p1.From,vi p1.Nonce,vu p1.Tip.e0,vu p1.Tip.e1,vu p1.Tip.e2,vu p1.Tip.e3,vu p1.Cap.e0,vu p1.Cap.e1,vu p1.Cap.e2,vu p1.Cap.e3,vu p1.BlobCap.e0,vu p1.BlobCap.e1,vu p1.BlobCap.e2,vu p1.BlobCap.e3,vu p1.Value_.e0,vu p1.Value_.e1,vu p1.Value_.e2,vu p1.Value_.e3,vi p1.Gas,s2,s4] 44]) H140 [4,0,1,2,3] (by decide) rfl) (St.hp_le H140)
 have hs146:=RdD.of hs144 (F2.up (un_mono (Hp.sub_trans hu138 hu143)) hf84)
 obtain ⟨K149,hK149,h⟩:=js h
 refine WP.drawI (by kernel_rfl) (by kernel_rfl) (fun w=>St no w0 w [Fz h142,Box b14 #[vb true,.string ByteArray.empty,s82] 79,Box b10 #[vb true,.string ByteArray.empty,s24] 79,Box b6 #[vi p1.From,vi p1.Nonce,vu p1.Tip.e0,vu p1.Tip.e1,vu p1.Tip.e2,vu p1.Tip.e3,vu p1.Cap.e0,vu p1.Cap.e1,vu p1.Cap.e2,vu p1.Cap.e3,vu p1.BlobCap.e0,vu p1.BlobCap.e1,vu p1.BlobCap.e2,vu p1.BlobCap.e3,vu p1.Value_.e0,vu p1.Value_.e1,vu p1.Value_.e2,vu p1.Value_.e3,vi p1.Gas,s2,s4] 44]) [] (fun w=>St no w0 w [Fz h142,Box b14 #[vb true,.string ByteArray.empty,s82] 79,Box b10 #[vb true,.string ByteArray.empty,s24] 79,Box b6 #[vi p1.From,vi p1.Nonce,vu p1.Tip.e0,vu p1.Tip.e1,vu p1.Tip.e2,vu p1.Tip.e3,vu p1.Cap.e0,vu p1.Cap.e1,vu p1.Cap.e2,vu p1.Cap.e3,vu p1.BlobCap.e0,vu p1.BlobCap.e1,vu p1.BlobCap.e2,vu p1.BlobCap.e3,vu p1.Value_.e0,vu p1.Value_.e1,vu p1.Value_.e2,vu p1.Value_.e3,vi p1.Gas,s2,s4] 44]) (fun a w=>∃ (t147 : ByteArray),Y 82 [(7,.string t147)] [] no w0 [Fz h142,Box b14 #[vb true,.string ByteArray.empty,s82] 79,Box b10 #[vb true,.string ByteArray.empty,s24] 79,Box b6 #[vi p1.From,vi p1.Nonce,vu p1.Tip.e0,vu p1.Tip.e1,vu p1.Tip.e2,vu p1.Tip.e3,vu p1.Cap.e0,vu p1.Cap.e1,vu p1.Cap.e2,vu p1.Cap.e3,vu p1.BlobCap.e0,vu p1.BlobCap.e1,vu p1.BlobCap.e2,vu p1.BlobCap.e3,vu p1.Value_.e0,vu p1.Value_.e1,vu p1.Value_.e2,vu p1.Value_.e3,vi p1.Gas,s2,s4] 44] (K149 t147 = some r) a w) 35 #[F,F,F,F,F,F,F,F,F,F,F,F,F,F,F,F,F,F,F,F,F,F,F,F,F,F,F,F,F,F,F,F,F,F,F] (by kernel_rfl) (by kernel_rfl) ?_ ?_
 ·have H150:=St.drew H145
  refine WI.runS [0] 34 _ #[T,F,F,F,F,F,F,F,F,F,F,F,F,F,F,F,F,F,F,F,F,F,F,F,F,F,F,F,F,F,F,F,F,F,F] [(49,vp b6 0)] rfl (fun K=>by kernel_rfl) ?_
  refine WI.takeS 1 (vi p1.From) 50 rfl rfl (by kernel_rfl) (by kernel_rfl) (fun w H=>ev_loadBox H 3 rfl 3 (.tmp 49) 0 (vi p1.From) rfl (by kernel_rfl) (by kernel_rfl)) (li':=#[T,T,F,F,F,F,F,F,F,F,F,F,F,F,F,F,F,F,F,F,F,F,F,F,F,F,F,F,F,F,F,F,F,F,F]) (by kernel_rfl) ?_
  refine WI.runS [3] 32 _ #[T,T,F,T,F,F,F,F,F,F,F,F,F,F,F,F,F,F,F,F,F,F,F,F,F,F,F,F,F,F,F,F,F,F,F] [(52,vp b6 1)] rfl (fun K=>by kernel_rfl) ?_
  refine WI.takeS 4 (vi p1.Nonce) 53 rfl rfl (by kernel_rfl) (by kernel_rfl) (fun w H=>ev_loadBox H 3 rfl 3 (.tmp 52) 1 (vi p1.Nonce) rfl (by kernel_rfl) (by kernel_rfl)) (li':=#[T,T,F,T,T,F,F,F,F,F,F,F,F,F,F,F,F,F,F,F,F,F,F,F,F,F,F,F,F,F,F,F,F,F,F]) (by kernel_rfl) ?_
  refine WI.runS [6] 30 _ #[T,T,F,T,T,F,T,F,F,F,F,F,F,F,F,F,F,F,F,F,F,F,F,F,F,F,F,F,F,F,F,F,F,F,F] [(55,vp b6 2)] rfl (fun K=>by kernel_rfl) ?_
  refine WI.takeS 7 (TU256.val p1.Tip) 56 rfl rfl (by kernel_rfl) (by kernel_rfl) (fun w H=>ev_loadBox H 3 rfl 24 (.tmp 55) 2 (TU256.val p1.Tip) rfl (by kernel_rfl) (by kernel_rfl)) (li':=#[T,T,F,T,T,F,T,T,F,F,F,F,F,F,F,F,F,F,F,F,F,F,F,F,F,F,F,F,F,F,F,F,F,F,F]) (by kernel_rfl) ?_
  refine WI.runS [10] 28 _ #[T,T,F,T,T,F,T,T,F,F,T,F,F,F,F,F,F,F,F,F,F,F,F,F,F,F,F,F,F,F,F,F,F,F,F] [(59,vp b6 6)] rfl (fun K=>by kernel_rfl) ?_
  refine WI.takeS 11 (TU256.val p1.Cap) 60 rfl rfl (by kernel_rfl) (by kernel_rfl) (fun w H=>ev_loadBox H 3 rfl 24 (.tmp 59) 6 (TU256.val p1.Cap) rfl (by kernel_rfl) (by kernel_rfl)) (li':=#[T,T,F,T,T,F,T,T,F,F,T,T,F,F,F,F,F,F,F,F,F,F,F,F,F,F,F,F,F,F,F,F,F,F,F]) (by kernel_rfl) ?_
  refine WI.runS [14] 26 _ #[T,T,F,T,T,F,T,T,F,F,T,T,F,F,T,F,F,F,F,F,F,F,F,F,F,F,F,F,F,F,F,F,F,F,F] [(63,vp b6 10)] rfl (fun K=>by kernel_rfl) ?_
  refine WI.takeS 15 (TU256.val p1.BlobCap) 64 rfl rfl (by kernel_rfl) (by kernel_rfl) (fun w H=>ev_loadBox H 3 rfl 24 (.tmp 63) 10 (TU256.val p1.BlobCap) rfl (by kernel_rfl) (by kernel_rfl)) (li':=#[T,T,F,T,T,F,T,T,F,F,T,T,F,F,T,T,F,F,F,F,F,F,F,F,F,F,F,F,F,F,F,F,F,F,F]) (by kernel_rfl) ?_
  refine WI.runS [18] 24 _ #[T,T,F,T,T,F,T,T,F,F,T,T,F,F,T,T,F,F,T,F,F,F,F,F,F,F,F,F,F,F,F,F,F,F,F] [(67,vp b6 14)] rfl (fun K=>by kernel_rfl) ?_
  refine WI.takeS 19 (TU256.val p1.Value_) 68 rfl rfl (by kernel_rfl) (by kernel_rfl) (fun w H=>ev_loadBox H 3 rfl 24 (.tmp 67) 14 (TU256.val p1.Value_) rfl (by kernel_rfl) (by kernel_rfl)) (li':=#[T,T,F,T,T,F,T,T,F,F,T,T,F,F,T,T,F,F,T,T,F,F,F,F,F,F,F,F,F,F,F,F,F,F,F]) (by kernel_rfl) ?_
  refine WI.runS [22] 22 _ #[T,T,F,T,T,F,T,T,F,F,T,T,F,F,T,T,F,F,T,T,F,F,T,F,F,F,F,F,F,F,F,F,F,F,F] [(71,vp b6 18)] rfl (fun K=>by kernel_rfl) ?_
  refine WI.takeS 23 (vi p1.Gas) 72 rfl rfl (by kernel_rfl) (by kernel_rfl) (fun w H=>ev_loadBox H 3 rfl 3 (.tmp 71) 18 (vi p1.Gas) rfl (by kernel_rfl) (by kernel_rfl)) (li':=#[T,T,F,T,T,F,T,T,F,F,T,T,F,F,T,T,F,F,T,T,F,F,T,T,F,F,F,F,F,F,F,F,F,F,F]) (by kernel_rfl) ?_
  refine WI.takeS 25 (.agg #[vb true,.string ByteArray.empty,s24]) 74 rfl rfl (by kernel_rfl) (by kernel_rfl) (fun w H=>ev_loadBox H 2 rfl 79 (.tmp 3) 0 (.agg #[vb true,.string ByteArray.empty,s24]) rfl (by kernel_rfl) (by kernel_rfl)) (li':=#[T,T,F,T,T,F,T,T,F,F,T,T,F,F,T,T,F,F,T,T,F,F,T,T,F,T,F,F,F,F,F,F,F,F,F]) (by kernel_rfl) ?_
  refine WI.takeS 26 (.agg #[vb true,.string ByteArray.empty,s82]) 75 rfl rfl (by kernel_rfl) (by kernel_rfl) (fun w H=>ev_loadBox H 1 rfl 79 (.tmp 4) 0 (.agg #[vb true,.string ByteArray.empty,s82]) rfl (by kernel_rfl) (by kernel_rfl)) (li':=#[T,T,F,T,T,F,T,T,F,F,T,T,F,F,T,T,F,F,T,T,F,F,T,T,F,T,T,F,F,F,F,F,F,F,F]) (by kernel_rfl) ?_
  obtain ⟨t151,ht151,h⟩:=bs h
  refine WI.one 2 (by kernel_rfl) (nod (sl H150 [0,1,2,3]) (sl H150 [0,1,2,3])) rfl (Op1.call (by kernel_rfl) (by kernel_rfl) (g_tarnref7_number_w fuel p1.From t151 ht151 _) ?_)
  rintro _ w152 ⟨rfl,Hc153⟩
  have H154:=St.call0' H150 Hc153
  clear H150 Hc153
  refine WI.nS 51 #[T,T,T,T,T,F,T,T,F,F,T,T,F,F,T,T,F,F,T,T,F,F,T,T,F,T,T,F,F,F,F,F,F,F,F] (by kernel_rfl) rfl ?_
  obtain ⟨t155,ht155,h⟩:=bs h
  refine WI.one 5 (by kernel_rfl) (nod (sl H154 [0,1,2,3]) (sl H154 [0,1,2,3])) rfl (Op1.call (by kernel_rfl) (by kernel_rfl) (g_tarnref7_number_w fuel p1.Nonce t155 ht155 _) ?_)
  rintro _ w156 ⟨rfl,Hc157⟩
  have H158:=St.call0' H154 Hc157
  clear H154 Hc157
  refine WI.nS 54 #[T,T,T,T,T,T,T,T,F,F,T,T,F,F,T,T,F,F,T,T,F,F,T,T,F,T,T,F,F,F,F,F,F,F,F] (by kernel_rfl) rfl ?_
  obtain ⟨t159,ht159,h⟩:=bs h
  refine WI.one 8 (by kernel_rfl) (nod (sl H158 [0,1,2,3]) (sl H158 [0,1,2,3])) rfl (Op1.call (by kernel_rfl) (by kernel_rfl) (g_tarnref1_Text_w fuel p1.Tip t159 ht159 _) ?_)
  rintro _ w160 ⟨rfl,Hc161⟩
  have H162:=St.call0' H158 Hc161
  clear H158 Hc161
  refine WI.nS 57 #[T,T,T,T,T,T,T,T,T,F,T,T,F,F,T,T,F,F,T,T,F,F,T,T,F,T,T,F,F,F,F,F,F,F,F] (by kernel_rfl) rfl ?_
  obtain ⟨t163,ht163,h⟩:=bs h
  refine WI.one 9 (by kernel_rfl) (nod (sl H162 [0,1,2,3]) (sl H162 [0,1,2,3])) rfl (Op1.call (by kernel_rfl) (by kernel_rfl) (g_tarnref7_text_w fuel t159 t163 ht163 _) ?_)
  rintro _ w164 ⟨rfl,Hc165⟩
  have H166:=St.call0' H162 Hc165
  clear H162 Hc165
  refine WI.nS 58 #[T,T,T,T,T,T,T,T,T,T,T,T,F,F,T,T,F,F,T,T,F,F,T,T,F,T,T,F,F,F,F,F,F,F,F] (by kernel_rfl) rfl ?_
  obtain ⟨t167,ht167,h⟩:=bs h
  refine WI.one 12 (by kernel_rfl) (nod (sl H166 [0,1,2,3]) (sl H166 [0,1,2,3])) rfl (Op1.call (by kernel_rfl) (by kernel_rfl) (g_tarnref1_Text_w fuel p1.Cap t167 ht167 _) ?_)
  rintro _ w168 ⟨rfl,Hc169⟩
  have H170:=St.call0' H166 Hc169
  clear H166 Hc169
  refine WI.nS 61 #[T,T,T,T,T,T,T,T,T,T,T,T,T,F,T,T,F,F,T,T,F,F,T,T,F,T,T,F,F,F,F,F,F,F,F] (by kernel_rfl) rfl ?_
  obtain ⟨t171,ht171,h⟩:=bs h
  refine WI.one 13 (by kernel_rfl) (nod (sl H170 [0,1,2,3]) (sl H170 [0,1,2,3])) rfl (Op1.call (by kernel_rfl) (by kernel_rfl) (g_tarnref7_text_w fuel t167 t171 ht171 _) ?_)
  rintro _ w172 ⟨rfl,Hc173⟩
  have H174:=St.call0' H170 Hc173
  clear H170 Hc173
  refine WI.nS 62 #[T,T,T,T,T,T,T,T,T,T,T,T,T,T,T,T,F,F,T,T,F,F,T,T,F,T,T,F,F,F,F,F,F,F,F] (by kernel_rfl) rfl ?_
  obtain ⟨t175,ht175,h⟩:=bs h
  refine WI.one 16 (by kernel_rfl) (nod (sl H174 [0,1,2,3]) (sl H174 [0,1,2,3])) rfl (Op1.call (by kernel_rfl) (by kernel_rfl) (g_tarnref1_Text_w fuel p1.BlobCap t175 ht175 _) ?_)
  rintro _ w176 ⟨rfl,Hc177⟩
  have H178:=St.call0' H174 Hc177
  clear H174 Hc177
  refine WI.nS 65 #[T,T,T,T,T,T,T,T,T,T,T,T,T,T,T,T,T,F,T,T,F,F,T,T,F,T,T,F,F,F,F,F,F,F,F] (by kernel_rfl) rfl ?_
  obtain ⟨t179,ht179,h⟩:=bs h
  refine WI.one 17 (by kernel_rfl) (nod (sl H178 [0,1,2,3]) (sl H178 [0,1,2,3])) rfl (Op1.call (by kernel_rfl) (by kernel_rfl) (g_tarnref7_text_w fuel t175 t179 ht179 _) ?_)
  rintro _ w180 ⟨rfl,Hc181⟩
  have H182:=St.call0' H178 Hc181
  clear H178 Hc181
  refine WI.nS 66 #[T,T,T,T,T,T,T,T,T,T,T,T,T,T,T,T,T,T,T,T,F,F,T,T,F,T,T,F,F,F,F,F,F,F,F] (by kernel_rfl) rfl ?_
  obtain ⟨t183,ht183,h⟩:=bs h
  refine WI.one 20 (by kernel_rfl) (nod (sl H182 [0,1,2,3]) (sl H182 [0,1,2,3])) rfl (Op1.call (by kernel_rfl) (by kernel_rfl) (g_tarnref1_Text_w fuel p1.Value_ t183 ht183 _) ?_)
  rintro _ w184 ⟨rfl,Hc185⟩
  have H186:=St.call0' H182 Hc185
  clear H182 Hc185
  refine WI.nS 69 #[T,T,T,T,T,T,T,T,T,T,T,T,T,T,T,T,T,T,T,T,T,F,T,T,F,T,T,F,F,F,F,F,F,F,F] (by kernel_rfl) rfl ?_
  obtain ⟨t187,ht187,h⟩:=bs h
  refine WI.one 21 (by kernel_rfl) (nod (sl H186 [0,1,2,3]) (sl H186 [0,1,2,3])) rfl (Op1.call (by kernel_rfl) (by kernel_rfl) (g_tarnref7_text_w fuel t183 t187 ht187 _) ?_)
  rintro _ w188 ⟨rfl,Hc189⟩
  have H190:=St.call0' H186 Hc189
  clear H186 Hc189
  refine WI.nS 70 #[T,T,T,T,T,T,T,T,T,T,T,T,T,T,T,T,T,T,T,T,T,T,T,T,F,T,T,F,F,F,F,F,F,F,F] (by kernel_rfl) rfl ?_
  obtain ⟨t191,ht191,h⟩:=bs h
  refine WI.one 24 (by kernel_rfl) (nod (sl H190 [0,1,2,3]) (sl H190 [0,1,2,3])) rfl (Op1.call (by kernel_rfl) (by kernel_rfl) (g_tarnref7_number_w fuel p1.Gas t191 ht191 _) ?_)
  rintro _ w192 ⟨rfl,Hc193⟩
  have H194:=St.call0' H190 Hc193
  clear H190 Hc193
  refine WI.nS 73 #[T,T,T,T,T,T,T,T,T,T,T,T,T,T,T,T,T,T,T,T,T,T,T,T,T,T,T,F,F,F,F,F,F,F,F] (by kernel_rfl) rfl ?_
  have hd195 : dTItem.rel ((un (hp no w0) h142)) (TItem.mk t151.List_ t151.Text ([])) [vb t151.List_,.string t151.Text,vn]:=rTItem.of (x:=TItem.mk t151.List_ t151.Text ([])) (RdD.nil dTItem _)
  have hd196 : dTItem.rel ((un (hp no w0) h142)) (TItem.mk t155.List_ t155.Text ([])) [vb t155.List_,.string t155.Text,vn]:=rTItem.of (x:=TItem.mk t155.List_ t155.Text ([])) (RdD.nil dTItem _)
  have hd197 : dTItem.rel ((un (hp no w0) h142)) (TItem.mk t163.List_ t163.Text ([])) [vb t163.List_,.string t163.Text,vn]:=rTItem.of (x:=TItem.mk t163.List_ t163.Text ([])) (RdD.nil dTItem _)
  have hd198 : dTItem.rel ((un (hp no w0) h142)) (TItem.mk t171.List_ t171.Text ([])) [vb t171.List_,.string t171.Text,vn]:=rTItem.of (x:=TItem.mk t171.List_ t171.Text ([])) (RdD.nil dTItem _)
  have hd199 : dTItem.rel ((un (hp no w0) h142)) (TItem.mk t179.List_ t179.Text ([])) [vb t179.List_,.string t179.Text,vn]:=rTItem.of (x:=TItem.mk t179.List_ t179.Text ([])) (RdD.nil dTItem _)
  have hd200 : dTItem.rel ((un (hp no w0) h142)) (TItem.mk t187.List_ t187.Text ([])) [vb t187.List_,.string t187.Text,vn]:=rTItem.of (x:=TItem.mk t187.List_ t187.Text ([])) (RdD.nil dTItem _)
  have hd201 : dTItem.rel ((un (hp no w0) h142)) (TItem.mk t191.List_ t191.Text ([])) [vb t191.List_,.string t191.Text,vn]:=rTItem.of (x:=TItem.mk t191.List_ t191.Text ([])) (RdD.nil dTItem _)
  have hd202 : dTItem.rel ((un (hp no w0) h142)) (TItem.mk true ByteArray.empty l23) [vb true,.string ByteArray.empty,s24]:=rTItem.of (x:=TItem.mk true ByteArray.empty l23) (RdD.mono (un_mono hu143) hs141)
  have hd203 : dTItem.rel ((un (hp no w0) h142)) (TItem.mk true ByteArray.empty l81) [vb true,.string ByteArray.empty,s82]:=rTItem.of (x:=TItem.mk true ByteArray.empty l81) hs146
  have hf207 : F2 (dTItem.rel ((un (hp no w0) h142))) ([TItem.mk t151.List_ t151.Text ([]),TItem.mk t155.List_ t155.Text ([]),TItem.mk t163.List_ t163.Text ([]),TItem.mk t171.List_ t171.Text ([]),TItem.mk t179.List_ t179.Text ([]),TItem.mk t187.List_ t187.Text ([]),TItem.mk t191.List_ t191.Text ([]),TItem.mk true ByteArray.empty l23,TItem.mk true ByteArray.empty l81] : List TItem) ([dTItem.ce hd195,dTItem.ce hd196,dTItem.ce hd197,dTItem.ce hd198,dTItem.ce hd199,dTItem.ce hd200,dTItem.ce hd201,dTItem.ce hd202,dTItem.ce hd203] : List (Cells dTItem.sz)):=(F2.cons hd195 (F2.cons hd196 (F2.cons hd197 (F2.cons hd198 (F2.cons hd199 (F2.cons hd200 (F2.cons hd201 (F2.cons hd202 (F2.cons hd203 (F2.nil _))))))))))
  refine WI.one 27 (by kernel_rfl) (nod (sl H194 [0,1,2,3]) (sl H194 [0,1,2,3])) rfl (Op1.lit (F:=fD dTItem) (E:=79) H194 (by kernel_rfl) ([dTItem.ce hd195,dTItem.ce hd196,dTItem.ce hd197,dTItem.ce hd198,dTItem.ce hd199,dTItem.ce hd200,dTItem.ce hd201,dTItem.ce hd202,dTItem.ce hd203] : List (Cells dTItem.sz)) (fun w=>by kernel_rfl) (by simp [maxLen]) (fun s205 w208 H209=>?_))
  clear H194
  have sf206:=Own.slD (St.get H209 0 rfl) hf207
  refine WI.nS 76 #[T,T,T,T,T,T,T,T,T,T,T,T,T,T,T,T,T,T,T,T,T,T,T,T,T,T,T,T,F,F,F,F,F,F,F] (by kernel_rfl) rfl ?_
  refine WI.runS [28] 6 _ #[T,T,T,T,T,T,T,T,T,T,T,T,T,T,T,T,T,T,T,T,T,T,T,T,T,T,T,T,T,F,F,F,F,F,F] [(77,.agg #[vb true,.string ByteArray.empty,s205])] rfl (fun K=>by obtain ⟨_,_,rfl,_⟩:=sf206; kernel_rfl) ?_
  obtain ⟨t210,ht210,h⟩:=bs h
  refine WI.one 29 (by kernel_rfl) (nod (sl H209 [1,2,3,4]) (sl H209 [1,2,3,4])) rfl (Op1.call (by kernel_rfl) (by kernel_rfl) (g_tarnref4_Item_w fuel s205 (TItem.mk true ByteArray.empty (([TItem.mk t151.List_ t151.Text ([]),TItem.mk t155.List_ t155.Text ([]),TItem.mk t163.List_ t163.Text ([]),TItem.mk t171.List_ t171.Text ([]),TItem.mk t179.List_ t179.Text ([]),TItem.mk t187.List_ t187.Text ([]),TItem.mk t191.List_ t191.Text ([]),TItem.mk true ByteArray.empty l23,TItem.mk true ByteArray.empty l81] : List TItem))) t210 ht210 _ (St.rdD H209 0 rfl hf207 (un_le (St.hp_le H209) (St.fz_le H209 1 rfl)))) ?_)
  rintro _ w211 ⟨rfl,Hc212⟩
  have H213:=St.call0' H209 Hc212
  clear H209 Hc212
  refine WI.nS 78 #[T,T,T,T,T,T,T,T,T,T,T,T,T,T,T,T,T,T,T,T,T,T,T,T,T,T,T,T,T,T,F,F,F,F,F] (by kernel_rfl) rfl ?_
  refine WI.runS [30,31,32,33,34] 0 _ #[T,T,T,T,T,T,T,T,T,T,T,T,T,T,T,T,T,T,T,T,T,T,T,T,T,T,T,T,T,T,T,T,T,T,T] [(8,vb t210.2),(7,.string t210.1),(80,vb t210.2),(79,.string t210.1),(48,.tuple #[.string t210.1,vb t210.2])] rfl (fun K=>by kernel_rfl) ?_
  refine WI.done (by kernel_rfl) (nod (sl H213 [1,2,3,4]) (sl H213 [1,2,3,4])) ?_
  exact ⟨t210.1,yy H213 [1,2,3,4] h⟩
 rintro a w214 ⟨t147,G148,rfl,H215,h⟩
 subst hK149
 refine then_n ?_
 refine zsg ?_
 refine zrd 2 2 [(2,.string t147),(81,.string t147)] ?_
 refine WP.ret ?_
 obtain rfl:=oi h
 exact post_r (.string t147) rfl (by kernel_rfl) ⟨rfl,sl H215 []⟩
/- tarn/tarnref7.ID -/
def g_tarnref7_ID (fuel : Nat) (p1 : TTx) : Option Int :=
  bd (g_tarnref7_Bytes fuel p1) fun t10 => bd (g_tarnref4_Mark fuel t10) fun t14 => some t14
theorem g_tarnref7_ID_w (fuel : Nat) (s2 s4 : Value) (p1 : TTx) (r : Int) (h : g_tarnref7_ID fuel p1 = some r) (w0 : World) (hs3 : Rd fU64 (hp no w0) s2 p1.Hashes) (hs5 : Rd fStr (hp no w0) s4 p1.Blobs) :
 Ret Tryz.prog 34 #[(gTx p1 s2 s4)] w0 (fun v w' => v = vu r ∧ St no w0 w' []) := by
 unfold g_tarnref7_ID at h
 refine ret_of_wpS Tryz.func34 rfl 6 rfl [(0,(gTx p1 s2 s4))] (by kernel_rfl) (fun G=>?_)
 have H0:=St.start w0
 refine zsg ?_
 refine zo (obx H0 #[vi p1.From,vi p1.Nonce,vu p1.Tip.e0,vu p1.Tip.e1,vu p1.Tip.e2,vu p1.Tip.e3,vu p1.Cap.e0,vu p1.Cap.e1,vu p1.Cap.e2,vu p1.Cap.e3,vu p1.BlobCap.e0,vu p1.BlobCap.e1,vu p1.BlobCap.e2,vu p1.BlobCap.e3,vu p1.Value_.e0,vu p1.Value_.e1,vu p1.Value_.e2,vu p1.Value_.e3,vi p1.Gas,s2,s4] 44 (fun b6 w8 H9=>?_))
 refine zn ?_
 refine zrd 1 2 [(2,vu 0)] ?_
 refine zsg ?_
 refine zv ((gTx p1 s2 s4)) (llb H9 0 0) ?_
 obtain ⟨t10,ht10,h⟩:=bs h
 refine zo (oca (g_tarnref7_Bytes_w fuel s2 s4 p1 t10 ht10 _ (Rd.arg0 hs3 H9) (Rd.arg0 hs5 H9)) ?_)
 rintro _ w11 ⟨rfl,Hc12⟩
 have H13:=St.call0' H9 Hc12
 clear H9 Hc12
 obtain ⟨t14,ht14,h⟩:=bs h
 refine zn ?_
 refine zo (oca (g_tarnref4_Mark_w fuel t10 t14 ht14 _) ?_)
 rintro _ w15 ⟨rfl,Hc16⟩
 have H17:=St.call0' H13 Hc16
 clear H13 Hc16
 refine zn ?_
 refine zrd 1 4 [(2,vu t14)] ?_
 refine WP.ret ?_
 obtain rfl:=oi h
 exact post_r (vu t14) rfl (by kernel_rfl) ⟨rfl,sl H17 []⟩
/- tarn/tarnref16.Limbo -/
def g_tarnref16_Limbo_l1 (l2 : List THeld) (fuel : Nat) (K4 : Option Bool) : Nat → Int → Option Bool
  | 0, _ => none
  | n + 1, x5 => lt (decide (x5 < (((List.length l2 : Nat) : Int)))) fun c9 => br c9 (jn (fun (c10 : Bool) => br c10 (some false) (lt (wr .i64 (x5 + 1)) fun x68 => g_tarnref16_Limbo_l1 l2 fuel K4 n x68)) fun K12 => gd ((0 : Int) ≤ x5 ∧ x5 < ((List.length l2 : Nat) : Int)) <| bd (l2[Int.toNat x5]?) fun x14 => bd (g_tarnref7_Tx fuel x14.Tx) fun t22 => lt (!t22) fun c23 => br c23 (K12 true) (gd ((0 : Int) ≤ x5 ∧ x5 < ((List.length l2 : Nat) : Int)) <| bd (l2[Int.toNat x5]?) fun x25 => bd (g_tarnref0_Num fuel x25.Block 1099511627776) fun t33 => lt (!t33) fun c34 => br c34 (K12 true) (lt (decide (x5 > 0)) fun c35 => br c35 (lt (wr .i64 (x5 - 1)) fun x38 => gd ((0 : Int) ≤ x38 ∧ x38 < ((List.length l2 : Nat) : Int)) <| bd (l2[Int.toNat x38]?) fun x40 => bd (g_tarnref7_ID fuel x40.Tx) fun t48 => gd ((0 : Int) ≤ x5 ∧ x5 < ((List.length l2 : Nat) : Int)) <| bd (l2[Int.toNat x5]?) fun x50 => bd (g_tarnref7_ID fuel x50.Tx) fun t58 => lt (decide (t48 ≥ t58)) fun c59 => K12 c59) (K12 false)))) (K4)
def g_tarnref16_Limbo (fuel : Nat) (l2 : List THeld) : Option Bool :=
  jn (lt (decide ((((List.length l2 : Nat) : Int)) ≤ 48)) fun c71 => some c71) fun K4 => g_tarnref16_Limbo_l1 l2 fuel K4 fuel 0
theorem g_tarnref16_Limbo_w (fuel : Nat) (s1 : Value) (l2 : List THeld) (r : Bool) (h : g_tarnref16_Limbo fuel l2 = some r) (w0 : World) (hs1 : RdD dTHeld (hp no w0) s1 l2) :
 Ret Tryz.prog 30 #[s1] w0 (fun v w' => v = vb r ∧ St no w0 w' []) := by
 unfold g_tarnref16_Limbo at h
 refine ret_of_wpS Tryz.func30 rfl 49 rfl [(0,s1)] (by kernel_rfl) (fun G=>?_)
 have H0:=St.start w0
 refine zsg ?_
 refine zrd 1 1 [(2,vb false)] ?_
 refine zs ?_
 refine zsg ?_
 refine zrd 1 1 [(3,vi 0)] ?_
 obtain ⟨K4,hK4,h⟩:=js h
 refine WP.blockJ (fun a w=>Y 49 [(0,s1)] [] no w0 [] (K4 = some r) a w) ?_ ?_
 ·refine WP.loop (fun n a w=>∃ (x5 : Int),Y 49 [(0,s1),(3,vi x5)] [] no w0 [] (g_tarnref16_Limbo_l1 l2 fuel K4 n x5 = some r) a w) fuel ⟨0,yy H0 [] h⟩ ?_
  rintro n a w7 ⟨x5,G6,rfl,H8,h⟩
  obtain _ | n:=n
  ·rw [g_tarnref16_Limbo_l1] at h; cases h
  rw [g_tarnref16_Limbo_l1] at h
  refine zs ?_
  refine zsg ?_
  refine zr 2 2 [(5,s1),(4,vi x5)] ?_
  refine zv (vi (((List.length l2 : Nat) : Int))) (lln (RdD.sl hs1) 46 22 208) ?_
  obtain ⟨c9,e,h⟩:=ls h
  refine zed 1 4 [(7,vb c9)] ?_
  cases c9
  ·replace h:=bf h
   refine zF ?_
   refine WP.exit ?_
   exact then_e (then_e (inb_e (then_n (yy H8 [] h))))
  replace h:=bt h
  refine zTn ?_
  refine zs ?_
  refine WP.block ?_
  refine zs ?_
  obtain ⟨K12,hK12,h⟩:=js h
  refine WP.onlyN (fun a w=>∃ (c10 : Bool),Y 49 [(0,s1),(3,vi x5),(45,vb c10)] [] no w0 [] (K12 c10 = some r) a w) ?_ ?_
  ·refine WP.quiet (by kernel_rfl) (by kernel_rfl) (by kernel_rfl) (fun w=>St no w0 w []) (St.drew H8) ?_
   obtain ⟨hg13,h⟩:=gs h
   refine qr 2 2 [(11,vi x5),(10,s1)] ?_
   refine qv (va (slAt s1 22 (Int.toNat x5))) (fun w H=>lli (RdD.sl hs1) 46 22 208 .i64 x5 hg13) ?_
   obtain ⟨x14,hx14,h⟩:=bs h
   obtain ⟨c19,hr20,hc21⟩:=RdD.at_ hs1 _ _ hx14
   obtain ⟨s15,s17,rfl,hs16,hs18⟩:=hr20
   refine qr 1 4 [(13,va (slAt s1 22 (Int.toNat x5)))] ?_
   refine qv ((gTx x14.Tx s15 s17)) (fun w H=>lld 0 hc21 (St.hp_le H)) ?_
   obtain ⟨t22,ht22,h⟩:=bs h
   refine qc (vb t22) (fun w H=>Ret.mono (g_tarnref7_Tx_w fuel s15 s17 x14.Tx t22 ht22 _ (Rd.arg0 hs16 H) (Rd.arg0 hs18 H)) fun u w1 hu=>⟨hu.1,St.call0' H hu.2⟩) ?_
   obtain ⟨c23,e,h⟩:=ls h
   refine qe 2 8 [(17,vb c23),(16,vb c23)] ?_
   cases c23
   rotate_left
   ·replace h:=bt h
    refine qr 28 36 [(45,vb true),(44,Z),(43,Z),(42,Z),(41,Z),(40,Z),(39,Z),(38,Z),(37,Z),(36,Z),(35,Z),(34,Z),(33,Z),(32,Z),(31,Z),(30,Z),(29,Z),(28,Z),(27,Z),(26,vb true),(25,vb true),(24,Z),(23,Z),(22,Z),(21,Z),(20,Z),(19,Z),(18,Z)] ?_
    refine qd fun w64 H65=>?_
    exact ⟨true,yy H65 [] h⟩
   replace h:=bf h
   obtain ⟨hg24,h⟩:=gs h
   refine qr 2 10 [(19,vi x5),(18,s1)] ?_
   refine qv (va (slAt s1 22 (Int.toNat x5))) (fun w H=>lli (RdD.sl hs1) 46 22 208 .i64 x5 hg24) ?_
   obtain ⟨x25,hx25,h⟩:=bs h
   obtain ⟨c30,hr31,hc32⟩:=RdD.at_ hs1 _ _ hx25
   obtain ⟨s26,s28,rfl,hs27,hs29⟩:=hr31
   refine qr 1 12 [(21,va ((slAt s1 22 (Int.toNat x5)).add 21))] ?_
   refine qv (vi x25.Block) (fun w H=>lld 21 hc32 (St.hp_le H)) ?_
   obtain ⟨t33,ht33,h⟩:=bs h
   refine qc (vb t33) (fun w H=>Ret.mono (g_tarnref0_Num_w fuel x25.Block 1099511627776 t33 ht33 _) fun u w1 hu=>⟨hu.1,St.call0' H hu.2⟩) ?_
   obtain ⟨c34,e,h⟩:=ls h
   refine qe 3 17 [(26,vb c34),(25,vb c34),(24,vb c34)] ?_
   cases c34
   rotate_left
   ·replace h:=bt h
    refine qr 19 36 [(45,vb true),(44,Z),(43,Z),(42,Z),(41,Z),(40,Z),(39,Z),(38,Z),(37,Z),(36,Z),(35,Z),(34,Z),(33,Z),(32,Z),(31,Z),(30,Z),(29,Z),(28,Z),(27,Z)] ?_
    refine qd fun w62 H63=>?_
    exact ⟨true,yy H63 [] h⟩
   replace h:=bf h
   obtain ⟨c35,e,h⟩:=ls h
   refine qe 3 20 [(29,vb c35),(28,vb c35),(27,vi x5)] ?_
   cases c35
   ·replace h:=bf h
    refine qr 16 36 [(45,vb false),(44,vb false),(43,Z),(42,Z),(41,Z),(40,Z),(39,Z),(38,Z),(37,Z),(36,Z),(35,Z),(34,Z),(33,Z),(32,Z),(31,Z),(30,Z)] ?_
    refine qd fun w36 H37=>?_
    exact ⟨false,yy H37 [] h⟩
   replace h:=bt h
   obtain ⟨x38,e,h⟩:=ls h
   obtain ⟨hg39,h⟩:=gs h
   refine qe 3 23 [(32,vi x38),(31,vi x5),(30,s1)] ?_
   refine qv (va (slAt s1 22 (Int.toNat x38))) (fun w H=>lli (RdD.sl hs1) 46 22 208 .i64 x38 hg39) ?_
   obtain ⟨x40,hx40,h⟩:=bs h
   obtain ⟨c45,hr46,hc47⟩:=RdD.at_ hs1 _ _ hx40
   obtain ⟨s41,s43,rfl,hs42,hs44⟩:=hr46
   refine qr 1 25 [(34,va (slAt s1 22 (Int.toNat x38)))] ?_
   refine qv ((gTx x40.Tx s41 s43)) (fun w H=>lld 0 hc47 (St.hp_le H)) ?_
   obtain ⟨t48,ht48,h⟩:=bs h
   refine qc (vu t48) (fun w H=>Ret.mono (g_tarnref7_ID_w fuel s41 s43 x40.Tx t48 ht48 _ (Rd.arg0 hs42 H) (Rd.arg0 hs44 H)) fun u w1 hu=>⟨hu.1,St.call0' H hu.2⟩) ?_
   obtain ⟨hg49,h⟩:=gs h
   refine qr 2 29 [(38,vi x5),(37,s1)] ?_
   refine qv (va (slAt s1 22 (Int.toNat x5))) (fun w H=>lli (RdD.sl hs1) 46 22 208 .i64 x5 hg49) ?_
   obtain ⟨x50,hx50,h⟩:=bs h
   obtain ⟨c55,hr56,hc57⟩:=RdD.at_ hs1 _ _ hx50
   obtain ⟨s51,s53,rfl,hs52,hs54⟩:=hr56
   refine qr 1 31 [(40,va (slAt s1 22 (Int.toNat x5)))] ?_
   refine qv ((gTx x50.Tx s51 s53)) (fun w H=>lld 0 hc57 (St.hp_le H)) ?_
   obtain ⟨t58,ht58,h⟩:=bs h
   refine qc (vu t58) (fun w H=>Ret.mono (g_tarnref7_ID_w fuel s51 s53 x50.Tx t58 ht58 _ (Rd.arg0 hs52 H) (Rd.arg0 hs54 H)) fun u w1 hu=>⟨hu.1,St.call0' H hu.2⟩) ?_
   obtain ⟨c59,e,h⟩:=ls h
   refine qe 3 36 [(45,vb c59),(44,vb c59),(43,vb c59)] ?_
   refine qd fun w60 H61=>?_
   exact ⟨c59,yy H61 [] h⟩
  rintro a w66 ⟨c10,G11,rfl,H67,h⟩
  subst hK12
  refine then_n ?_
  cases c10
  rotate_left
  ·replace h:=bt h
   refine zT ?_
   refine zsg ?_
   refine zrd 1 1 [(2,vb false)] ?_
   refine WP.ret ?_
   obtain rfl:=oi h
   exact inb_r (then_r (then_r (inb_r (then_r (then_r (post_r (vb false) rfl (by kernel_rfl) ⟨rfl,sl H67 []⟩))))))
  replace h:=bf h
  refine zF ?_
  refine WP.skip ?_
  refine inb_n (then_n ?_)
  refine zg ?_
  obtain ⟨x68,e,h⟩:=ls h
  refine ze 3 3 [(3,vi x68),(9,vi x68),(8,vi x5)] ?_
  refine zd ?_
  exact then_n ⟨n,lS n,x68,yy H67 [] h⟩
 rintro a w69 ⟨G3,rfl,H70,h⟩
 subst hK4
 refine then_n ?_
 refine zsg ?_
 refine zr 1 1 [(46,s1)] ?_
 refine zv (vi (((List.length l2 : Nat) : Int))) (lln (RdD.sl hs1) 46 22 208) ?_
 obtain ⟨c71,e,h⟩:=ls h
 refine zed 2 4 [(2,vb c71),(48,vb c71)] ?_
 refine WP.ret ?_
 obtain rfl:=oi h
 exact post_r (vb c71) rfl (by kernel_rfl) ⟨rfl,sl H70 []⟩
/- tarn/tarnref0.CopyMarks -/
def g_tarnref0_CopyMarks_l1 (l2 : List Int) (K7 : (List Int) → Option (List Int)) (fuel : Nat) : Nat → (List Int) → Int → Option (List Int)
  | 0, _, _ => none
  | n + 1, l9, x11 => lt (decide (x11 < (((List.length l2 : Nat) : Int)))) fun c16 => br c16 (gd ((0 : Int) ≤ x11 ∧ x11 < ((List.length l2 : Nat) : Int)) <| bd (l2[Int.toNat x11]?) fun x18 => gd ((List.length l9 + List.length (([x18] : List Int))) * 8 ≤ 140737488355328) <| lt (l9 ++ (([x18] : List Int))) fun l25 => lt (wr .i64 (x11 + 1)) fun x30 => g_tarnref0_CopyMarks_l1 l2 K7 fuel n l25 x30) (K7 l9)
def g_tarnref0_CopyMarks (fuel : Nat) (l2 : List Int) : Option (List Int) :=
  jn (fun (l4 : List Int) => some l4) fun K7 => g_tarnref0_CopyMarks_l1 l2 K7 fuel fuel ([]) 0
theorem g_tarnref0_CopyMarks_w (fuel : Nat) (s1 : Value) (l2 : List Int) (r : List Int) (h : g_tarnref0_CopyMarks fuel l2 = some r) (w0 : World) (hs1 : Rd fU64 (hp no w0) s1 l2) :
 Ret Tryz.prog 83 #[s1] w0 (fun v w' => ∃ (q0 : Value), v = q0 ∧ St no w0 w' [Own fU64 22 q0 r]) := by
 unfold g_tarnref0_CopyMarks at h
 refine ret_of_wpS Tryz.func83 rfl 19 rfl [(0,s1)] (by kernel_rfl) (fun G=>?_)
 have H0:=St.start w0
 refine zsg ?_
 refine zrd 1 1 [(2,vn)] ?_
 refine zsg ?_
 refine zrd 1 1 [(3,vn)] ?_
 refine zs ?_
 refine zsg ?_
 refine zrd 1 1 [(4,vi 0)] ?_
 obtain ⟨K7,hK7,h⟩:=js h
 refine WP.blockJ (fun a w=>∃ (l4 : List Int) (s5 : Value),Y 19 [(3,s5)] [] no w0 [Own fU64 22 s5 l4] (K7 l4 = some r) a w) ?_ ?_
 ·refine WP.loop (fun n a w=>∃ (l9 : List Int) (x11 : Int) (s10 : Value),Y 19 [(0,s1),(3,s10),(4,vi x11)] [] no w0 [Own fU64 22 s10 l9] (g_tarnref0_CopyMarks_l1 l2 K7 fuel n l9 x11 = some r) a w) fuel ⟨([]),0,vn,yy (St.nil H0 fU64 22) [0] h⟩ ?_
  rintro n a w13 ⟨l9,x11,s10,G12,rfl,H14,h⟩
  obtain _ | n:=n
  ·rw [g_tarnref0_CopyMarks_l1] at h; cases h
  rw [g_tarnref0_CopyMarks_l1] at h
  refine zs ?_
  refine zsg ?_
  refine zr 2 2 [(6,s1),(5,vi x11)] ?_
  refine zv (vi (((List.length l2 : Nat) : Int))) (lln (Rd.sl hs1) 22 1 8) ?_
  obtain ⟨c16,e,h⟩:=ls h
  refine zed 1 4 [(8,vb c16)] ?_
  cases c16
  ·replace h:=bf h
   refine zF ?_
   refine WP.exit ?_
   exact then_e (then_e (inb_e (then_n ⟨l9,s10,yy H14 [0] h⟩)))
  replace h:=bt h
  refine zTn ?_
  refine zs ?_
  refine WP.block ?_
  refine zg ?_
  obtain ⟨hg17,h⟩:=gs h
  refine zr 3 3 [(13,vi x11),(12,s1),(11,s10)] ?_
  refine zv (va (slAt s1 1 (Int.toNat x11))) (lli (Rd.sl hs1) 22 1 8 .i64 x11 hg17) ?_
  obtain ⟨x18,hx18,h⟩:=bs h
  refine zv (vu x18) (lle fU64 hs1 (St.hp_le H14) hx18 0) ?_
  refine WPI.op rfl (Op1.lit (F:=fU64) (E:=22) H14 (by kernel_rfl) ([x18] : List Int) (fun w=>by kernel_rfl) (by simp [maxLen]) (fun s20 w22 H23=>?_))
  clear H14
  obtain ⟨hg24,h⟩:=gs h
  obtain ⟨l25,hl25,h⟩:=ls h
  refine zn ?_
  refine WPI.op rfl (Op1.append (F:=fU64) H23 1 rfl (by kernel_rfl) 41 (.tmp 11) (.tmp 16) 8 rfl (by kernel_rfl) (by kernel_rfl) s20 (([x18] : List Int)) (St.rd H23 0 rfl) (hp_no_le _) (by kernel_rfl) (app_len hg24 (by decide)) (fun s26 w28 H29=>?_))
  rw [← hl25] at H29
  clear H23
  refine zn ?_
  refine zr 1 8 [(3,s26)] ?_
  refine zd ?_
  refine inb_n (then_n ?_)
  refine zg ?_
  obtain ⟨x30,e,h⟩:=ls h
  refine ze 3 3 [(4,vi x30),(10,vi x30),(9,vi x11)] ?_
  refine zd ?_
  exact then_n ⟨n,lS n,l25,x30,s26,yy H29 [0] h⟩
 rintro a w31 ⟨l4,s5,G6,rfl,H32,h⟩
 subst hK7
 refine then_n ?_
 refine zsg ?_
 refine zrd 2 2 [(2,s5),(18,s5)] ?_
 refine WP.ret ?_
 obtain rfl:=oi h
 exact post_r (s5) rfl (by kernel_rfl) ⟨s5,rfl,sl H32 [0]⟩
/- tarn/tarnref0.CopyStrings -/
def g_tarnref0_CopyStrings_l1 (l2 : List ByteArray) (K7 : (List ByteArray) → Option (List ByteArray)) (fuel : Nat) : Nat → (List ByteArray) → Int → Option (List ByteArray)
  | 0, _, _ => none
  | n + 1, l9, x11 => lt (decide (x11 < (((List.length l2 : Nat) : Int)))) fun c16 => br c16 (gd ((0 : Int) ≤ x11 ∧ x11 < ((List.length l2 : Nat) : Int)) <| bd (l2[Int.toNat x11]?) fun x18 => gd ((List.length l9 + List.length (([x18] : List ByteArray))) * 16 ≤ 140737488355328) <| lt (l9 ++ (([x18] : List ByteArray))) fun l25 => lt (wr .i64 (x11 + 1)) fun x30 => g_tarnref0_CopyStrings_l1 l2 K7 fuel n l25 x30) (K7 l9)
def g_tarnref0_CopyStrings (fuel : Nat) (l2 : List ByteArray) : Option (List ByteArray) :=
  jn (fun (l4 : List ByteArray) => some l4) fun K7 => g_tarnref0_CopyStrings_l1 l2 K7 fuel fuel ([]) 0
theorem g_tarnref0_CopyStrings_w (fuel : Nat) (s1 : Value) (l2 : List ByteArray) (r : List ByteArray) (h : g_tarnref0_CopyStrings fuel l2 = some r) (w0 : World) (hs1 : Rd fStr (hp no w0) s1 l2) :
 Ret Tryz.prog 84 #[s1] w0 (fun v w' => ∃ (q0 : Value), v = q0 ∧ St no w0 w' [Own fStr 9 q0 r]) := by
 unfold g_tarnref0_CopyStrings at h
 refine ret_of_wpS Tryz.func84 rfl 19 rfl [(0,s1)] (by kernel_rfl) (fun G=>?_)
 have H0:=St.start w0
 refine zsg ?_
 refine zrd 1 1 [(2,vn)] ?_
 refine zsg ?_
 refine zrd 1 1 [(3,vn)] ?_
 refine zs ?_
 refine zsg ?_
 refine zrd 1 1 [(4,vi 0)] ?_
 obtain ⟨K7,hK7,h⟩:=js h
 refine WP.blockJ (fun a w=>∃ (l4 : List ByteArray) (s5 : Value),Y 19 [(3,s5)] [] no w0 [Own fStr 9 s5 l4] (K7 l4 = some r) a w) ?_ ?_
 ·refine WP.loop (fun n a w=>∃ (l9 : List ByteArray) (x11 : Int) (s10 : Value),Y 19 [(0,s1),(3,s10),(4,vi x11)] [] no w0 [Own fStr 9 s10 l9] (g_tarnref0_CopyStrings_l1 l2 K7 fuel n l9 x11 = some r) a w) fuel ⟨([]),0,vn,yy (St.nil H0 fStr 9) [0] h⟩ ?_
  rintro n a w13 ⟨l9,x11,s10,G12,rfl,H14,h⟩
  obtain _ | n:=n
  ·rw [g_tarnref0_CopyStrings_l1] at h; cases h
  rw [g_tarnref0_CopyStrings_l1] at h
  refine zs ?_
  refine zsg ?_
  refine zr 2 2 [(6,s1),(5,vi x11)] ?_
  refine zv (vi (((List.length l2 : Nat) : Int))) (lln (Rd.sl hs1) 9 1 16) ?_
  obtain ⟨c16,e,h⟩:=ls h
  refine zed 1 4 [(8,vb c16)] ?_
  cases c16
  ·replace h:=bf h
   refine zF ?_
   refine WP.exit ?_
   exact then_e (then_e (inb_e (then_n ⟨l9,s10,yy H14 [0] h⟩)))
  replace h:=bt h
  refine zTn ?_
  refine zs ?_
  refine WP.block ?_
  refine zg ?_
  obtain ⟨hg17,h⟩:=gs h
  refine zr 3 3 [(13,vi x11),(12,s1),(11,s10)] ?_
  refine zv (va (slAt s1 1 (Int.toNat x11))) (lli (Rd.sl hs1) 9 1 16 .i64 x11 hg17) ?_
  obtain ⟨x18,hx18,h⟩:=bs h
  refine zv (.string x18) (lle fStr hs1 (St.hp_le H14) hx18 0) ?_
  refine WPI.op rfl (Op1.lit (F:=fStr) (E:=9) H14 (by kernel_rfl) ([x18] : List ByteArray) (fun w=>by kernel_rfl) (by simp [maxLen]) (fun s20 w22 H23=>?_))
  clear H14
  obtain ⟨hg24,h⟩:=gs h
  obtain ⟨l25,hl25,h⟩:=ls h
  refine zn ?_
  refine WPI.op rfl (Op1.append (F:=fStr) H23 1 rfl (by kernel_rfl) 42 (.tmp 11) (.tmp 16) 16 rfl (by kernel_rfl) (by kernel_rfl) s20 (([x18] : List ByteArray)) (St.rd H23 0 rfl) (hp_no_le _) (by kernel_rfl) (app_len hg24 (by decide)) (fun s26 w28 H29=>?_))
  rw [← hl25] at H29
  clear H23
  refine zn ?_
  refine zr 1 8 [(3,s26)] ?_
  refine zd ?_
  refine inb_n (then_n ?_)
  refine zg ?_
  obtain ⟨x30,e,h⟩:=ls h
  refine ze 3 3 [(4,vi x30),(10,vi x30),(9,vi x11)] ?_
  refine zd ?_
  exact then_n ⟨n,lS n,l25,x30,s26,yy H29 [0] h⟩
 rintro a w31 ⟨l4,s5,G6,rfl,H32,h⟩
 subst hK7
 refine then_n ?_
 refine zsg ?_
 refine zrd 2 2 [(2,s5),(18,s5)] ?_
 refine WP.ret ?_
 obtain rfl:=oi h
 exact post_r (s5) rfl (by kernel_rfl) ⟨s5,rfl,sl H32 [0]⟩
/- tarn/tarnref0.CopyTx -/
def g_tarnref0_CopyTx (fuel : Nat) (p1 : TTx) : Option TTx :=
  bd (g_tarnref0_CopyMarks fuel p1.Hashes) fun t20 => bd (g_tarnref0_CopyStrings fuel p1.Blobs) fun t29 => some (TTx.mk p1.From p1.Nonce p1.Tip p1.Cap p1.BlobCap p1.Value_ p1.Gas t20 t29)
theorem g_tarnref0_CopyTx_w (fuel : Nat) (s2 s4 : Value) (p1 : TTx) (r : TTx) (h : g_tarnref0_CopyTx fuel p1 = some r) (w0 : World) (hs3 : Rd fU64 (hp no w0) s2 p1.Hashes) (hs5 : Rd fStr (hp no w0) s4 p1.Blobs) :
 Ret Tryz.prog 62 #[(gTx p1 s2 s4)] w0 (fun v w' => ∃ (q0_0 : Value) (q0_1 : Value), v = (gTx r q0_0 q0_1) ∧ St no w0 w' [Own fU64 22 q0_0 r.Hashes, Own fStr 9 q0_1 r.Blobs]) := by
 unfold g_tarnref0_CopyTx at h
 refine ret_of_wpS Tryz.func62 rfl 14 rfl [(0,(gTx p1 s2 s4))] (by kernel_rfl) (fun G=>?_)
 have H0:=St.start w0
 refine zsg ?_
 refine zo (obx H0 #[vi p1.From,vi p1.Nonce,vu p1.Tip.e0,vu p1.Tip.e1,vu p1.Tip.e2,vu p1.Tip.e3,vu p1.Cap.e0,vu p1.Cap.e1,vu p1.Cap.e2,vu p1.Cap.e3,vu p1.BlobCap.e0,vu p1.BlobCap.e1,vu p1.BlobCap.e2,vu p1.BlobCap.e3,vu p1.Value_.e0,vu p1.Value_.e1,vu p1.Value_.e2,vu p1.Value_.e3,vi p1.Gas,s2,s4] 44 (fun b6 w8 H9=>?_))
 refine zn ?_
 refine zo (oal H9 #[vi 0,vi 0,vu 0,vu 0,vu 0,vu 0,vu 0,vu 0,vu 0,vu 0,vu 0,vu 0,vu 0,vu 0,vu 0,vu 0,vu 0,vu 0,vi 0,vn,vn] 44 (fun b10 w12 H13=>?_))
 clear H9
 refine zn ?_
 refine zdn ?_
 refine zsg ?_
 refine zv ((gTx p1 s2 s4)) (llb H13 1 0) ?_
 refine zo (oal H13 #[vi 0,vi 0,vu 0,vu 0,vu 0,vu 0,vu 0,vu 0,vu 0,vu 0,vu 0,vu 0,vu 0,vu 0,vu 0,vu 0,vu 0,vu 0,vi 0,vn,vn] 44 (fun b14 w16 H17=>?_))
 clear H13
 refine zn ?_
 refine zo (osb H17 0 0 ((gTx p1 s2 s4)) #[vi p1.From,vi p1.Nonce,vu p1.Tip.e0,vu p1.Tip.e1,vu p1.Tip.e2,vu p1.Tip.e3,vu p1.Cap.e0,vu p1.Cap.e1,vu p1.Cap.e2,vu p1.Cap.e3,vu p1.BlobCap.e0,vu p1.BlobCap.e1,vu p1.BlobCap.e2,vu p1.BlobCap.e3,vu p1.Value_.e0,vu p1.Value_.e1,vu p1.Value_.e2,vu p1.Value_.e3,vi p1.Gas,s2,s4] true (oc1 rfl (oc1 rfl (oc1 rfl (oc1 rfl (oc1 rfl (oc1 rfl (oc1 rfl (oc1 rfl (oc1 rfl (oc1 rfl (oc1 rfl (oc1 rfl (oc1 rfl (oc1 rfl (oc1 rfl (oc1 rfl (oc1 rfl (oc1 rfl (oc1 rfl (oc1 (IsSl.one (Rd.sl hs3)) (oc1 (IsSl.one (Rd.sl hs5)) oc0))))))))))))))))))))) (fun w18 H19=>?_))
 clear H17
 refine z0 ?_
 refine zdn ?_
 refine zsg ?_
 refine zr 1 1 [(5,vp b6 19)] ?_
 refine zv (s2) (llb H19 2 19) ?_
 obtain ⟨t20,ht20,h⟩:=bs h
 refine zo (oca (g_tarnref0_CopyMarks_w fuel s2 p1.Hashes t20 ht20 _ (Rd.arg0 hs3 H19)) ?_)
 rintro s21 w24 ⟨_,rfl,Hc25⟩
 have H26:=St.call0 H19 Hc25
 clear H19 Hc25
 have sf23:=Own.isSl (St.get H26 0 rfl)
 refine zn ?_
 refine zr 1 4 [(8,vp b14 19)] ?_
 refine WPI.op rfl (Op1.storeBoxS H26 1 rfl (by kernel_rfl) 41 (.tmp 8) (.tmp 7) 19 (s21) #[vi p1.From,vi p1.Nonce,vu p1.Tip.e0,vu p1.Tip.e1,vu p1.Tip.e2,vu p1.Tip.e3,vu p1.Cap.e0,vu p1.Cap.e1,vu p1.Cap.e2,vu p1.Cap.e3,vu p1.BlobCap.e0,vu p1.BlobCap.e1,vu p1.BlobCap.e2,vu p1.BlobCap.e3,vu p1.Value_.e0,vu p1.Value_.e1,vu p1.Value_.e2,vu p1.Value_.e3,vi p1.Gas,s21,s4] sf23 rfl (by kernel_rfl) (by kernel_rfl) (by kernel_rfl) (by kernel_rfl) (by kernel_rfl) (fun w27 H28=>?_))
 clear H26
 refine z0 ?_
 refine zdn ?_
 refine zsg ?_
 refine zr 1 1 [(9,vp b6 20)] ?_
 refine zv (s4) (llb H28 3 20) ?_
 obtain ⟨t29,ht29,h⟩:=bs h
 refine zo (oca (g_tarnref0_CopyStrings_w fuel s4 p1.Blobs t29 ht29 _ (Rd.arg0 hs5 H28)) ?_)
 rintro s30 w33 ⟨_,rfl,Hc34⟩
 have H35:=St.call0 H28 Hc34
 clear H28 Hc34
 have sf32:=Own.isSl (St.get H35 0 rfl)
 refine zn ?_
 refine zr 1 4 [(12,vp b14 20)] ?_
 refine WPI.op rfl (Op1.storeBoxS H35 1 rfl (by kernel_rfl) 42 (.tmp 12) (.tmp 11) 20 (s30) #[vi p1.From,vi p1.Nonce,vu p1.Tip.e0,vu p1.Tip.e1,vu p1.Tip.e2,vu p1.Tip.e3,vu p1.Cap.e0,vu p1.Cap.e1,vu p1.Cap.e2,vu p1.Cap.e3,vu p1.BlobCap.e0,vu p1.BlobCap.e1,vu p1.BlobCap.e2,vu p1.BlobCap.e3,vu p1.Value_.e0,vu p1.Value_.e1,vu p1.Value_.e2,vu p1.Value_.e3,vi p1.Gas,s21,s30] sf32 rfl (by kernel_rfl) (by kernel_rfl) (by kernel_rfl) (by kernel_rfl) (by kernel_rfl) (fun w36 H37=>?_))
 clear H35
 refine z0 ?_
 refine zdn ?_
 refine zsg ?_
 refine zv ((gTx p1 s21 s30)) (llb H37 0 0) ?_
 refine zo (osb H37 3 0 ((gTx p1 s21 s30)) #[vi p1.From,vi p1.Nonce,vu p1.Tip.e0,vu p1.Tip.e1,vu p1.Tip.e2,vu p1.Tip.e3,vu p1.Cap.e0,vu p1.Cap.e1,vu p1.Cap.e2,vu p1.Cap.e3,vu p1.BlobCap.e0,vu p1.BlobCap.e1,vu p1.BlobCap.e2,vu p1.BlobCap.e3,vu p1.Value_.e0,vu p1.Value_.e1,vu p1.Value_.e2,vu p1.Value_.e3,vi p1.Gas,s21,s30] true (oc1 rfl (oc1 rfl (oc1 rfl (oc1 rfl (oc1 rfl (oc1 rfl (oc1 rfl (oc1 rfl (oc1 rfl (oc1 rfl (oc1 rfl (oc1 rfl (oc1 rfl (oc1 rfl (oc1 rfl (oc1 rfl (oc1 rfl (oc1 rfl (oc1 rfl (oc1 (IsSl.one sf23) (oc1 (IsSl.one sf32) oc0))))))))))))))))))))) (fun w38 H39=>?_))
 clear H37
 refine z0 ?_
 refine zdn ?_
 refine WP.ret ?_
 obtain rfl:=oi h
 exact post_r ((gTx p1 s21 s30)) rfl (results_cell rfl (by kernel_rfl) (run_loadAt (ad:=(⟨b10,0,none⟩ : Addr)) (off:=0) (St.boxAt H39 0 rfl) (le_self _) (by kernel_rfl))) ⟨s21,s30,rfl,sl H39 [3,2]⟩
/- tarn/tarnref16.Of -/
def g_tarnref16_Of_l1 (l2 : List TTx) (p3 : Int) (fuel : Nat) (K12 : (List TTx) → Option (List TTx)) : Nat → (List TTx) → Int → Option (List TTx)
  | 0, _, _ => none
  | n + 1, l16, x20 => lt (decide (x20 < (((List.length l2 : Nat) : Int)))) fun c25 => br c25 (jn (fun (l28 : List TTx) => lt (wr .i64 (x20 + 1)) fun x99 => g_tarnref16_Of_l1 l2 p3 fuel K12 n l28 x99) fun K33 => jn (fun (l36 : List TTx) => K33 l36) fun K41 => gd ((0 : Int) ≤ x20 ∧ x20 < ((List.length l2 : Nat) : Int)) <| bd (l2[Int.toNat x20]?) fun x43 => lt (x43.From == p3) fun c51 => br c51 (gd ((0 : Int) ≤ x20 ∧ x20 < ((List.length l2 : Nat) : Int)) <| bd (l2[Int.toNat x20]?) fun x53 => bd (g_tarnref0_CopyTx fuel x53) fun t61 => gd ((List.length l16 + List.length (([t61] : List TTx))) * 200 ≤ 140737488355328) <| lt (l16 ++ (([t61] : List TTx))) fun l87 => K41 l87) (K41 l16)) (K12 l16)
def g_tarnref16_Of (fuel : Nat) (l2 : List TTx) (p3 : Int) : Option (List TTx) :=
  jn (fun (l7 : List TTx) => some l7) fun K12 => g_tarnref16_Of_l1 l2 p3 fuel K12 fuel ([]) 0
theorem g_tarnref16_Of_w (fuel : Nat) (s1 : Value) (l2 : List TTx) (p3 : Int) (r : List TTx) (h : g_tarnref16_Of fuel l2 p3 = some r) (w0 : World) (hb : Hp) (hle0 : hb.le w0) (hs1 : RdD dTTx hb s1 l2) :
 Ret Tryz.prog 31 #[s1, vi p3] w0 (fun v w' => ∃ (h1 : Hp) (q0 : Value) (c0 : List (Cells dTTx.sz)), v = q0 ∧ F2 (dTTx.rel (un hb h1)) r c0 ∧ St no w0 w' [Fz h1, Own (fD dTTx) 44 q0 c0]) := by
 unfold g_tarnref16_Of at h
 refine ret_of_wpS Tryz.func31 rfl 29 rfl [(0,s1),(1,vi p3)] (by kernel_rfl) (fun G=>?_)
 have H0:=St.fz0 (St.start w0)
 refine zsg ?_
 refine zrd 1 1 [(4,vn)] ?_
 refine zsg ?_
 refine zrd 1 1 [(5,vn)] ?_
 refine zs ?_
 refine zsg ?_
 refine zrd 1 1 [(6,vi 0)] ?_
 obtain ⟨K12,hK12,h⟩:=js h
 refine WP.blockJ (fun a w=>∃ (l7 : List TTx) (h4 : Hp) (s8 : Value) (cs9 : List (Cells dTTx.sz)) (G11 : Nat → Value),a = S 29 G11 [(5,s8)] []∧St no w0 w [Fz h4,Own (fD dTTx) 44 s8 cs9]∧Hp.sub ((fun _=>none)) h4∧F2 (dTTx.rel ((un hb h4))) l7 cs9∧K12 l7 = some r) ?_ ?_
 ·refine WP.loop (fun n a w=>∃ (l16 : List TTx) (x20 : Int) (h13 : Hp) (s17 : Value) (cs18 : List (Cells dTTx.sz)) (G21 : Nat → Value),a = S 29 G21 [(0,s1),(1,vi p3),(5,s17),(6,vi x20)] []∧St no w0 w [Fz h13,Own (fD dTTx) 44 s17 cs18]∧Hp.sub ((fun _=>none)) h13∧F2 (dTTx.rel ((un hb h13))) l16 cs18∧g_tarnref16_Of_l1 l2 p3 fuel K12 n l16 x20 = some r) fuel ⟨([]),0,((fun _=>none)),vn,([]),yy (St.nil H0 (fD dTTx) 44) [1,0] ⟨(Hp.sub_refl _),(F2.nil _),h⟩⟩ ?_
  intro n a w hq
  refine Exists.elim hq fun l16 hq=>Exists.elim hq fun x20 hq=>Exists.elim hq fun h13 hq=>Exists.elim hq fun s17 hq=>Exists.elim hq fun cs18 hq=>Exists.elim hq fun G21 hq=>?_
  obtain ⟨rfl,H,hu14,hf19,h⟩:=hq
  obtain _ | n:=n
  ·rw [g_tarnref16_Of_l1] at h; cases h
  rw [g_tarnref16_Of_l1] at h
  obtain ⟨w22,rfl⟩ : ∃ x,x = w:=⟨_,rfl⟩
  have H23:=H; clear H
  refine zs ?_
  refine zsg ?_
  refine zr 2 2 [(8,s1),(7,vi x20)] ?_
  refine zv (vi (((List.length l2 : Nat) : Int))) (lln (RdD.sl hs1) 44 21 200) ?_
  obtain ⟨c25,e,h⟩:=ls h
  refine zed 1 4 [(10,vb c25)] ?_
  cases c25
  ·replace h:=bf h
   refine zF ?_
   refine WP.exit ?_
   exact then_e (then_e (inb_e (then_n ⟨l16,h13,s17,cs18,yy H23 [0,1] ⟨hu14,hf19,h⟩⟩)))
  replace h:=bt h
  refine zTn ?_
  obtain ⟨K33,hK33,h⟩:=js h
  refine WP.seqJ (fun a w=>∃ (l28 : List TTx) (h26 : Hp) (s29 : Value) (cs30 : List (Cells dTTx.sz)) (G32 : Nat → Value),a = S 29 G32 [(0,s1),(1,vi p3),(5,s29),(6,vi x20)] []∧St no w0 w [Fz h26,Own (fD dTTx) 44 s29 cs30]∧Hp.sub h13 h26∧F2 (dTTx.rel ((un hb h26))) l28 cs30∧K33 l28 = some r) ?_ ?_
  ·obtain ⟨K41,hK41,h⟩:=js h
   refine WP.blockJ (fun a w=>∃ (l36 : List TTx) (h34 : Hp) (s37 : Value) (cs38 : List (Cells dTTx.sz)) (G40 : Nat → Value),a = S 29 G40 [(0,s1),(1,vi p3),(5,s37),(6,vi x20)] []∧St no w0 w [Fz h34,Own (fD dTTx) 44 s37 cs38]∧Hp.sub h13 h34∧F2 (dTTx.rel ((un hb h34))) l36 cs38∧K41 l36 = some r) ?_ ?_
   ·refine zsg ?_
    obtain ⟨hg42,h⟩:=gs h
    refine zr 2 2 [(14,vi x20),(13,s1)] ?_
    refine zv (va (slAt s1 21 (Int.toNat x20))) (lli (RdD.sl hs1) 44 21 200 .i64 x20 hg42) ?_
    obtain ⟨x43,hx43,h⟩:=bs h
    obtain ⟨c48,hr49,hc50⟩:=RdD.at_ hs1 _ _ hx43
    obtain ⟨s44,s46,rfl,hs45,hs47⟩:=hr49
    refine zr 1 4 [(16,va (slAt s1 21 (Int.toNat x20)))] ?_
    refine zv (vi x43.From) (lld 0 hc50 (St.hb_le H23 hle0)) ?_
    obtain ⟨c51,e,h⟩:=ls h
    refine zed 2 7 [(19,vb c51),(18,vi p3)] ?_
    cases c51
    ·replace h:=bf h
     refine zF ?_
     refine WP.skip ?_
     exact inb_n (then_n ⟨l16,h13,s17,cs18,yy H23 [0,1] ⟨(Hp.sub_refl _),hf19,h⟩⟩)
    replace h:=bt h
    refine zT ?_
    refine zg ?_
    obtain ⟨hg52,h⟩:=gs h
    refine zr 3 3 [(22,vi x20),(21,s1),(20,s17)] ?_
    refine zv (va (slAt s1 21 (Int.toNat x20))) (lli (RdD.sl hs1) 44 21 200 .i64 x20 hg52) ?_
    obtain ⟨x53,hx53,h⟩:=bs h
    obtain ⟨c58,hr59,hc60⟩:=RdD.at_ hs1 _ _ hx53
    obtain ⟨s54,s56,rfl,hs55,hs57⟩:=hr59
    refine zv ((gTx x53 s54 s56)) (lld 0 hc60 (St.hb_le H23 hle0)) ?_
    obtain ⟨t61,ht61,h⟩:=bs h
    refine zo (oca (g_tarnref0_CopyTx_w fuel s54 s56 x53 t61 ht61 _ (Rd.mono (sub_hp (St.hb_le H23 hle0)) hs55) (Rd.mono (sub_hp (St.hb_le H23 hle0)) hs57)) ?_)
    rintro _ w68 ⟨s62,s64,rfl,Hc69⟩
    have H70:=St.call0 H23 Hc69
    clear H23 Hc69
    refine zn ?_
    obtain ⟨h71,hu72,hs73,H74⟩:=St.freeze (hb:=hb) (St.sel (Rs':=[Own fU64 22 s62 t61.Hashes,Fz h13,Own fStr 9 s64 t61.Blobs,Own (fD dTTx) 44 s17 cs18]) H70 [0,2,1,3] (by decide) rfl) (St.hb_le H70 hle0)
    obtain ⟨h75,hu76,hs77,H78⟩:=St.freeze (hb:=hb) (St.sel (Rs':=[Own fStr 9 s64 t61.Blobs,Fz h71,Own (fD dTTx) 44 s17 cs18]) H74 [1,0,2] (by decide) rfl) (St.hb_le H74 hle0)
    have hd79 : dTTx.rel ((un hb h75)) t61 [vi t61.From,vi t61.Nonce,vu t61.Tip.e0,vu t61.Tip.e1,vu t61.Tip.e2,vu t61.Tip.e3,vu t61.Cap.e0,vu t61.Cap.e1,vu t61.Cap.e2,vu t61.Cap.e3,vu t61.BlobCap.e0,vu t61.BlobCap.e1,vu t61.BlobCap.e2,vu t61.BlobCap.e3,vu t61.Value_.e0,vu t61.Value_.e1,vu t61.Value_.e2,vu t61.Value_.e3,vi t61.Gas,s62,s64]:=⟨s62,s64,rfl,(Rd.mono (un_mono hu76) hs73),hs77⟩
    have hf83 : F2 (dTTx.rel ((un hb h75))) ([t61] : List TTx) ([dTTx.ce hd79] : List (Cells dTTx.sz)):=(F2.cons hd79 (F2.nil _))
    refine WPI.op rfl (Op1.lit (F:=fD dTTx) (E:=44) H78 (by kernel_rfl) ([dTTx.ce hd79] : List (Cells dTTx.sz)) (fun w=>by kernel_rfl) (by simp [maxLen]) (fun s81 w84 H85=>?_))
    clear H78
    obtain ⟨hg86,h⟩:=gs h
    obtain ⟨l87,hl87,h⟩:=ls h
    refine zn ?_
    refine WPI.op rfl (Op1.append (F:=fD dTTx) H85 2 rfl (by kernel_rfl) 28 (.tmp 20) (.tmp 26) 200 rfl (by kernel_rfl) (by kernel_rfl) s81 (([dTTx.ce hd79] : List (Cells dTTx.sz))) (St.rd H85 0 rfl) (hp_no_le _) (by kernel_rfl) (app_lenD (F2.up (un_mono (Hp.sub_trans hu72 hu76)) hf19).1 hf83.1 hg86 (by decide)) (fun s88 w91 H92=>?_))
    clear H85
    have hf90 : F2 (dTTx.rel ((un hb h75))) l87 (cs18 ++ ([dTTx.ce hd79] : List (Cells dTTx.sz))):=by rw [hl87]; exact F2.append (F2.up (un_mono (Hp.sub_trans hu72 hu76)) hf19) hf83
    refine zn ?_
    refine zr 1 9 [(5,s88)] ?_
    refine zd ?_
    exact inb_n (then_n ⟨l87,h75,s88,((cs18 ++ ([dTTx.ce hd79] : List (Cells dTTx.sz)))),yy H92 [2,0] ⟨(Hp.sub_trans hu72 hu76),hf90,h⟩⟩)
   rintro a w93 ⟨l36,h34,s37,cs38,G40,rfl,H94,hu35,hf39,h⟩
   subst hK41
   exact then_n ⟨l36,h34,s37,cs38,yy H94 [0,1] ⟨hu35,hf39,h⟩⟩
  rintro a w96 ⟨l28,h26,s29,cs30,G32,rfl,H97,hu27,hf31,h⟩
  subst hK33
  refine zg ?_
  obtain ⟨x99,e,h⟩:=ls h
  refine ze 3 3 [(6,vi x99),(12,vi x99),(11,vi x20)] ?_
  refine zd ?_
  exact then_n ⟨n,lS n,l28,x99,h26,s29,cs30,yy H97 [0,1] ⟨(Hp.sub_trans hu14 hu27),hf31,h⟩⟩
 rintro a w100 ⟨l7,h4,s8,cs9,G11,rfl,H101,hu5,hf10,h⟩
 subst hK12
 refine then_n ?_
 refine zsg ?_
 refine zrd 2 2 [(4,s8),(28,s8)] ?_
 refine WP.ret ?_
 obtain rfl:=oi h
 exact post_r (s8) rfl (by kernel_rfl) ⟨h4,s8,cs9,rfl,hf10,sl H101 [0,1]⟩
/- tarn/tarnref14.Spent -/
def g_tarnref14_Spent_l1 (l2 : List TTx) (fuel : Nat) (K18 : Int → Int → Int → Int → Option (TU256 × Bool)) : Nat → Int → Int → Int → Int → Int → Option (TU256 × Bool)
  | 0, _, _, _, _, _ => none
  | n + 1, x19, x20, x21, x22, x23 => lt (decide (x23 < (((List.length l2 : Nat) : Int)))) fun c27 => br c27 (gd ((0 : Int) ≤ x23 ∧ x23 < ((List.length l2 : Nat) : Int)) <| bd (l2[Int.toNat x23]?) fun x29 => bd (g_tarnref7_Cost fuel x29) fun t37 => bd (g_tarnref1_Add fuel (TU256.mk x19 x20 x21 x22) t37.1) fun t47 => lt (!t47.2) fun c57 => br c57 (some (TU256.mk 0 0 0 0, false)) (lt (wr .i64 (x23 + 1)) fun x60 => g_tarnref14_Spent_l1 l2 fuel K18 n t47.1.e0 t47.1.e1 t47.1.e2 t47.1.e3 x60)) (K18 x19 x20 x21 x22)
def g_tarnref14_Spent (fuel : Nat) (l2 : List TTx) : Option (TU256 × Bool) :=
  jn (fun (x13 : Int) (x14 : Int) (x15 : Int) (x16 : Int) => some (TU256.mk x13 x14 x15 x16, true)) fun K18 => g_tarnref14_Spent_l1 l2 fuel K18 fuel 0 0 0 0 0
theorem g_tarnref14_Spent_w (fuel : Nat) (s1 : Value) (l2 : List TTx) (r : TU256 × Bool) (h : g_tarnref14_Spent fuel l2 = some r) (w0 : World) (hs1 : RdD dTTx (hp no w0) s1 l2) :
 Ret Tryz.prog 63 #[s1] w0 (fun v w' => v = .tuple #[TU256.val r.1, vb r.2] ∧ St no w0 w' []) := by
 unfold g_tarnref14_Spent at h
 refine ret_of_wpS Tryz.func63 rfl 36 rfl [(0,s1)] (by kernel_rfl) (fun G=>?_)
 have H0:=St.start w0
 refine zsg ?_
 refine zo (oal H0 #[vu 0,vu 0,vu 0,vu 0] 24 (fun b3 w5 H6=>?_))
 refine zn ?_
 refine zrd 1 2 [(3,vb false)] ?_
 refine zsg ?_
 refine zr 1 1 [(10,.agg #[vu 0,vu 0,vu 0,vu 0])] ?_
 refine zo (oal H6 #[vu 0,vu 0,vu 0,vu 0] 24 (fun b7 w9 H10=>?_))
 clear H6
 refine zn ?_
 refine zo (osb H10 0 0 (.agg #[vu 0,vu 0,vu 0,vu 0]) #[vu 0,vu 0,vu 0,vu 0] true (flat_one1 fTU256 (TU256.mk 0 0 0 0)) (fun w11 H12=>?_))
 clear H10
 refine z0 ?_
 refine zdn ?_
 refine zs ?_
 refine zsg ?_
 refine zrd 1 1 [(5,vi 0)] ?_
 obtain ⟨K18,hK18,h⟩:=js h
 refine WP.blockJ (fun a w=>∃ (x13 : Int) (x14 : Int) (x15 : Int) (x16 : Int),Y 36 [(2,vp b3 0),(4,vp b7 0)] [] no w0 [Box b7 #[vu x13,vu x14,vu x15,vu x16] 24,Box b3 #[vu 0,vu 0,vu 0,vu 0] 24] (K18 x13 x14 x15 x16 = some r) a w) ?_ ?_
 ·refine WP.loop (fun n a w=>∃ (x19 : Int) (x20 : Int) (x21 : Int) (x22 : Int) (x23 : Int),Y 36 [(0,s1),(2,vp b3 0),(4,vp b7 0),(5,vi x23)] [] no w0 [Box b7 #[vu x19,vu x20,vu x21,vu x22] 24,Box b3 #[vu 0,vu 0,vu 0,vu 0] 24] (g_tarnref14_Spent_l1 l2 fuel K18 n x19 x20 x21 x22 x23 = some r) a w) fuel ⟨0,0,0,0,0,yy H12 [0,1] h⟩ ?_
  intro n a w hq
  refine Exists.elim hq fun x19 hq=>Exists.elim hq fun x20 hq=>Exists.elim hq fun x21 hq=>Exists.elim hq fun x22 hq=>Exists.elim hq fun x23 hq=>Exists.elim hq fun G24 hq=>?_
  obtain ⟨rfl,H,h⟩:=hq
  obtain _ | n:=n
  ·rw [g_tarnref14_Spent_l1] at h; cases h
  rw [g_tarnref14_Spent_l1] at h
  obtain ⟨w25,rfl⟩ : ∃ x,x = w:=⟨_,rfl⟩
  have H26:=H; clear H
  refine zs ?_
  refine zsg ?_
  refine zr 2 2 [(12,s1),(11,vi x23)] ?_
  refine zv (vi (((List.length l2 : Nat) : Int))) (lln (RdD.sl hs1) 44 21 200) ?_
  obtain ⟨c27,e,h⟩:=ls h
  refine zed 1 4 [(14,vb c27)] ?_
  cases c27
  ·replace h:=bf h
   refine zF ?_
   refine WP.exit ?_
   exact then_e (then_e (inb_e (then_n ⟨x19,x20,x21,x22,yy H26 [0,1] h⟩)))
  replace h:=bt h
  refine zTn ?_
  refine zs ?_
  refine WP.block ?_
  refine zsg ?_
  obtain ⟨hg28,h⟩:=gs h
  refine zr 2 2 [(19,vi x23),(18,s1)] ?_
  refine zv (va (slAt s1 21 (Int.toNat x23))) (lli (RdD.sl hs1) 44 21 200 .i64 x23 hg28) ?_
  obtain ⟨x29,hx29,h⟩:=bs h
  obtain ⟨c34,hr35,hc36⟩:=RdD.at_ hs1 _ _ hx29
  obtain ⟨s30,s32,rfl,hs31,hs33⟩:=hr35
  refine zv ((gTx x29 s30 s32)) (lld 0 hc36 (St.hp_le H26)) ?_
  obtain ⟨t37,ht37,h⟩:=bs h
  refine zo (oca (g_tarnref7_Cost_w fuel s30 s32 x29 t37 ht37 _ (Rd.arg0 hs31 H26) (Rd.arg0 hs33 H26)) ?_)
  rintro _ w38 ⟨rfl,Hc39⟩
  have H40:=St.call0' H26 Hc39
  clear H26 Hc39
  refine zn ?_
  refine zr 3 8 [(24,vb t37.2),(23,TU256.val t37.1),(17,.tuple #[TU256.val t37.1,vb t37.2])] ?_
  refine zo (oal H40 #[vu 0,vu 0,vu 0,vu 0] 24 (fun b41 w43 H44=>?_))
  clear H40
  refine zn ?_
  refine zo (osb H44 0 0 (TU256.val t37.1) (TU256.cs t37.1).toArray true (flat_one1 fTU256 t37.1) (fun w45 H46=>?_))
  clear H44
  refine z0 ?_
  refine zrd 1 11 [(7,vb t37.2)] ?_
  refine zsg ?_
  refine zv (.agg #[vu x19,vu x20,vu x21,vu x22]) (llb H46 1 0) ?_
  refine zv (TU256.val t37.1) (llb H46 0 0) ?_
  obtain ⟨t47,ht47,h⟩:=bs h
  refine zo (oca (g_tarnref1_Add_w fuel (TU256.mk x19 x20 x21 x22) t37.1 t47 ht47 _) ?_)
  rintro _ w48 ⟨rfl,Hc49⟩
  have H50:=St.call0' H46 Hc49
  clear H46 Hc49
  refine zn ?_
  refine zr 3 6 [(30,vb t47.2),(29,TU256.val t47.1),(25,.tuple #[TU256.val t47.1,vb t47.2])] ?_
  refine zo (oal H50 #[vu 0,vu 0,vu 0,vu 0] 24 (fun b51 w53 H54=>?_))
  clear H50
  refine zn ?_
  refine zo (osb H54 0 0 (TU256.val t47.1) (TU256.cs t47.1).toArray true (flat_one1 fTU256 t47.1) (fun w55 H56=>?_))
  clear H54
  refine z0 ?_
  refine zrd 1 9 [(9,vb t47.2)] ?_
  refine zs ?_
  refine zsg ?_
  obtain ⟨c57,e,h⟩:=ls h
  refine zed 2 2 [(32,vb c57),(31,vb t47.2)] ?_
  cases c57
  ·replace h:=bf h
   refine zFn ?_
   refine zg ?_
   refine zv (TU256.val t47.1) (llb H56 0 0) ?_
   refine zo (osb H56 2 0 (TU256.val t47.1) (TU256.cs t47.1).toArray true (flat_one1 fTU256 t47.1) (fun w58 H59=>?_))
   clear H56
   refine z0 ?_
   refine zd ?_
   refine inb_n (then_n ?_)
   refine zg ?_
   obtain ⟨x60,e,h⟩:=ls h
   refine ze 3 3 [(5,vi x60),(16,vi x60),(15,vi x23)] ?_
   refine zd ?_
   exact then_n ⟨n,lS n,t47.1.e0,t47.1.e1,t47.1.e2,t47.1.e3,x60,yy H59 [0,3] h⟩
  replace h:=bt h
  refine zT ?_
  refine zsg ?_
  refine zr 1 1 [(33,.agg #[vu 0,vu 0,vu 0,vu 0])] ?_
  refine zo (osb H56 3 0 (.agg #[vu 0,vu 0,vu 0,vu 0]) #[vu 0,vu 0,vu 0,vu 0] true (flat_one1 fTU256 (TU256.mk 0 0 0 0)) (fun w61 H62=>?_))
  clear H56
  refine z0 ?_
  refine zrd 1 3 [(3,vb false)] ?_
  refine WP.ret ?_
  obtain rfl:=oi h
  exact then_r (inb_r (then_r (then_r (inb_r (then_r (then_r (post_r (.tuple #[.agg #[vu 0,vu 0,vu 0,vu 0],vb false]) rfl (results_cell_tmp rfl (by kernel_rfl) (by kernel_rfl) (run_loadAt (ad:=(⟨b3,0,none⟩ : Addr)) (off:=0) (St.boxAt H62 0 rfl) (le_self _) (by kernel_rfl))) ⟨rfl,sl H62 []⟩)))))))
 rintro a w63 ⟨x13,x14,x15,x16,G17,rfl,H64,h⟩
 subst hK18
 refine then_n ?_
 refine zsg ?_
 refine zv (.agg #[vu x13,vu x14,vu x15,vu x16]) (llb H64 0 0) ?_
 refine zo (osb H64 1 0 (.agg #[vu x13,vu x14,vu x15,vu x16]) #[vu x13,vu x14,vu x15,vu x16] true (flat_one1 fTU256 (TU256.mk x13 x14 x15 x16)) (fun w65 H66=>?_))
 clear H64
 refine z0 ?_
 refine zrd 1 3 [(3,vb true)] ?_
 refine WP.ret ?_
 obtain rfl:=oi h
 exact post_r (.tuple #[.agg #[vu x13,vu x14,vu x15,vu x16],vb true]) rfl (results_cell_tmp rfl (by kernel_rfl) (by kernel_rfl) (run_loadAt (ad:=(⟨b3,0,none⟩ : Addr)) (off:=0) (St.boxAt H66 0 rfl) (le_self _) (by kernel_rfl))) ⟨rfl,sl H66 []⟩
/- tarn/tarnref14.Chain -/
def g_tarnref14_Chain_l1 (l2 : List TTx) (K15 : Option Bool) (fuel : Nat) : Nat → Int → Option Bool
  | 0, _ => none
  | n + 1, x16 => lt (decide (x16 < (((List.length l2 : Nat) : Int)))) fun c20 => br c20 (jn (fun (c21 : Bool) => br c21 (some false) (lt (wr .i64 (x16 + 1)) fun x70 => g_tarnref14_Chain_l1 l2 K15 fuel n x70)) fun K23 => gd ((0 : Int) ≤ x16 ∧ x16 < ((List.length l2 : Nat) : Int)) <| bd (l2[Int.toNat x16]?) fun x25 => gd ((0 : Int) ≤ 0 ∧ 0 < ((List.length l2 : Nat) : Int)) <| bd (l2[Int.toNat 0]?) fun x34 => lt (x25.From != x34.From) fun c42 => br c42 (K23 true) (gd ((0 : Int) ≤ x16 ∧ x16 < ((List.length l2 : Nat) : Int)) <| bd (l2[Int.toNat x16]?) fun x44 => lt (wr .i64 (x16 - 1)) fun x52 => gd ((0 : Int) ≤ x52 ∧ x52 < ((List.length l2 : Nat) : Int)) <| bd (l2[Int.toNat x52]?) fun x54 => lt (wr .i64 (x54.Nonce + 1)) fun x62 => lt (x44.Nonce != x62) fun c63 => K23 c63)) (K15)
def g_tarnref14_Chain (fuel : Nat) (l2 : List TTx) : Option Bool :=
  jn (fun (c3 : Bool) => br c3 (some false) (jn (bd (g_tarnref14_Spent fuel l2) fun t73 => some t73.2) fun K15 => g_tarnref14_Chain_l1 l2 K15 fuel fuel 1)) fun K5 => lt (decide ((((List.length l2 : Nat) : Int)) > 6)) fun c6 => br c6 (K5 true) (bd (g_tarnref7_Txs fuel l2) fun t7 => lt (!t7) fun c11 => K5 c11)
theorem g_tarnref14_Chain_w (fuel : Nat) (s1 : Value) (l2 : List TTx) (r : Bool) (h : g_tarnref14_Chain fuel l2 = some r) (w0 : World) (hs1 : RdD dTTx (hp no w0) s1 l2) :
 Ret Tryz.prog 32 #[s1] w0 (fun v w' => v = vb r ∧ St no w0 w' []) := by
 unfold g_tarnref14_Chain at h
 refine ret_of_wpS Tryz.func32 rfl 51 rfl [(0,s1)] (by kernel_rfl) (fun G=>?_)
 have H0:=St.start w0
 refine zsg ?_
 refine zrd 1 1 [(2,vb false)] ?_
 refine zs ?_
 refine zs ?_
 obtain ⟨K5,hK5,h⟩:=js h
 refine WP.onlyN (fun a w=>∃ (c3 : Bool),Y 51 [(0,s1),(13,vb c3)] [] no w0 [] (K5 c3 = some r) a w) ?_ ?_
 ·refine zg ?_
  refine zr 1 1 [(6,s1)] ?_
  refine zv (vi (((List.length l2 : Nat) : Int))) (lln (RdD.sl hs1) 44 21 200) ?_
  obtain ⟨c6,e,h⟩:=ls h
  refine ze 2 4 [(9,vb c6),(8,vb c6)] ?_
  cases c6
  rotate_left
  ·replace h:=bt h
   refine zr 4 8 [(13,vb true),(12,Z),(11,Z),(10,Z)] ?_
   refine zd ?_
   exact ⟨true,yy H0 [] h⟩
  replace h:=bf h
  obtain ⟨t7,ht7,h⟩:=bs h
  refine zr 1 5 [(10,s1)] ?_
  refine zo (oca (g_tarnref7_Txs_w fuel s1 l2 t7 ht7 _ (RdD.mono (sub_hp (St.hp_le H0)) hs1)) ?_)
  rintro _ w8 ⟨rfl,Hc9⟩
  have H10:=St.call0' H0 Hc9
  clear Hc9
  obtain ⟨c11,e,h⟩:=ls h
  refine zn ?_
  refine ze 2 8 [(13,vb c11),(12,vb c11)] ?_
  refine zd ?_
  exact ⟨c11,yy H10 [] h⟩
 rintro a w12 ⟨c3,G4,rfl,H13,h⟩
 subst hK5
 refine then_n ?_
 cases c3
 rotate_left
 ·replace h:=bt h
  refine zT ?_
  refine zsg ?_
  refine zrd 1 1 [(2,vb false)] ?_
  refine WP.ret ?_
  obtain rfl:=oi h
  exact then_r (post_r (vb false) rfl (by kernel_rfl) ⟨rfl,sl H13 []⟩)
 replace h:=bf h
 refine zFn ?_
 refine zs ?_
 refine zsg ?_
 refine zrd 1 1 [(3,vi 1)] ?_
 obtain ⟨K15,hK15,h⟩:=js h
 refine WP.blockJ (fun a w=>Y 51 [(0,s1)] [] no w0 [] (K15 = some r) a w) ?_ ?_
 ·refine WP.loop (fun n a w=>∃ (x16 : Int),Y 51 [(0,s1),(3,vi x16)] [] no w0 [] (g_tarnref14_Chain_l1 l2 K15 fuel n x16 = some r) a w) fuel ⟨1,yy H13 [] h⟩ ?_
  rintro n a w18 ⟨x16,G17,rfl,H19,h⟩
  obtain _ | n:=n
  ·rw [g_tarnref14_Chain_l1] at h; cases h
  rw [g_tarnref14_Chain_l1] at h
  refine zs ?_
  refine zsg ?_
  refine zr 2 2 [(15,s1),(14,vi x16)] ?_
  refine zv (vi (((List.length l2 : Nat) : Int))) (lln (RdD.sl hs1) 44 21 200) ?_
  obtain ⟨c20,e,h⟩:=ls h
  refine zed 1 4 [(17,vb c20)] ?_
  cases c20
  ·replace h:=bf h
   refine zF ?_
   refine WP.exit ?_
   exact then_e (then_e (inb_e (then_n (yy H19 [] h))))
  replace h:=bt h
  refine zTn ?_
  refine zs ?_
  refine WP.block ?_
  refine zs ?_
  obtain ⟨K23,hK23,h⟩:=js h
  refine WP.onlyN (fun a w=>∃ (c21 : Bool),Y 51 [(0,s1),(3,vi x16),(44,vb c21)] [] no w0 [] (K23 c21 = some r) a w) ?_ ?_
  ·refine WP.quiet (by kernel_rfl) (by kernel_rfl) (by kernel_rfl) (fun w=>St no w0 w []) (St.drew H19) ?_
   obtain ⟨hg24,h⟩:=gs h
   refine qr 2 2 [(21,vi x16),(20,s1)] ?_
   refine qv (va (slAt s1 21 (Int.toNat x16))) (fun w H=>lli (RdD.sl hs1) 44 21 200 .i64 x16 hg24) ?_
   obtain ⟨x25,hx25,h⟩:=bs h
   obtain ⟨c30,hr31,hc32⟩:=RdD.at_ hs1 _ _ hx25
   obtain ⟨s26,s28,rfl,hs27,hs29⟩:=hr31
   refine qr 1 4 [(23,va (slAt s1 21 (Int.toNat x16)))] ?_
   refine qv (vi x25.From) (fun w H=>lld 0 hc32 (St.hp_le H)) ?_
   obtain ⟨hg33,h⟩:=gs h
   refine qr 1 6 [(25,s1)] ?_
   refine qv (va (slAt s1 21 (Int.toNat 0))) (fun w H=>lli (RdD.sl hs1) 44 21 200 .i64 0 hg33) ?_
   obtain ⟨x34,hx34,h⟩:=bs h
   obtain ⟨c39,hr40,hc41⟩:=RdD.at_ hs1 _ _ hx34
   obtain ⟨s35,s37,rfl,hs36,hs38⟩:=hr40
   refine qr 1 8 [(27,va (slAt s1 21 (Int.toNat 0)))] ?_
   refine qv (vi x34.From) (fun w H=>lld 0 hc41 (St.hp_le H)) ?_
   obtain ⟨c42,e,h⟩:=ls h
   refine qe 2 11 [(30,vb c42),(29,vb c42)] ?_
   cases c42
   rotate_left
   ·replace h:=bt h
    refine qr 14 25 [(44,vb true),(43,Z),(42,Z),(41,Z),(40,Z),(39,Z),(38,Z),(37,Z),(36,Z),(35,Z),(34,Z),(33,Z),(32,Z),(31,Z)] ?_
    refine qd fun w66 H67=>?_
    exact ⟨true,yy H67 [] h⟩
   replace h:=bf h
   obtain ⟨hg43,h⟩:=gs h
   refine qr 2 13 [(32,vi x16),(31,s1)] ?_
   refine qv (va (slAt s1 21 (Int.toNat x16))) (fun w H=>lli (RdD.sl hs1) 44 21 200 .i64 x16 hg43) ?_
   obtain ⟨x44,hx44,h⟩:=bs h
   obtain ⟨c49,hr50,hc51⟩:=RdD.at_ hs1 _ _ hx44
   obtain ⟨s45,s47,rfl,hs46,hs48⟩:=hr50
   refine qr 1 15 [(34,va ((slAt s1 21 (Int.toNat x16)).add 1))] ?_
   refine qv (vi x44.Nonce) (fun w H=>lld 1 hc51 (St.hp_le H)) ?_
   obtain ⟨x52,e,h⟩:=ls h
   obtain ⟨hg53,h⟩:=gs h
   refine qe 3 19 [(38,vi x52),(37,vi x16),(36,s1)] ?_
   refine qv (va (slAt s1 21 (Int.toNat x52))) (fun w H=>lli (RdD.sl hs1) 44 21 200 .i64 x52 hg53) ?_
   obtain ⟨x54,hx54,h⟩:=bs h
   obtain ⟨c59,hr60,hc61⟩:=RdD.at_ hs1 _ _ hx54
   obtain ⟨s55,s57,rfl,hs56,hs58⟩:=hr60
   refine qr 1 21 [(40,va ((slAt s1 21 (Int.toNat x52)).add 1))] ?_
   refine qv (vi x54.Nonce) (fun w H=>lld 1 hc61 (St.hp_le H)) ?_
   obtain ⟨x62,hx62,h⟩:=ls h
   obtain ⟨c63,hc63,h⟩:=ls h
   refine qr 3 25 [(44,vb c63),(43,vb c63),(42,vi x62)] ?_ rfl (fun K=>by subst hc63 hx62; kernel_rfl)
   refine qd fun w64 H65=>?_
   exact ⟨c63,yy H65 [] h⟩
  rintro a w68 ⟨c21,G22,rfl,H69,h⟩
  subst hK23
  refine then_n ?_
  cases c21
  rotate_left
  ·replace h:=bt h
   refine zT ?_
   refine zsg ?_
   refine zrd 1 1 [(2,vb false)] ?_
   refine WP.ret ?_
   obtain rfl:=oi h
   exact inb_r (then_r (then_r (inb_r (then_r (then_r (post_r (vb false) rfl (by kernel_rfl) ⟨rfl,sl H69 []⟩))))))
  replace h:=bf h
  refine zF ?_
  refine WP.skip ?_
  refine inb_n (then_n ?_)
  refine zg ?_
  obtain ⟨x70,e,h⟩:=ls h
  refine ze 3 3 [(3,vi x70),(19,vi x70),(18,vi x16)] ?_
  refine zd ?_
  exact then_n ⟨n,lS n,x70,yy H69 [] h⟩
 rintro a w71 ⟨G14,rfl,H72,h⟩
 subst hK15
 refine then_n ?_
 refine zsg ?_
 obtain ⟨t73,ht73,h⟩:=bs h
 refine zr 1 1 [(46,s1)] ?_
 refine zo (oca (g_tarnref14_Spent_w fuel s1 l2 t73 ht73 _ (RdD.mono (sub_hp (St.hp_le H72)) hs1)) ?_)
 rintro _ w74 ⟨rfl,Hc75⟩
 have H76:=St.call0' H72 Hc75
 clear H72 Hc75
 refine zn ?_
 refine zr 3 5 [(49,vb t73.2),(48,TU256.val t73.1),(45,.tuple #[TU256.val t73.1,vb t73.2])] ?_
 refine zo (oal H76 #[vu 0,vu 0,vu 0,vu 0] 24 (fun b77 w79 H80=>?_))
 clear H76
 refine zn ?_
 refine zo (osb H80 0 0 (TU256.val t73.1) (TU256.cs t73.1).toArray true (flat_one1 fTU256 t73.1) (fun w81 H82=>?_))
 clear H80
 refine z0 ?_
 refine zrd 1 8 [(5,vb t73.2)] ?_
 refine zsg ?_
 refine zrd 2 2 [(2,vb t73.2),(50,vb t73.2)] ?_
 refine WP.ret ?_
 obtain rfl:=oi h
 exact post_r (vb t73.2) rfl (by kernel_rfl) ⟨rfl,sl H82 []⟩
/- tarn/tarnref14.Covered -/
def g_tarnref14_Covered_l1 (l2 : List TTx) (fuel : Nat) (p3 : TU256) (K9 : Option Int) : Nat → Int → Option Int
  | 0, _ => none
  | n + 1, x10 => lt (decide (x10 > 0)) fun c14 => br c14 (gd ((0 : Int) ≤ 0 ∧ 0 ≤ x10 ∧ x10 ≤ ((List.length l2 : Nat) : Int)) <| bd (g_tarnref14_Spent fuel ((List.take (Int.toNat x10) l2))) fun t17 => jn (fun (c27 : Bool) => br c27 (some x10) (lt (wr .i64 (x10 - 1)) fun x38 => g_tarnref14_Covered_l1 l2 fuel p3 K9 n x38)) fun K29 => br t17.2 (bd (g_tarnref1_Cmp fuel t17.1 p3) fun t31 => lt (decide (t31 ≤ 0)) fun c35 => K29 c35) (K29 false)) (K9)
def g_tarnref14_Covered (fuel : Nat) (l2 : List TTx) (p3 : TU256) : Option Int :=
  jn (some 0) fun K9 => g_tarnref14_Covered_l1 l2 fuel p3 K9 fuel (((List.length l2 : Nat) : Int))
theorem g_tarnref14_Covered_w (fuel : Nat) (s1 : Value) (l2 : List TTx) (p3 : TU256) (r : Int) (h : g_tarnref14_Covered fuel l2 p3 = some r) (w0 : World) (hs1 : RdD dTTx (hp no w0) s1 l2) :
 Ret Tryz.prog 33 #[s1, TU256.val p3] w0 (fun v w' => v = vi r ∧ St no w0 w' []) := by
 unfold g_tarnref14_Covered at h
 refine ret_of_wpS Tryz.func33 rfl 29 rfl [(0,s1),(1,TU256.val p3)] (by kernel_rfl) (fun G=>?_)
 have H0:=St.start w0
 refine zsg ?_
 refine zo (obx H0 (TU256.cs p3).toArray 24 (fun b4 w6 H7=>?_))
 refine zn ?_
 refine zrd 1 2 [(4,vi 0)] ?_
 refine zs ?_
 refine zsg ?_
 refine zr 1 1 [(8,s1)] ?_
 refine zv (vi (((List.length l2 : Nat) : Int))) (lln (RdD.sl hs1) 44 21 200) ?_
 refine zrd 1 3 [(5,vi (((List.length l2 : Nat) : Int)))] ?_
 obtain ⟨K9,hK9,h⟩:=js h
 refine WP.blockJ (fun a w=>Y 29 [] [] no w0 [Box b4 (TU256.cs p3).toArray 24] (K9 = some r) a w) ?_ ?_
 ·refine WP.loop (fun n a w=>∃ (x10 : Int),Y 29 [(0,s1),(3,vp b4 0),(5,vi x10)] [] no w0 [Box b4 (TU256.cs p3).toArray 24] (g_tarnref14_Covered_l1 l2 fuel p3 K9 n x10 = some r) a w) fuel ⟨(((List.length l2 : Nat) : Int)),yy H7 [0] h⟩ ?_
  rintro n a w12 ⟨x10,G11,rfl,H13,h⟩
  obtain _ | n:=n
  ·rw [g_tarnref14_Covered_l1] at h; cases h
  rw [g_tarnref14_Covered_l1] at h
  refine zs ?_
  refine zsg ?_
  obtain ⟨c14,e,h⟩:=ls h
  refine zed 2 2 [(11,vb c14),(10,vi x10)] ?_
  cases c14
  ·replace h:=bf h
   refine zF ?_
   refine WP.exit ?_
   exact then_e (then_e (inb_e (then_n (yy H13 [0] h))))
  replace h:=bt h
  refine zTn ?_
  refine zs ?_
  refine WP.block ?_
  refine zsg ?_
  obtain ⟨hg15,h⟩:=gs h
  have hs16:=RdD.sub (lo:=Int.toNat 0) (hi:=Int.toNat x10) hs1 (piece_lo hg15) (piece_hi hg15)
  refine zr 2 2 [(16,vi x10),(15,s1)] ?_
  refine WPI.valueS ((slSub s1 21 0 (Int.toNat x10))) 17 rfl rfl (by kernel_rfl) (ev_slice (RdD.sl hs1) 28 (.tmp 15) none (some (.tmp 16)) 44 21 200 0 x10 rfl (by kernel_rfl) (by kernel_rfl) (.inl ⟨rfl,rfl⟩) (.inr ⟨(.tmp 16),.i64,rfl,by kernel_rfl⟩) hg15) ?_
  obtain ⟨t17,ht17,h⟩:=bs h
  refine zo (oca (g_tarnref14_Spent_w fuel (slSub s1 21 0 (Int.toNat x10)) ((List.take (Int.toNat x10) l2)) t17 ht17 _ (RdD.mono (sub_hp (St.hp_le H13)) hs16)) ?_)
  rintro _ w18 ⟨rfl,Hc19⟩
  have H20:=St.call0' H13 Hc19
  clear H13 Hc19
  refine zn ?_
  refine zr 3 7 [(20,vb t17.2),(19,TU256.val t17.1),(14,.tuple #[TU256.val t17.1,vb t17.2])] ?_
  refine zo (oal H20 #[vu 0,vu 0,vu 0,vu 0] 24 (fun b21 w23 H24=>?_))
  clear H20
  refine zn ?_
  refine zo (osb H24 0 0 (TU256.val t17.1) (TU256.cs t17.1).toArray true (flat_one1 fTU256 t17.1) (fun w25 H26=>?_))
  clear H24
  refine z0 ?_
  refine zrd 1 10 [(7,vb t17.2)] ?_
  refine zs ?_
  obtain ⟨K29,hK29,h⟩:=js h
  refine WP.onlyN (fun a w=>∃ (c27 : Bool),Y 29 [(0,s1),(3,vp b4 0),(5,vi x10),(27,vb c27)] [] no w0 [Box b21 (TU256.cs t17.1).toArray 24,Box b4 (TU256.cs p3).toArray 24] (K29 c27 = some r) a w) ?_ ?_
  ·refine zg ?_
   refine zr 2 2 [(22,vb t17.2),(21,vb t17.2)] ?_
   cases hq30 : t17.2
   ·rw [hq30] at h
    try rw [hq30] at H26
    replace h:=bf h
    refine zr 5 7 [(27,vb false),(26,Z),(25,Z),(24,Z),(23,Z)] ?_
    refine zd ?_
    exact ⟨false,yy H26 [0,1] h⟩
   rw [hq30] at h
   try rw [hq30] at H26
   replace h:=bt h
   refine zv (TU256.val t17.1) (llb H26 0 0) ?_
   refine zv (TU256.val p3) (llb H26 1 0) ?_
   obtain ⟨t31,ht31,h⟩:=bs h
   refine zo (oca (g_tarnref1_Cmp_w fuel t17.1 p3 t31 ht31 _) ?_)
   rintro _ w32 ⟨rfl,Hc33⟩
   have H34:=St.call0' H26 Hc33
   clear H26 Hc33
   obtain ⟨c35,e,h⟩:=ls h
   refine zn ?_
   refine ze 2 7 [(27,vb c35),(26,vb c35)] ?_
   refine zd ?_
   exact ⟨c35,yy H34 [0,1] h⟩
  rintro a w36 ⟨c27,G28,rfl,H37,h⟩
  subst hK29
  refine then_n ?_
  cases c27
  rotate_left
  ·replace h:=bt h
   refine zT ?_
   refine zsg ?_
   refine zrd 2 2 [(4,vi x10),(28,vi x10)] ?_
   refine WP.ret ?_
   obtain rfl:=oi h
   exact inb_r (then_r (then_r (inb_r (then_r (then_r (post_r (vi x10) rfl (by kernel_rfl) ⟨rfl,sl H37 []⟩))))))
  replace h:=bf h
  refine zF ?_
  refine WP.skip ?_
  refine inb_n (then_n ?_)
  refine zg ?_
  obtain ⟨x38,e,h⟩:=ls h
  refine ze 3 3 [(5,vi x38),(13,vi x38),(12,vi x10)] ?_
  refine zd ?_
  exact then_n ⟨n,lS n,x38,yy H37 [1] h⟩
 rintro a w39 ⟨G8,rfl,H40,h⟩
 subst hK9
 refine then_n ?_
 refine zsg ?_
 refine zrd 1 1 [(4,vi 0)] ?_
 refine WP.ret ?_
 obtain rfl:=oi h
 exact post_r (vi 0) rfl (by kernel_rfl) ⟨rfl,sl H40 []⟩
/- tarn/tarnref0.InMarks -/
def g_tarnref0_InMarks_l1 (l2 : List Int) (p3 : Int) (K5 : Option Int) (fuel : Nat) : Nat → Int → Option Int
  | 0, _ => none
  | n + 1, x6 => lt (decide (x6 < (((List.length l2 : Nat) : Int)))) fun c10 => br c10 (gd ((0 : Int) ≤ x6 ∧ x6 < ((List.length l2 : Nat) : Int)) <| bd (l2[Int.toNat x6]?) fun x12 => lt (x12 == p3) fun c13 => br c13 (some x6) (lt (wr .i64 (x6 + 1)) fun x14 => g_tarnref0_InMarks_l1 l2 p3 K5 fuel n x14)) (K5)
def g_tarnref0_InMarks (fuel : Nat) (l2 : List Int) (p3 : Int) : Option Int :=
  jn (some ((-1))) fun K5 => g_tarnref0_InMarks_l1 l2 p3 K5 fuel fuel 0
theorem g_tarnref0_InMarks_w (fuel : Nat) (s1 : Value) (l2 : List Int) (p3 : Int) (r : Int) (h : g_tarnref0_InMarks fuel l2 p3 = some r) (w0 : World) (hs1 : Rd fU64 (hp no w0) s1 l2) :
 Ret Tryz.prog 35 #[s1, vu p3] w0 (fun v w' => v = vi r ∧ St no w0 w' []) := by
 unfold g_tarnref0_InMarks at h
 refine ret_of_wpS Tryz.func35 rfl 19 rfl [(0,s1),(1,vu p3)] (by kernel_rfl) (fun G=>?_)
 have H0:=St.start w0
 refine zsg ?_
 refine zrd 1 1 [(4,vi 0)] ?_
 refine zs ?_
 refine zsg ?_
 refine zrd 1 1 [(5,vi 0)] ?_
 obtain ⟨K5,hK5,h⟩:=js h
 refine WP.blockJ (fun a w=>Y 19 [] [] no w0 [] (K5 = some r) a w) ?_ ?_
 ·refine WP.loop (fun n a w=>∃ (x6 : Int),Y 19 [(0,s1),(1,vu p3),(5,vi x6)] [] no w0 [] (g_tarnref0_InMarks_l1 l2 p3 K5 fuel n x6 = some r) a w) fuel ⟨0,yy H0 [] h⟩ ?_
  rintro n a w8 ⟨x6,G7,rfl,H9,h⟩
  obtain _ | n:=n
  ·rw [g_tarnref0_InMarks_l1] at h; cases h
  rw [g_tarnref0_InMarks_l1] at h
  refine zs ?_
  refine zsg ?_
  refine zr 2 2 [(7,s1),(6,vi x6)] ?_
  refine zv (vi (((List.length l2 : Nat) : Int))) (lln (Rd.sl hs1) 22 1 8) ?_
  obtain ⟨c10,e,h⟩:=ls h
  refine zed 1 4 [(9,vb c10)] ?_
  cases c10
  ·replace h:=bf h
   refine zF ?_
   refine WP.exit ?_
   exact then_e (then_e (inb_e (then_n (yy H9 [] h))))
  replace h:=bt h
  refine zTn ?_
  refine zs ?_
  refine WP.block ?_
  refine zsg ?_
  obtain ⟨hg11,h⟩:=gs h
  refine zr 2 2 [(13,vi x6),(12,s1)] ?_
  refine zv (va (slAt s1 1 (Int.toNat x6))) (lli (Rd.sl hs1) 22 1 8 .i64 x6 hg11) ?_
  obtain ⟨x12,hx12,h⟩:=bs h
  refine zv (vu x12) (lle fU64 hs1 (St.hp_le H9) hx12 0) ?_
  obtain ⟨c13,e,h⟩:=ls h
  refine zed 2 6 [(17,vb c13),(16,vu p3)] ?_
  cases c13
  rotate_left
  ·replace h:=bt h
   refine zT ?_
   refine zsg ?_
   refine zrd 2 2 [(4,vi x6),(18,vi x6)] ?_
   refine WP.ret ?_
   obtain rfl:=oi h
   exact inb_r (then_r (then_r (inb_r (then_r (then_r (post_r (vi x6) rfl (by kernel_rfl) ⟨rfl,sl H9 []⟩))))))
  replace h:=bf h
  refine zF ?_
  refine WP.skip ?_
  refine inb_n (then_n ?_)
  refine zg ?_
  obtain ⟨x14,e,h⟩:=ls h
  refine ze 3 3 [(5,vi x14),(11,vi x14),(10,vi x6)] ?_
  refine zd ?_
  exact then_n ⟨n,lS n,x14,yy H9 [] h⟩
 rintro a w15 ⟨G4,rfl,H16,h⟩
 subst hK5
 refine then_n ?_
 refine zsg ?_
 refine zrd 1 1 [(4,vi ((-1)))] ?_
 refine WP.ret ?_
 obtain rfl:=oi h
 exact post_r (vi ((-1))) rfl (by kernel_rfl) ⟨rfl,sl H16 []⟩
end Go.Proofs
