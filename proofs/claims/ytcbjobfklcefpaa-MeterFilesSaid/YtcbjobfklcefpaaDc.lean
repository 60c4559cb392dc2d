/- The walks of a new disk. -/
import Derived.Test.YtcbjobfklcefpaaDb
import Derived.Test.YtcbjobfklcefpaaV18
import Derived.Test.YtcbjobfklcefpaaV19
import Derived.Test.YtcbjobfklcefpaaV13
set_option linter.unusedVariables false
set_option linter.unusedSimpArgs false
set_option maxRecDepth 100000
set_option maxHeartbeats 0
namespace Go.Proofs
open Gw Go.RowKit
attribute [local irreducible] Gw.WP Gw.WPI Gw.WPL Gw.WA Gw.WQ Gw.PX Gw.PY Gw.WI Gw.PZ Gw.Op1 Gw.Ret Go.Exit.then Go.Exit.inBlock Go.wpOpIn Gw.Rnd Gw.Aft Gw.Begun

theorem index_w (s : Value) (l : List (List Int)) (w0 : World) (hs : RdD dS5 (hp no w0) s l) (h8 : l.length = 8) (hm : ∀ x ∈ l, x.length ≤ 131072) :
    Ret Try.prog 23 #[s, .func (.func 18) #[] #[]] w0 (fun v w' => v = vi (-1) ∧ St no w0 w' []) := by
 refine ret_of_wpS Try.func23 rfl 19 rfl [(0, s), (1, .func (.func 18) #[] #[])] (by kernel_rfl) (fun G => ?_)
 have H0 := St.start w0
 refine zsg ?_
 refine zrd 1 1 [(4, vi 0)] ?_
 refine zs ?_
 refine zsg ?_
 refine zr 1 1 [(6, s)] ?_
 refine zv (vi ((l.length : Nat) : Int)) (lln (RdD.sl hs) 25 1 24) ?_
 refine zrd 1 3 [(8, vi 0)] ?_
 refine WP.blockJ (fun a w => Y 19 [] [] no w0 [] True a w) ?_ ?_
 ·refine WP.loop (fun n a w => ∃ (x : Nat), Y 19 [(0, s), (1, .func (.func 18) #[] #[]), (7, vi ((l.length : Nat) : Int)), (8, vi x)] [] no w0 [] (x ≤ 8 ∧ n = 9 - x) a w) 9 ⟨0, yy H0 [] ⟨by omega, rfl⟩⟩ ?_
  rintro n a w1 ⟨x, G1, rfl, H1, hx, rfl⟩
  refine zsg ?_
  obtain ⟨c, e⟩ : ∃ c, c = decide ((x : Int) < ((l.length : Nat) : Int)) := ⟨_, rfl⟩
  have hcx : c = decide (x < 8) := by
   subst e
   have : ((x : Int) < ((l.length : Nat) : Int)) ↔ x < 8 := by omega
   simp only [this]
  refine zed 1 1 [(9, vb c)] ?_
  refine zs ?_
  clear e
  cases c
  ·refine zF ?_
   refine WP.exit ?_
   exact then_e (then_e (inb_e (then_n (yy H1 [] trivial))))
  have hx8 : x < 8 := of_decide_eq_true hcx.symm
  refine zTn ?_
  refine zs ?_
  refine WP.block ?_
  refine zsg ?_
  refine zrd 2 2 [(5, vi x), (10, vi x)] ?_
  refine zsg ?_
  refine zr 3 3 [(13, vi x), (12, s), (11, .func (.func 18) #[] #[])] ?_
  refine zv (va (slAt s 1 x)) (lli (RdD.sl hs) 25 1 24 .i64 x (by omega)) ?_
  have hlx : l[x]? = some l[x] := List.getElem?_eq_getElem (by omega)
  have hmx : l[x].length ≤ 131072 := hm _ (List.getElem_mem _)
  obtain ⟨c, hr, hc⟩ := RdD.at_ hs _ _ hlx
  obtain ⟨s1, rfl, hs1⟩ := hr
  refine zv s1 (lld 0 hc (St.hp_le H1)) ?_
  refine zo (oca (g_disk_New_1_w 0 s1 l[x] false ?_ _ (Rd.arg0 hs1 H1)) ?_)
  ·show some (decide (((l[x].length : Nat) : Int) > 131072)) = some false
   rw [decide_eq_false (by omega)]
  rintro _ w2 ⟨rfl, Hc⟩
  have H2 := St.call0' H1 Hc
  refine zn ?_
  refine zdn ?_
  refine zF ?_
  refine WP.skip ?_
  refine inb_n (then_n ?_)
  refine zg ?_
  obtain ⟨y, e⟩ : ∃ y, y = wr .i64 ((x : Int) + 1) := ⟨_, rfl⟩
  refine ze 2 2 [(8, vi y), (18, vi y)] ?_
  rw [wr_nat x (by omega)] at e
  subst e
  refine zd ?_
  exact then_n ⟨9 - (x + 1), by omega, x + 1, yy H2 [] ⟨by omega, rfl⟩⟩
 rintro a w1 ⟨G1, rfl, H1, -⟩
 refine then_n ?_
 refine zsg ?_
 refine zrd 1 1 [(4, vi (-1))] ?_
 refine WP.ret ?_
 exact post_r (vi (-1)) rfl (by kernel_rfl) ⟨rfl, sl H1 []⟩
theorem contains_w (s : Value) (l : List (List Int)) (w0 : World) (hs : RdD dS5 (hp no w0) s l) (h8 : l.length = 8) (hm : ∀ x ∈ l, x.length ≤ 131072) :
    Ret Try.prog 17 #[s, .func (.func 18) #[] #[]] w0 (fun v w' => v = vb false ∧ St no w0 w' []) := by
 refine ret_of_wpS Try.func17 rfl 9 rfl [(0, s), (1, .func (.func 18) #[] #[])] (by kernel_rfl) (fun G => ?_)
 have H0 := St.start w0
 refine zsg ?_
 refine zrd 1 1 [(4, vb false)] ?_
 refine zsg ?_
 refine zr 2 2 [(6, .func (.func 18) #[] #[]), (5, s)] ?_
 refine zo (oca (index_w s l _ (hs.mono (sub_hp (St.hp_le H0))) h8 hm) ?_)
 rintro _ w2 ⟨rfl, Hc⟩
 have H2 := St.call0' H0 Hc
 refine zn ?_
 refine zrd 2 5 [(4, vb false), (8, vb false)] ?_
 refine WP.ret ?_
 exact post_r (vb false) rfl (by kernel_rfl) ⟨rfl, sl H2 []⟩
end Go.Proofs
