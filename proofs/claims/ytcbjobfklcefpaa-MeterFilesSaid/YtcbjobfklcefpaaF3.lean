/- The walk of MeterFiles. -/
import Derived.Test.YtcbjobfklcefpaaGwz
import Derived.Test.YtcbjobfklcefpaaDd
import Derived.Test.YtcbjobfklcefpaaV8
import Derived.Test.YtcbjobfklcefpaaProg
import Derived.Test.YtcbjobfklcefpaaT
import Derived.Test.YtcbjobfklcefpaaV5
import Derived.Test.YtcbjobfklcefpaaV9
import Derived.Test.YtcbjobfklcefpaaV4
set_option linter.unusedVariables false
set_option linter.unusedSimpArgs false
set_option maxRecDepth 100000
set_option maxHeartbeats 0
namespace Go.Proofs
open Gw Go.RowKit
attribute [local irreducible] Gw.WP Gw.WPI Gw.WPL Gw.WA Gw.WQ Gw.PX Gw.PY Gw.WI Gw.PZ Gw.Op1 Gw.Ret Go.Exit.then Go.Exit.inBlock Go.wpOpIn Gw.Rnd Gw.Aft Gw.Begun
/-- the rest of the law, of files and what their lengths are to be -/
def tailP (l : List (List Int)) (want : List Int) : Option Bool := if l.length = 8 ∧ (∀ x ∈ l, x.length ≤ 131072) ∧ want = ints (l.map List.length) then some true else none
theorem eq_ints (l : List Int) (h : l.length = 8) : g_tarnref0_EqNumbers 20 l l = some true := by
 obtain ⟨a0, a1, a2, a3, a4, a5, a6, a7, rfl⟩ : ∃ a0 a1 a2 a3 a4 a5 a6 a7, l = [a0, a1, a2, a3, a4, a5, a6, a7] := by
  match l, h with
  | [a0, a1, a2, a3, a4, a5, a6, a7], _ => exact ⟨a0, a1, a2, a3, a4, a5, a6, a7, rfl⟩
 have w0 : wr .i64 1 = 1 := rfl
 have w1 : wr .i64 2 = 2 := rfl
 have w2 : wr .i64 3 = 3 := rfl
 have w3 : wr .i64 4 = 4 := rfl
 have w4 : wr .i64 5 = 5 := rfl
 have w5 : wr .i64 6 = 6 := rfl
 have w6 : wr .i64 7 = 7 := rfl
 have w7 : wr .i64 8 = 8 := rfl
 simp [g_tarnref0_EqNumbers, g_tarnref0_EqNumbers_l1, lt, br, jn, gd, bd, w0, w1, w2, w3, w4, w5, w6, w7]
def g_tarnlaw27_MeterFiles_l1 (l2 : List (List Int)) (fuel : Nat) (K26 : (List (List Int)) → (List Int) → Option Bool) : Nat → (List (List Int)) → (List Int) → Int → Option Bool
  | 0, _, _, _ => none
  | n + 1, l30, l35, x37 => lt (decide (x37 < 8)) fun c43 => br c43 (gd ((((List.length l2 : Nat) : Int)) ≠ 0) <| lt (Int.tmod x37 (((List.length l2 : Nat) : Int))) fun x45 => gd ((0 : Int) ≤ x45 ∧ x45 < ((List.length l2 : Nat) : Int)) <| bd (l2[Int.toNat x45]?) fun x47 => bd (g_tarnref0_CopyBytes fuel x47) fun t53 => gd ((List.length l30 + List.length (([t53] : List (List Int)))) * 24 ≤ 140737488355328) <| lt (l30 ++ (([t53] : List (List Int)))) fun l72 => gd ((0 : Int) ≤ x37 ∧ x37 < ((List.length l72 : Nat) : Int)) <| bd (l72[Int.toNat x37]?) fun x79 => gd ((List.length l35 + List.length (([((List.length x79 : Nat) : Int)] : List Int))) * 8 ≤ 140737488355328) <| lt (l35 ++ (([((List.length x79 : Nat) : Int)] : List Int))) fun l93 => lt (wr .i64 (x37 + 1)) fun x98 => g_tarnlaw27_MeterFiles_l1 l2 fuel K26 n l72 l93 x98) (K26 l30 l35)
def g_tarnlaw27_MeterFiles (fuel : Nat) (l2 : List (List Int)) : Option Bool :=
  jn (fun (c3 : Bool) => br c3 (some true) (jn (fun (l18 : List (List Int)) (l23 : List Int) => tailP l18 l23) fun K26 => g_tarnlaw27_MeterFiles_l1 l2 fuel K26 fuel ([]) ([]) 0)) fun K5 => bd (g_tarnlaw0_CellsWeight fuel l2) fun t6 => lt (decide (t6 > 6000)) fun c10 => br c10 (K5 true) (lt (decide ((((List.length l2 : Nat) : Int)) > 40)) fun c11 => br c11 (K5 true) (lt ((((List.length l2 : Nat) : Int)) == 0) fun c12 => K5 c12))
theorem g_tarnlaw27_MeterFiles_w (fuel : Nat) (s1 : Value) (l2 : List (List Int)) (r : Bool) (h : g_tarnlaw27_MeterFiles fuel l2 = some r) (w0 : World) (hs1 : RdD dS5 (hp no w0) s1 l2) (hwk : ∀ w : World, Ret Try.prog 11 #[] w (fun v w' => v = vb true ∧ St no w w' [])) :
    Ret Try.prog 3 #[s1] w0 (fun v w' => v = vb r ∧ St no w0 w' []) := by
  unfold g_tarnlaw27_MeterFiles at h
  refine ret_of_wpS Try.func3 rfl 91 rfl [(0, s1)] (by kernel_rfl) (fun G => ?_)
  have H0 := St.fz0 (St.start w0)
  refine WP.seq ?_
  refine WP.region ?_
  refine WPI.runS 1 1 [(2, vb false)] rfl (fun K => by kernel_rfl) ?_
  refine WPI.done rfl ?_
  refine then_n ?_
  refine WP.seq ?_
  refine WP.seq ?_
  obtain ⟨K5, hK5, h⟩ := jn_some h
  refine WP.onlyN (fun a w => ∃ (c3 : Bool) (G4 : Nat → Value), a = S 91 G4 [(0, s1), (25, vb c3)] [] ∧ St no w0 w [Fz (fun _ => none)] ∧ K5 c3 = some r) ?_ ?_
  · skip
    refine WP.region ?_
    obtain ⟨t6, ht6, h⟩ := bd_some h
    refine WPI.runS 1 1 [(13, s1)] rfl (fun K => by kernel_rfl) ?_
    refine WPI.op rfl (Op1.call (by kernel_rfl) (by kernel_rfl) (g_tarnlaw0_CellsWeight_w fuel s1 l2 t6 ht6 _ (RdD.mono (sub_hp (St.hp_le H0)) hs1)) ?_)
    rintro _ w7 ⟨rfl, Hc8⟩
    have H9 := St.call0' H0 Hc8
    clear Hc8
    obtain ⟨c10, hc10, h⟩ := lt_some h
    refine WPI.nS 14 rfl ?_
    refine WPI.runS 2 4 [(16, vb c10), (15, vb c10)] rfl (fun K => by subst hc10; kernel_rfl) ?_
    cases c10 with
    | false =>
      replace h := br_f h
      refine WPI.runS 1 5 [(17, s1)] rfl (fun K => by kernel_rfl) ?_
      refine WPI.valueS (vi (((List.length l2 : Nat) : Int))) 18 rfl rfl (by kernel_rfl) (ev_len (RdD.sl hs1) 22 (.tmp 17) 25 1 24 rfl (by kernel_rfl) (by kernel_rfl)) ?_
      obtain ⟨c11, hc11, h⟩ := lt_some h
      refine WPI.runS 3 9 [(21, vb c11), (20, vb c11), (19, vb c11)] rfl (fun K => by subst hc11; kernel_rfl) ?_
      cases c11 with
      | false =>
        replace h := br_f h
        refine WPI.runS 1 10 [(22, s1)] rfl (fun K => by kernel_rfl) ?_
        refine WPI.valueS (vi (((List.length l2 : Nat) : Int))) 23 rfl rfl (by kernel_rfl) (ev_len (RdD.sl hs1) 22 (.tmp 22) 25 1 24 rfl (by kernel_rfl) (by kernel_rfl)) ?_
        obtain ⟨c12, hc12, h⟩ := lt_some h
        refine WPI.runS 2 13 [(25, vb c12), (24, vb c12)] rfl (fun K => by subst hc12; kernel_rfl) ?_
        refine WPI.done rfl ?_
        exact ⟨c12, _, S.sub (by kernel_rfl), St.sel H9 [0] (by decide) rfl, h⟩
      | true =>
        replace h := br_t h
        refine WPI.runS 4 13 [(25, vb true), (24, Z), (23, Z), (22, Z)] rfl (fun K => by kernel_rfl) ?_
        refine WPI.done rfl ?_
        exact ⟨true, _, S.sub (by kernel_rfl), St.sel H9 [0] (by decide) rfl, h⟩
    | true =>
      replace h := br_t h
      refine WPI.runS 9 13 [(25, vb true), (24, Z), (23, Z), (22, Z), (21, vb true), (20, vb true), (19, Z), (18, Z), (17, Z)] rfl (fun K => by kernel_rfl) ?_
      refine WPI.done rfl ?_
      exact ⟨true, _, S.sub (by kernel_rfl), St.sel H9 [0] (by decide) rfl, h⟩
  · skip
    rintro a w ⟨c3, G4, rfl, H, h⟩
    subst hK5
    obtain ⟨w13, rfl⟩ : ∃ x, x = w := ⟨_, rfl⟩
    have H14 := H; clear H
    refine then_n ?_
    cases c3 with
    | false =>
      replace h := br_f h
      refine WP.condF (by kernel_rfl) ?_
      refine WP.skip ?_
      refine then_n ?_
      refine WP.seq ?_
      refine WP.region ?_
      refine WPI.runS 1 1 [(3, vn)] rfl (fun K => by kernel_rfl) ?_
      refine WPI.done rfl ?_
      refine then_n ?_
      refine WP.seq ?_
      refine WP.region ?_
      refine WPI.runS 1 1 [(4, vn)] rfl (fun K => by kernel_rfl) ?_
      refine WPI.done rfl ?_
      refine then_n ?_
      refine WP.seq ?_
      refine WP.seq ?_
      refine WP.region ?_
      refine WPI.runS 1 1 [(5, vi 0)] rfl (fun K => by kernel_rfl) ?_
      refine WPI.done rfl ?_
      refine then_n ?_
      obtain ⟨K26, hK26, h⟩ := jn_some h
      refine WP.blockJ (fun a w => ∃ (l18 : List (List Int)) (l23 : List Int) (h15 : Hp) (s19 : Value) (cs20 : List (Cells dS5.sz)) (s24 : Value) (G25 : Nat → Value), a = S 91 G25 [(3, s19), (4, s24)] [] ∧ St no w0 w [Fz h15, Own (fD dS5) 25 s19 cs20, Own fI64 3 s24 l23] ∧ Hp.sub ((fun _ => none)) h15 ∧ F2 (dS5.rel ((un (hp no w0) h15))) l18 cs20 ∧ K26 l18 l23 = some r) ?_ ?_
      · skip
        refine WP.loop (fun n a w => ∃ (l30 : List (List Int)) (l35 : List Int) (x37 : Int) (h27 : Hp) (s31 : Value) (cs32 : List (Cells dS5.sz)) (s36 : Value) (G38 : Nat → Value), a = S 91 G38 [(0, s1), (3, s31), (4, s36), (5, vi x37)] [] ∧ St no w0 w [Fz h27, Own (fD dS5) 25 s31 cs32, Own fI64 3 s36 l35] ∧ Hp.sub ((fun _ => none)) h27 ∧ F2 (dS5.rel ((un (hp no w0) h27))) l30 cs32 ∧ g_tarnlaw27_MeterFiles_l1 l2 fuel K26 n l30 l35 x37 = some r) fuel ⟨([]), ([]), 0, ((fun _ => none)), vn, ([]), vn, _, S.sub (by kernel_rfl), St.sel (St.nil (St.nil H14 (fD dS5) 25) fI64 3) [2, 1, 0] (by decide) rfl, (Hp.sub_refl _), (F2.nil _), h⟩ ?_
        intro n a w hq
        refine Exists.elim hq fun l30 hq => Exists.elim hq fun l35 hq => Exists.elim hq fun x37 hq => Exists.elim hq fun h27 hq => Exists.elim hq fun s31 hq => Exists.elim hq fun cs32 hq => Exists.elim hq fun s36 hq => Exists.elim hq fun G38 hq => ?_
        obtain ⟨rfl, H, hu28, hf33, h⟩ := hq
        cases n with
        | zero => rw [g_tarnlaw27_MeterFiles_l1] at h; cases h
        | succ n =>
          rw [g_tarnlaw27_MeterFiles_l1] at h
          obtain ⟨w39, rfl⟩ : ∃ x, x = w := ⟨_, rfl⟩
          have H40 := H; clear H
          have sf41 := Own.slD (St.get H40 1 rfl) hf33
          have sf42 := Own.isSl (St.get H40 2 rfl)
          refine WP.seq ?_
          refine WP.seq ?_
          refine WP.region ?_
          obtain ⟨c43, hc43, h⟩ := lt_some h
          refine WPI.runS 2 2 [(27, vb c43), (26, vi x37)] rfl (fun K => by subst hc43; kernel_rfl) ?_
          refine WPI.done rfl ?_
          refine then_n ?_
          cases c43 with
          | false =>
            replace h := br_f h
            refine WP.condF (by kernel_rfl) ?_
            refine WP.exit ?_
            exact then_e (then_e (inb_e (then_n ⟨l30, l35, h27, s31, cs32, s36, _, S.sub (by kernel_rfl), St.sel H40 [0, 1, 2] (by decide) rfl, hu28, hf33, h⟩)))
          | true =>
            replace h := br_t h
            refine WP.condT (by kernel_rfl) ?_
            refine WP.skip ?_
            refine then_n ?_
            refine WP.seq ?_
            refine WP.block ?_
            refine WP.seq ?_
            refine WP.region ?_
            refine WPI.runS 4 4 [(33, s1), (32, vi x37), (31, s1), (30, s31)] rfl (fun K => by kernel_rfl) ?_
            refine WPI.valueS (vi (((List.length l2 : Nat) : Int))) 34 rfl rfl (by kernel_rfl) (ev_len (RdD.sl hs1) 22 (.tmp 33) 25 1 24 rfl (by kernel_rfl) (by kernel_rfl)) ?_
            obtain ⟨hg44, h⟩ := gd_some h
            obtain ⟨x45, hx45, h⟩ := lt_some h
            refine WPI.valueS (vi x45) 35 rfl rfl (by kernel_rfl) (Eq.trans (ev_rem .i64 x37 (((List.length l2 : Nat) : Int)) 3 3 (.tmp 32) (.tmp 34) rfl (by kernel_rfl) (by kernel_rfl) hg44) (by rw [← hx45])) ?_
            obtain ⟨hg46, h⟩ := gd_some h
            refine WPI.valueS (va (slAt s1 1 (Int.toNat x45))) 36 rfl rfl (by kernel_rfl) (ev_index (RdD.sl hs1) 22 (.tmp 31) (.tmp 35) 25 1 24 .i64 x45 rfl (by kernel_rfl) (by kernel_rfl) (by kernel_rfl) hg46) ?_
            obtain ⟨x47, hx47, h⟩ := bd_some h
            obtain ⟨c50, hr51, hc52⟩ := RdD.at_ hs1 _ _ hx47
            obtain ⟨s48, rfl, hs49⟩ := hr51
            refine WPI.valueS (s48) 37 rfl rfl (by kernel_rfl) (ev_load 25 (.tmp 36) 0 (s48) hc52 (St.hp_le H40) rfl (by kernel_rfl) (by kernel_rfl)) ?_
            obtain ⟨t53, ht53, h⟩ := bd_some h
            refine WPI.op rfl (Op1.call (by kernel_rfl) (by kernel_rfl) (g_tarnref0_CopyBytes_w fuel s48 x47 t53 ht53 _ (Rd.arg0 hs49 H40)) ?_)
            rintro s54 w57 ⟨_, rfl, Hc58⟩
            have H59 := St.call0 H40 Hc58
            clear H40 Hc58
            have sf56 := Own.isSl (St.get H59 0 rfl)
            refine WPI.nS 38 rfl ?_
            obtain ⟨h60, hu61, hs62, H63⟩ := St.freeze (hb := hp no w0) (St.sel (Rs' := [Own fU8 5 s54 t53, Fz h27, Own (fD dS5) 25 s31 cs32, Own fI64 3 s36 l35]) H59 [0, 1, 2, 3] (by decide) rfl) (St.hp_le H59)
            obtain ⟨ad, cap, hv, -⟩ := sf56
            subst hv
            have hd64 : dS5.rel ((un (hp no w0) h60)) t53 [.slice ad t53.length cap] := ⟨.slice ad t53.length cap, rfl, hs62⟩
            have hf68 : F2 (dS5.rel ((un (hp no w0) h60))) ([t53] : List (List Int)) ([dS5.ce hd64] : List (Cells dS5.sz)) := (F2.cons hd64 (F2.nil _))
            refine WPI.op rfl (Op1.lit (F := fD dS5) (E := 25) H63 (by kernel_rfl) ([dS5.ce hd64] : List (Cells dS5.sz)) (fun w => by kernel_rfl) (by simp [maxLen]) (fun s66 w69 H70 => ?_))
            clear H63
            have sf67 := Own.slD (St.get H70 0 rfl) hf68
            obtain ⟨hg71, h⟩ := gd_some h
            obtain ⟨l72, hl72, h⟩ := lt_some h
            refine WPI.nS 39 rfl ?_
            refine WPI.op rfl (Op1.append (F := fD dS5) H70 2 rfl (by kernel_rfl) 22 (.tmp 30) (.tmp 39) 24 rfl (by kernel_rfl) (by kernel_rfl) s66 (([dS5.ce hd64] : List (Cells dS5.sz))) (St.rd H70 0 rfl) (hp_no_le _) (by kernel_rfl) (app_lenD (F2.up (un_mono hu61) hf33).1 hf68.1 hg71 (by decide)) (fun s73 w76 H77 => ?_))
            clear H70
            have hf75 : F2 (dS5.rel ((un (hp no w0) h60))) l72 (cs32 ++ ([dS5.ce hd64] : List (Cells dS5.sz))) := by rw [hl72]; exact F2.append (F2.up (un_mono hu61) hf33) hf68
            have sf74 := Own.slD (St.get H77 0 rfl) hf75
            refine WPI.nS 40 rfl ?_
            refine WPI.runS 1 12 [(3, s73)] rfl (fun K => by kernel_rfl) ?_
            refine WPI.done rfl ?_
            refine then_n ?_
            refine WP.region ?_
            obtain ⟨hg78, h⟩ := gd_some h
            refine WPI.runS 3 3 [(43, vi x37), (42, s73), (41, s36)] rfl (fun K => by kernel_rfl) ?_
            refine WPI.valueS (va (slAt s73 1 (Int.toNat x37))) 44 rfl rfl (by kernel_rfl) (ev_index sf74 22 (.tmp 42) (.tmp 43) 25 1 24 .i64 x37 rfl (by kernel_rfl) (by kernel_rfl) (by kernel_rfl) hg78) ?_
            obtain ⟨x79, hx79, h⟩ := bd_some h
            obtain ⟨c82, hr83, ha84, hb85, hc86⟩ := F2.get hf75 hx79
            obtain ⟨s80, rfl, hs81⟩ := hr83
            refine WPI.valueS (s80) 45 rfl rfl (by kernel_rfl) (ev_loadEl (F := fD dS5) (St.rd H77 0 rfl) (hp_no_le _) hc86 25 (.tmp 44) 0 (s80) rfl (by kernel_rfl) (by kernel_rfl)) ?_
            refine WPI.valueS (vi (((List.length x79 : Nat) : Int))) 46 rfl rfl (by kernel_rfl) (ev_len (Rd.sl hs81) 25 (.tmp 45) 5 1 1 rfl (by kernel_rfl) (by kernel_rfl)) ?_
            refine WPI.op rfl (Op1.lit (F := fI64) (E := 3) H77 (by kernel_rfl) ([((List.length x79 : Nat) : Int)] : List Int) (fun w => by kernel_rfl) (by simp [maxLen]) (fun s88 w90 H91 => ?_))
            clear H77
            have sf89 := Own.isSl (St.get H91 0 rfl)
            obtain ⟨hg92, h⟩ := gd_some h
            obtain ⟨l93, hl93, h⟩ := lt_some h
            refine WPI.nS 47 rfl ?_
            refine WPI.op rfl (Op1.append (F := fI64) H91 4 rfl (by kernel_rfl) 24 (.tmp 41) (.tmp 47) 8 rfl (by kernel_rfl) (by kernel_rfl) s88 (([((List.length x79 : Nat) : Int)] : List Int)) (St.rd H91 0 rfl) (hp_no_le _) (by kernel_rfl) (app_len hg92 (by decide)) (fun s94 w96 H97 => ?_))
            rw [← hl93] at H97
            clear H91
            have sf95 := Own.isSl (St.get H97 0 rfl)
            refine WPI.nS 48 rfl ?_
            refine WPI.runS 1 9 [(4, s94)] rfl (fun K => by kernel_rfl) ?_
            refine WPI.done rfl ?_
            refine inb_n (then_n ?_)
            refine WP.region ?_
            obtain ⟨x98, hx98, h⟩ := lt_some h
            refine WPI.runS 3 3 [(5, vi x98), (29, vi x98), (28, vi x37)] rfl (fun K => by subst hx98; kernel_rfl) ?_
            refine WPI.done rfl ?_
            exact then_n ⟨n, Nat.lt_succ_self n, l72, l93, x98, h60, s73, ((cs32 ++ ([dS5.ce hd64] : List (Cells dS5.sz)))), s94, _, S.sub (by kernel_rfl), St.sel H97 [4, 2, 0] (by decide) rfl, (Hp.sub_trans hu28 hu61), hf75, h⟩
      · skip
        intro a w hq
        refine Exists.elim hq fun l18 hq => Exists.elim hq fun l23 hq => Exists.elim hq fun h15 hq => Exists.elim hq fun s19 hq => Exists.elim hq fun cs20 hq => Exists.elim hq fun s24 hq => Exists.elim hq fun G25 hq => ?_
        obtain ⟨rfl, H, hu16, hf21, h⟩ := hq
        subst hK26
        obtain ⟨w99, rfl⟩ : ∃ x, x = w := ⟨_, rfl⟩
        have H100 := H; clear H
        have sf101 := Own.slD (St.get H100 1 rfl) hf21
        have sf102 := Own.isSl (St.get H100 2 rfl)
        refine then_n ?_
        refine WP.seq ?_
        refine WP.region ?_
        replace h : tailP l18 l23 = some r := h
        unfold tailP at h
        split at h
        rotate_left
        · cases h
        rename_i hh
        obtain ⟨h8, hm, rfl⟩ := hh
        obtain rfl := Option.some.inj h
        refine zr 1 1 [(49, s19)] ?_
        refine zo (oca (disk_w s19 l18 _ (St.rdD H100 1 rfl hf21 (un_le (St.hp_le H100) (St.fz_le H100 0 rfl))) h8 hm) ?_)
        rintro _ wa ⟨b, cs, rfl, hD, Hc⟩
        have Ha := St.call0 H100 Hc
        clear H100 Hc
        refine zn ?_
        refine zrd 1 3 [(6, vp b 0)] ?_
        refine zsg ?_
        refine zr 1 1 [(52, vp b 0)] ?_
        refine zo (oca (files_w b cs.toList _ hD _ (by rw [hp_no]; exact St.boxAt Ha 0 rfl)) ?_)
        rintro _ wb ⟨q, rfl, Hc⟩
        have Hb := St.call0 Ha Hc
        clear Ha Hc
        refine zn ?_
        refine zrd 5 7 [(8, vi 0), (7, q), (55, vi 0), (54, q), (51, .tuple #[q, vi 0])] ?_
        refine zsg ?_
        refine zo (oca (files_nil_w _) ?_)
        rintro _ wc ⟨rfl, Hc⟩
        have Hd := St.call0' Hb Hc
        clear Hb Hc
        refine zn ?_
        refine zrd 5 6 [(10, vi 1), (9, vn), (59, vi 1), (58, vn), (56, .tuple #[vn, vi 1])] ?_
        refine zs ?_
        refine zsg ?_
        refine zr 1 1 [(60, vi 0)] ?_
        refine zo (oca (g_tarnlaw27_num_w 0 0 0 rfl _) ?_)
        rintro _ we ⟨rfl, Hc⟩
        have He := St.call0' Hd Hc
        clear Hd Hc
        refine zn ?_
        refine zr 4 6 [(65, s24), (64, q), (63, vb false), (62, vb false)] ?_
        refine zo (oca (g_tarnref0_EqNumbers_w 20 q _ s24 _ true (eq_ints _ (by simp [ints, h8])) _ (St.rd He 0 rfl) (St.rd He 4 rfl)) ?_)
        rintro _ wf ⟨rfl, Hc⟩
        have Hf := St.call0' He Hc
        clear He Hc
        refine zn ?_
        refine zr 4 11 [(70, vi 1), (69, vb false), (68, vb false), (67, vb false)] ?_
        refine zo (oca (g_tarnlaw27_num_w 0 1 1 rfl _) ?_)
        rintro _ wg ⟨rfl, Hc⟩
        have Hg := St.call0' Hf Hc
        clear Hf Hc
        refine zn ?_
        refine zrd 6 18 [(77, vb false), (76, vb false), (75, vp b 0), (74, vb false), (73, vb false), (72, vb false)] ?_
        refine zFn ?_
        refine zsg ?_
        refine zr 1 1 [(78, vp b 0)] ?_
        refine zo (oca (off_w b cs _ false hD _ (St.get Hg 1 rfl)) ?_)
        rintro _ wh ⟨cs', hD', Hc⟩
        have Hh := St.call1 Hg 1 rfl Hc
        clear Hg Hc
        refine zn ?_
        refine zdn ?_
        refine zsg ?_
        refine zr 1 1 [(81, vp b 0)] ?_
        refine zo (oca (files_off_w b cs'.toList _ hD' _ (by rw [hp_no]; exact St.boxAt Hh 0 rfl)) ?_)
        rintro _ wi ⟨rfl, Hc⟩
        have Hi := St.call0' Hh Hc
        clear Hh Hc
        refine zn ?_
        refine zrd 5 7 [(12, vi 13), (11, vn), (84, vi 13), (83, vn), (80, .tuple #[vn, vi 13])] ?_
        refine zsg ?_
        refine zr 1 1 [(85, vi 13)] ?_
        refine zo (oca (g_tarnlaw27_num_w 0 13 13 rfl _) ?_)
        rintro _ wj ⟨rfl, Hc⟩
        have Hj := St.call0' Hi Hc
        clear Hi Hc
        refine zn ?_
        refine zr 2 4 [(88, vb true), (87, vb true)] ?_
        refine zo (oca (hwk _) ?_)
        rintro _ wk ⟨rfl, Hc⟩
        have Hk := St.call0' Hj Hc
        clear Hj Hc
        refine zn ?_
        refine zrd 2 7 [(2, vb true), (90, vb true)] ?_
        refine WP.ret ?_
        exact post_r (vb true) rfl (by kernel_rfl) ⟨rfl, sl Hk []⟩
    | true =>
      replace h := br_t h
      refine WP.condT (by kernel_rfl) ?_
      refine WP.seq ?_
      refine WP.region ?_
      refine WPI.runS 1 1 [(2, vb true)] rfl (fun K => by kernel_rfl) ?_
      refine WPI.done rfl ?_
      refine then_n ?_
      refine WP.ret ?_
      obtain rfl := Option.some.inj h
      exact then_r (post_r (vb true) rfl (by kernel_rfl) ⟨rfl, St.sel H14 [] (by decide) rfl⟩)
end Go.Proofs
