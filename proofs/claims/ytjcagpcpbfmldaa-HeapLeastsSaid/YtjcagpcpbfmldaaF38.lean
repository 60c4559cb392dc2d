import Derived.Test.YtjcagpcpbfmldaaGw
import Derived.Test.YtjcagpcpbfmldaaProg
import Derived.Test.YtjcagpcpbfmldaaT
import Derived.Test.YtjcagpcpbfmldaaF29
import Derived.Test.YtjcagpcpbfmldaaF52
import Derived.Test.YtjcagpcpbfmldaaF25
set_option linter.unusedVariables false
set_option linter.unusedSimpArgs false
set_option maxRecDepth 100000
set_option maxHeartbeats 4000000
namespace Go.Proofs
open Gw Go.RowKit
/- tarn/tarnref12.Push -/
def g_tarnref12_Push (fuel : Nat) (l2 : List TNode) (p3 : TNode) : Option ((List TNode) × Int) :=
  bd (g_tarnref12_Find fuel l2 p3.Acct) fun t8 => lt (decide (t8 ≥ 0)) fun c12 => br c12 (some ([], 4)) (jn (fun (l14 : List TNode) => lt (wr .i64 ((((List.length l14 : Nat) : Int)) - 1)) fun x58 => bd (g_tarnref12_rises fuel l14 x58) fun t59 => some (t59.1, 0)) fun K21 => bd (g_tarnref0_CopyNodes fuel l2) fun t23 => gd ((List.length t23 + List.length (([p3] : List TNode))) * 48 ≤ 140737488355328) <| lt (t23 ++ (([p3] : List TNode))) fun l31 => K21 l31)
theorem g_tarnref12_Push_w (fuel : Nat) (s1 : Value) (l2 : List TNode) (p3 : TNode) (r : (List TNode) × Int) (h : g_tarnref12_Push fuel l2 p3 = some r) (w0 : World) (hs1 : Rd fTNode (hp no w0) s1 l2) :
    Ret Try.prog 38 #[s1, TNode.val p3] w0 (fun v w' => ∃ q0 : Value, v = .tuple #[q0, vi r.2] ∧ St no w0 w' [Own fTNode 33 q0 r.1]) := by
  unfold g_tarnref12_Push at h
  refine ret_of_wp Try.func38 rfl #[s1, TNode.val p3, Z, Z, Z, Z, Z, Z, Z, Z, Z, Z, Z, Z, Z, Z, Z, Z, Z, Z, Z, Z, Z] (by kernel_rfl) ?_
  have H0 := St.start w0
  refine WP.seq ?_
  refine WP.region ?_
  refine WPI.op rfl (Op1.box H0 (TNode.cs p3).toArray (by kernel_rfl) 33 (.tmp 1) rfl (by kernel_rfl) (fun b4 w6 H7 => ?_))
  refine WPI.run 2 ⟨#[s1, TNode.val p3, Z, vp b4 0, vn, vi 0, Z, Z, Z, Z, Z, Z, Z, Z, Z, Z, Z, Z, Z, Z, Z, Z, Z], []⟩ w6 (fun K => by kernel_rfl) ?_
  refine WPI.done rfl ?_
  refine then_n ?_
  refine WP.seq ?_
  refine WP.seq ?_
  refine WP.region ?_
  refine WPI.run 2 ⟨#[s1, TNode.val p3, Z, vp b4 0, vn, vi 0, Z, s1, vp b4 0, Z, Z, Z, Z, Z, Z, Z, Z, Z, Z, Z, Z, Z, Z], []⟩ w6 (fun K => by kernel_rfl) ?_
  refine WPI.value (v := vi p3.Acct) rfl (by kernel_rfl) (ev_loadBox H7 0 rfl 3 (.tmp 8) 0 (vi p3.Acct) rfl (by kernel_rfl) (by kernel_rfl)) ?_
  obtain ⟨t8, ht8, h⟩ := bd_some h
  refine WPI.run 0 ⟨#[s1, TNode.val p3, Z, vp b4 0, vn, vi 0, Z, s1, vp b4 0, vi p3.Acct, Z, Z, Z, Z, Z, Z, Z, Z, Z, Z, Z, Z, Z], []⟩ w6 (fun K => by kernel_rfl) ?_
  refine WPI.op rfl (Op1.call (by kernel_rfl) (by kernel_rfl) (g_tarnref12_Find_w fuel s1 l2 p3.Acct t8 ht8 _ (Rd.arg0 hs1 H7)) ?_)
  rintro _ w9 ⟨rfl, Hc10⟩
  have H11 := St.call0' H7 Hc10
  clear H7 Hc10
  obtain ⟨c12, hc12, h⟩ := lt_some h
  refine WPI.run 1 ⟨#[s1, TNode.val p3, Z, vp b4 0, vn, vi 0, Z, s1, vp b4 0, vi p3.Acct, vi t8, vb c12, Z, Z, Z, Z, Z, Z, Z, Z, Z, Z, Z], []⟩ w9 (fun K => by subst hc12; kernel_rfl) ?_
  refine WPI.done rfl ?_
  refine then_n ?_
  cases c12 with
  | false =>
    replace h := br_f h
    refine WP.condF (by kernel_rfl) ?_
    refine WP.skip ?_
    refine then_n ?_
    refine WP.seq ?_
    obtain ⟨K21, hK21, h⟩ := jn_some h
    refine WP.draw (by kernel_rfl) (by kernel_rfl) (fun a w => ∃ (l14 : List TNode) (s15 g16 g17 g18 g19 g20 : Value), a = ⟨#[s1, TNode.val p3, Z, vp b4 0, vn, vi 0, s15, s1, vp b4 0, vi p3.Acct, vi t8, vb false, g16, g17, g18, g19, g20, Z, Z, Z, Z, Z, Z], []⟩ ∧ St no w0 w [Box b4 (TNode.cs p3).toArray 33, Own fTNode 33 s15 l14] ∧ K21 l14 = some r) 6 #[false, false, false, false, false, false] (by kernel_rfl) (by kernel_rfl) ?_ ?_
    · skip
      have H22 := St.drew H11
      obtain ⟨t23, ht23, h⟩ := bd_some h
      obtain ⟨hg30, h⟩ := gd_some h
      obtain ⟨l31, hl31, h⟩ := lt_some h
      refine WA.take 0 (v := s1) rfl (by kernel_rfl) (by kernel_rfl) (fun w => by kernel_rfl) (fun w => by kernel_rfl) (l' := #[true, false, false, false, false, false]) (by kernel_rfl) ?_
      refine WA.any [1, 2] (by kernel_rfl) (by simp) ?_
      simp only [List.mem_cons, List.not_mem_nil, or_false, forall_eq_or_imp, forall_eq]
      refine ⟨?_, ?_⟩
      · skip
        refine WO.op rfl (Op1.call (by kernel_rfl) (by kernel_rfl) (g_tarnref0_CopyNodes_w fuel s1 l2 t23 ht23 _ (Rd.arg0 hs1 H22)) ?_)
        rintro s24 w34 ⟨_, rfl, Hc35⟩
        have H36 := St.call0 H22 Hc35
        clear H22 Hc35
        have sf26 := Own.isSl (St.get H36 0 rfl)
        refine WA.lst (l := #[true, true, false, false, false, false]) (by kernel_rfl) ?_
        refine WA.any [2] (by kernel_rfl) (by simp) ?_
        simp only [List.mem_singleton, forall_eq]
        refine WO.op rfl (Op1.val (v := TNode.val p3) (by kernel_rfl) (ev_loadBox H36 1 rfl 33 (.tmp 3) 0 (TNode.val p3) rfl (by kernel_rfl) (by kernel_rfl)) ?_)
        refine WA.lst (l := #[true, true, true, false, false, false]) (by kernel_rfl) ?_
        refine WA.any [3] (by kernel_rfl) (by simp) ?_
        simp only [List.mem_singleton, forall_eq]
        refine WO.op rfl (Op1.lit (F := fTNode) (E := 33) H36 (by kernel_rfl) ([p3] : List TNode) (fun w => by kernel_rfl) (by simp [maxLen]) (fun s28 w37 H38 => ?_))
        clear H36
        have sf29 := Own.isSl (St.get H38 0 rfl)
        refine WA.lst (l := #[true, true, true, true, false, false]) (by kernel_rfl) ?_
        refine WA.any [4] (by kernel_rfl) (by simp) ?_
        simp only [List.mem_singleton, forall_eq]
        refine WO.op rfl (Op1.append (F := fTNode) H38 1 rfl (by kernel_rfl) 22 (.tmp 13) (.tmp 15) 48 rfl (by kernel_rfl) (by kernel_rfl) s28 (([p3] : List TNode)) (St.rd H38 0 rfl) (hp_no_le _) (by kernel_rfl) (app_len hg30 (by decide)) (fun s32 w39 H40 => ?_))
        rw [← hl31] at H40
        clear H38
        have sf33 := Own.isSl (St.get H40 0 rfl)
        refine WA.lst (l := #[true, true, true, true, true, false]) (by kernel_rfl) ?_
        refine WA.take 5 (v := s32) rfl (by kernel_rfl) (by kernel_rfl) (fun w => by kernel_rfl) (fun w => by kernel_rfl) (l' := #[true, true, true, true, true, true]) (by kernel_rfl) ?_
        refine WA.done (by kernel_rfl) ?_
        exact ⟨l31, s32, s1, s24, (TNode.val p3), s28, s32, (by kernel_rfl), St.sel H40 [2, 0] (by decide) rfl, h⟩
      · skip
        refine WO.op rfl (Op1.val (v := TNode.val p3) (by kernel_rfl) (ev_loadBox H22 0 rfl 33 (.tmp 3) 0 (TNode.val p3) rfl (by kernel_rfl) (by kernel_rfl)) ?_)
        refine WA.lst (l := #[true, false, true, false, false, false]) (by kernel_rfl) ?_
        refine WA.any [1, 3] (by kernel_rfl) (by simp) ?_
        simp only [List.mem_cons, List.not_mem_nil, or_false, forall_eq_or_imp, forall_eq]
        refine ⟨?_, ?_⟩
        · skip
          refine WO.op rfl (Op1.call (by kernel_rfl) (by kernel_rfl) (g_tarnref0_CopyNodes_w fuel s1 l2 t23 ht23 _ (Rd.arg0 hs1 H22)) ?_)
          rintro s24 w41 ⟨_, rfl, Hc42⟩
          have H43 := St.call0 H22 Hc42
          clear H22 Hc42
          have sf26 := Own.isSl (St.get H43 0 rfl)
          refine WA.lst (l := #[true, true, true, false, false, false]) (by kernel_rfl) ?_
          refine WA.any [3] (by kernel_rfl) (by simp) ?_
          simp only [List.mem_singleton, forall_eq]
          refine WO.op rfl (Op1.lit (F := fTNode) (E := 33) H43 (by kernel_rfl) ([p3] : List TNode) (fun w => by kernel_rfl) (by simp [maxLen]) (fun s28 w44 H45 => ?_))
          clear H43
          have sf29 := Own.isSl (St.get H45 0 rfl)
          refine WA.lst (l := #[true, true, true, true, false, false]) (by kernel_rfl) ?_
          refine WA.any [4] (by kernel_rfl) (by simp) ?_
          simp only [List.mem_singleton, forall_eq]
          refine WO.op rfl (Op1.append (F := fTNode) H45 1 rfl (by kernel_rfl) 22 (.tmp 13) (.tmp 15) 48 rfl (by kernel_rfl) (by kernel_rfl) s28 (([p3] : List TNode)) (St.rd H45 0 rfl) (hp_no_le _) (by kernel_rfl) (app_len hg30 (by decide)) (fun s32 w46 H47 => ?_))
          rw [← hl31] at H47
          clear H45
          have sf33 := Own.isSl (St.get H47 0 rfl)
          refine WA.lst (l := #[true, true, true, true, true, false]) (by kernel_rfl) ?_
          refine WA.take 5 (v := s32) rfl (by kernel_rfl) (by kernel_rfl) (fun w => by kernel_rfl) (fun w => by kernel_rfl) (l' := #[true, true, true, true, true, true]) (by kernel_rfl) ?_
          refine WA.done (by kernel_rfl) ?_
          exact ⟨l31, s32, s1, s24, (TNode.val p3), s28, s32, (by kernel_rfl), St.sel H47 [2, 0] (by decide) rfl, h⟩
        · skip
          refine WO.op rfl (Op1.lit (F := fTNode) (E := 33) H22 (by kernel_rfl) ([p3] : List TNode) (fun w => by kernel_rfl) (by simp [maxLen]) (fun s28 w48 H49 => ?_))
          clear H22
          have sf29 := Own.isSl (St.get H49 0 rfl)
          refine WA.lst (l := #[true, false, true, true, false, false]) (by kernel_rfl) ?_
          refine WA.any [1] (by kernel_rfl) (by simp) ?_
          simp only [List.mem_singleton, forall_eq]
          refine WO.op rfl (Op1.call (by kernel_rfl) (by kernel_rfl) (g_tarnref0_CopyNodes_w fuel s1 l2 t23 ht23 _ (Rd.arg0 hs1 H49)) ?_)
          rintro s24 w50 ⟨_, rfl, Hc51⟩
          have H52 := St.call0 H49 Hc51
          clear H49 Hc51
          have sf26 := Own.isSl (St.get H52 0 rfl)
          refine WA.lst (l := #[true, true, true, true, false, false]) (by kernel_rfl) ?_
          refine WA.any [4] (by kernel_rfl) (by simp) ?_
          simp only [List.mem_singleton, forall_eq]
          refine WO.op rfl (Op1.append (F := fTNode) H52 0 rfl (by kernel_rfl) 22 (.tmp 13) (.tmp 15) 48 rfl (by kernel_rfl) (by kernel_rfl) s28 (([p3] : List TNode)) (St.rd H52 1 rfl) (hp_no_le _) (by kernel_rfl) (app_len hg30 (by decide)) (fun s32 w53 H54 => ?_))
          rw [← hl31] at H54
          clear H52
          have sf33 := Own.isSl (St.get H54 0 rfl)
          refine WA.lst (l := #[true, true, true, true, true, false]) (by kernel_rfl) ?_
          refine WA.take 5 (v := s32) rfl (by kernel_rfl) (by kernel_rfl) (fun w => by kernel_rfl) (fun w => by kernel_rfl) (l' := #[true, true, true, true, true, true]) (by kernel_rfl) ?_
          refine WA.done (by kernel_rfl) ?_
          exact ⟨l31, s32, s1, s24, (TNode.val p3), s28, s32, (by kernel_rfl), St.sel H54 [2, 0] (by decide) rfl, h⟩
    · rintro a w ⟨l14, s15, g16, g17, g18, g19, g20, rfl, H, h⟩
      subst hK21
      obtain ⟨w55, rfl⟩ : ∃ x, x = w := ⟨_, rfl⟩
      have H56 := H; clear H
      have sf57 := Own.isSl (St.get H56 1 rfl)
      refine then_n ?_
      refine WP.seq ?_
      refine WP.region ?_
      refine WPI.run 2 ⟨#[s1, TNode.val p3, Z, vp b4 0, vn, vi 0, s15, s1, vp b4 0, vi p3.Acct, vi t8, vb false, g16, g17, g18, g19, g20, s15, s15, Z, Z, Z, Z], []⟩ w55 (fun K => by kernel_rfl) ?_
      refine WPI.value (v := vi (((List.length l14 : Nat) : Int))) rfl (by kernel_rfl) (ev_len sf57 22 (.tmp 18) 33 6 48 rfl (by kernel_rfl) (by kernel_rfl)) ?_
      obtain ⟨x58, hx58, h⟩ := lt_some h
      obtain ⟨t59, ht59, h⟩ := bd_some h
      refine WPI.run 1 ⟨#[s1, TNode.val p3, Z, vp b4 0, vn, vi 0, s15, s1, vp b4 0, vi p3.Acct, vi t8, vb false, g16, g17, g18, g19, g20, s15, s15, vi (((List.length l14 : Nat) : Int)), vi x58, Z, Z], []⟩ w55 (fun K => by subst hx58; kernel_rfl) ?_
      refine WPI.op rfl (Op1.call (by kernel_rfl) (by kernel_rfl) (g_tarnref12_rises_w fuel s15 l14 x58 t59 ht59 _ (St.get H56 1 rfl)) ?_)
      rintro _ w61 ⟨rfl, Hc62⟩
      have H63 := St.call1 H56 1 rfl Hc62
      clear H56 Hc62
      have sf60 := Own.isSl (St.get H63 0 rfl)
      refine WPI.run 0 ⟨#[s1, TNode.val p3, Z, vp b4 0, vn, vi 0, s15, s1, vp b4 0, vi p3.Acct, vi t8, vb false, g16, g17, g18, g19, g20, s15, s15, vi (((List.length l14 : Nat) : Int)), vi x58, vi t59.2, Z], []⟩ w61 (fun K => by kernel_rfl) ?_
      refine WPI.done rfl ?_
      refine then_n ?_
      refine WP.seq ?_
      refine WP.region ?_
      refine WPI.run 3 ⟨#[s1, TNode.val p3, Z, vp b4 0, s15, vi 0, s15, s1, vp b4 0, vi p3.Acct, vi t8, vb false, g16, g17, g18, g19, g20, s15, s15, vi (((List.length l14 : Nat) : Int)), vi x58, vi t59.2, s15], []⟩ w61 (fun K => by kernel_rfl) ?_
      refine WPI.done rfl ?_
      refine then_n ?_
      refine WP.ret ?_
      obtain rfl := Option.some.inj h
      exact post_r (.tuple #[s15, vi 0]) rfl (by kernel_rfl) ⟨s15, rfl, St.sel H63 [0] (by decide) rfl⟩
  | true =>
    replace h := br_t h
    refine WP.condT (by kernel_rfl) ?_
    refine WP.seq ?_
    refine WP.region ?_
    refine WPI.run 2 ⟨#[s1, TNode.val p3, Z, vp b4 0, vn, vi 4, Z, s1, vp b4 0, vi p3.Acct, vi t8, vb true, Z, Z, Z, Z, Z, Z, Z, Z, Z, Z, Z], []⟩ w9 (fun K => by kernel_rfl) ?_
    refine WPI.done rfl ?_
    refine then_n ?_
    refine WP.ret ?_
    obtain rfl := Option.some.inj h
    exact then_r (post_r (.tuple #[vn, vi 4]) rfl (by kernel_rfl) ⟨vn, rfl, St.sel (St.nil H11 fTNode 33) [0] (by decide) rfl⟩)
end Go.Proofs
