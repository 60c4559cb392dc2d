import Derived.Test.YtjcagpcpbfmldaaGw
import Derived.Test.YtjcagpcpbfmldaaProg
import Derived.Test.YtjcagpcpbfmldaaT
import Derived.Test.YtjcagpcpbfmldaaF30
import Derived.Test.YtjcagpcpbfmldaaF31
import Derived.Test.YtjcagpcpbfmldaaF32
import Derived.Test.YtjcagpcpbfmldaaF26
import Derived.Test.YtjcagpcpbfmldaaF33
set_option linter.unusedVariables false
set_option linter.unusedSimpArgs false
set_option maxRecDepth 100000
set_option maxHeartbeats 4000000
namespace Go.Proofs
open Gw Go.RowKit
/- tarn/heap.Set -/
def g_heap_Set (fuel : Nat) (l2 : List TNode) (p3 : TNode) : Option ((List TNode) × Int) :=
  jn (fun (c15 : Bool) => br c15 (some ([], 1)) (bd (g_heap_place fuel l2 p3.Acct) fun t29 => lt (decide (t29 < 0)) fun c33 => br c33 (some ([], 3)) (bd (g_slices_Clone_api_Node_api_Node fuel l2) fun t34 => gd ((0 : Int) ≤ t29 ∧ t29 < ((List.length t34 : Nat) : Int)) <| lt (List.set t34 (Int.toNat t29) p3) fun l42 => bd (g_heap_settle fuel l42 t29) fun t45 => some (t45, 0)))) fun K16 => bd (g_heap_Check fuel l2) fun t17 => lt (t17 != 0) fun c21 => br c21 (K16 true) (bd (g_heap_may fuel p3) fun t22 => lt (!t22) fun c26 => K16 c26)
theorem g_heap_Set_w (fuel : Nat) (s1 : Value) (l2 : List TNode) (p3 : TNode) (r : (List TNode) × Int) (h : g_heap_Set fuel l2 p3 = some r) (w0 : World) (hs1 : Rd fTNode (hp no w0) s1 l2) :
    Ret Try.prog 20 #[s1, TNode.val p3] w0 (fun v w' => ∃ q0 : Value, v = .tuple #[q0, vi r.2] ∧ St no w0 w' [Own fTNode 33 q0 r.1]) := by
  unfold g_heap_Set at h
  refine ret_of_wp Try.func20 rfl #[s1, TNode.val p3, Z, Z, Z, Z, Z, Z, Z, Z, Z, Z, Z, Z, Z, Z, Z, Z, Z, Z, Z, Z, Z, Z, Z, Z, Z, Z, Z, Z, Z, Z] (by kernel_rfl) ?_
  have H0 := St.start w0
  refine WP.seq ?_
  refine WP.region ?_
  refine WPI.op rfl (Op1.box H0 (TNode.cs p3).toArray (by kernel_rfl) 33 (.tmp 1) rfl (by kernel_rfl) (fun b4 w6 H7 => ?_))
  refine WPI.run 2 ⟨#[s1, TNode.val p3, Z, vp b4 0, vn, vi 0, Z, Z, Z, Z, Z, Z, Z, Z, Z, Z, Z, Z, Z, Z, Z, Z, Z, Z, Z, Z, Z, Z, Z, Z, Z, Z], []⟩ w6 (fun K => by kernel_rfl) ?_
  refine WPI.done rfl ?_
  refine then_n ?_
  refine WP.seq ?_
  refine WP.seq ?_
  obtain ⟨K16, hK16, h⟩ := jn_some h
  refine WP.onlyN (fun a w => ∃ (c15 : Bool) (g8 g9 g10 g11 g12 g13 g14 : Value), a = ⟨#[s1, TNode.val p3, Z, vp b4 0, vn, vi 0, Z, Z, g8, g9, g10, g11, g12, g13, g14, vb c15, Z, Z, Z, Z, Z, Z, Z, Z, Z, Z, Z, Z, Z, Z, Z, Z], []⟩ ∧ St no w0 w [Box b4 (TNode.cs p3).toArray 33] ∧ K16 c15 = some r) ?_ ?_
  · skip
    refine WP.region ?_
    obtain ⟨t17, ht17, h⟩ := bd_some h
    refine WPI.run 1 ⟨#[s1, TNode.val p3, Z, vp b4 0, vn, vi 0, Z, Z, s1, Z, Z, Z, Z, Z, Z, Z, Z, Z, Z, Z, Z, Z, Z, Z, Z, Z, Z, Z, Z, Z, Z, Z], []⟩ w6 (fun K => by kernel_rfl) ?_
    refine WPI.op rfl (Op1.call (by kernel_rfl) (by kernel_rfl) (g_heap_Check_w fuel s1 l2 t17 ht17 _ (Rd.arg0 hs1 H7)) ?_)
    rintro _ w18 ⟨rfl, Hc19⟩
    have H20 := St.call0' H7 Hc19
    clear H7 Hc19
    obtain ⟨c21, hc21, h⟩ := lt_some h
    refine WPI.run 2 ⟨#[s1, TNode.val p3, Z, vp b4 0, vn, vi 0, Z, Z, s1, vi t17, vb c21, vb c21, Z, Z, Z, Z, Z, Z, Z, Z, Z, Z, Z, Z, Z, Z, Z, Z, Z, Z, Z, Z], []⟩ w18 (fun K => by subst hc21; kernel_rfl) ?_
    cases c21 with
    | false =>
      replace h := br_f h
      refine WPI.value (v := TNode.val p3) rfl (by kernel_rfl) (ev_loadBox H20 0 rfl 33 (.tmp 3) 0 (TNode.val p3) rfl (by kernel_rfl) (by kernel_rfl)) ?_
      obtain ⟨t22, ht22, h⟩ := bd_some h
      refine WPI.run 0 ⟨#[s1, TNode.val p3, Z, vp b4 0, vn, vi 0, Z, Z, s1, vi t17, vb false, vb false, TNode.val p3, Z, Z, Z, Z, Z, Z, Z, Z, Z, Z, Z, Z, Z, Z, Z, Z, Z, Z, Z], []⟩ w18 (fun K => by kernel_rfl) ?_
      refine WPI.op rfl (Op1.call (by kernel_rfl) (by kernel_rfl) (g_heap_may_w fuel p3 t22 ht22 _) ?_)
      rintro _ w23 ⟨rfl, Hc24⟩
      have H25 := St.call0' H20 Hc24
      clear H20 Hc24
      obtain ⟨c26, hc26, h⟩ := lt_some h
      refine WPI.run 2 ⟨#[s1, TNode.val p3, Z, vp b4 0, vn, vi 0, Z, Z, s1, vi t17, vb false, vb false, TNode.val p3, vb t22, vb c26, vb c26, Z, Z, Z, Z, Z, Z, Z, Z, Z, Z, Z, Z, Z, Z, Z, Z], []⟩ w23 (fun K => by subst hc26; kernel_rfl) ?_
      refine WPI.done rfl ?_
      exact ⟨c26, _, _, _, _, _, _, _, rfl, St.sel H25 [0] (by decide) rfl, h⟩
    | true =>
      replace h := br_t h
      refine WPI.run 4 ⟨#[s1, TNode.val p3, Z, vp b4 0, vn, vi 0, Z, Z, s1, vi t17, vb true, vb true, Z, Z, Z, vb true, Z, Z, Z, Z, Z, Z, Z, Z, Z, Z, Z, Z, Z, Z, Z, Z], []⟩ w18 (fun K => by kernel_rfl) ?_
      refine WPI.done rfl ?_
      exact ⟨true, _, _, _, _, _, _, _, rfl, St.sel H20 [0] (by decide) rfl, h⟩
  · rintro a w ⟨c15, g8, g9, g10, g11, g12, g13, g14, rfl, H, h⟩
    subst hK16
    obtain ⟨w27, rfl⟩ : ∃ x, x = w := ⟨_, rfl⟩
    have H28 := H; clear H
    refine then_n ?_
    cases c15 with
    | false =>
      replace h := br_f h
      refine WP.condF (by kernel_rfl) ?_
      refine WP.skip ?_
      refine then_n ?_
      refine WP.seq ?_
      refine WP.region ?_
      refine WPI.run 2 ⟨#[s1, TNode.val p3, Z, vp b4 0, vn, vi 0, Z, Z, g8, g9, g10, g11, g12, g13, g14, vb false, s1, vp b4 0, Z, Z, Z, Z, Z, Z, Z, Z, Z, Z, Z, Z, Z, Z], []⟩ w27 (fun K => by kernel_rfl) ?_
      refine WPI.value (v := vi p3.Acct) rfl (by kernel_rfl) (ev_loadBox H28 0 rfl 3 (.tmp 17) 0 (vi p3.Acct) rfl (by kernel_rfl) (by kernel_rfl)) ?_
      obtain ⟨t29, ht29, h⟩ := bd_some h
      refine WPI.run 0 ⟨#[s1, TNode.val p3, Z, vp b4 0, vn, vi 0, Z, Z, g8, g9, g10, g11, g12, g13, g14, vb false, s1, vp b4 0, vi p3.Acct, Z, Z, Z, Z, Z, Z, Z, Z, Z, Z, Z, Z, Z], []⟩ w27 (fun K => by kernel_rfl) ?_
      refine WPI.op rfl (Op1.call (by kernel_rfl) (by kernel_rfl) (g_heap_place_w fuel s1 l2 p3.Acct t29 ht29 _ (Rd.arg0 hs1 H28)) ?_)
      rintro _ w30 ⟨rfl, Hc31⟩
      have H32 := St.call0' H28 Hc31
      clear H28 Hc31
      refine WPI.run 1 ⟨#[s1, TNode.val p3, Z, vp b4 0, vn, vi 0, vi t29, Z, g8, g9, g10, g11, g12, g13, g14, vb false, s1, vp b4 0, vi p3.Acct, vi t29, Z, Z, Z, Z, Z, Z, Z, Z, Z, Z, Z, Z], []⟩ w30 (fun K => by kernel_rfl) ?_
      refine WPI.done rfl ?_
      refine then_n ?_
      refine WP.seq ?_
      refine WP.seq ?_
      refine WP.region ?_
      obtain ⟨c33, hc33, h⟩ := lt_some h
      refine WPI.run 2 ⟨#[s1, TNode.val p3, Z, vp b4 0, vn, vi 0, vi t29, Z, g8, g9, g10, g11, g12, g13, g14, vb false, s1, vp b4 0, vi p3.Acct, vi t29, vi t29, vb c33, Z, Z, Z, Z, Z, Z, Z, Z, Z, Z], []⟩ w30 (fun K => by subst hc33; kernel_rfl) ?_
      refine WPI.done rfl ?_
      refine then_n ?_
      cases c33 with
      | false =>
        replace h := br_f h
        refine WP.condF (by kernel_rfl) ?_
        refine WP.skip ?_
        refine then_n ?_
        refine WP.seq ?_
        refine WP.region ?_
        obtain ⟨t34, ht34, h⟩ := bd_some h
        refine WPI.run 1 ⟨#[s1, TNode.val p3, Z, vp b4 0, vn, vi 0, vi t29, Z, g8, g9, g10, g11, g12, g13, g14, vb false, s1, vp b4 0, vi p3.Acct, vi t29, vi t29, vb false, s1, Z, Z, Z, Z, Z, Z, Z, Z, Z], []⟩ w30 (fun K => by kernel_rfl) ?_
        refine WPI.op rfl (Op1.call (by kernel_rfl) (by kernel_rfl) (g_slices_Clone_api_Node_api_Node_w fuel s1 l2 t34 ht34 _ (Rd.arg0 hs1 H32)) ?_)
        rintro s35 w38 ⟨_, rfl, Hc39⟩
        have H40 := St.call0 H32 Hc39
        clear H32 Hc39
        have sf37 := Own.isSl (St.get H40 0 rfl)
        refine WPI.run 1 ⟨#[s1, TNode.val p3, Z, vp b4 0, vn, vi 0, vi t29, s35, g8, g9, g10, g11, g12, g13, g14, vb false, s1, vp b4 0, vi p3.Acct, vi t29, vi t29, vb false, s1, s35, Z, Z, Z, Z, Z, Z, Z, Z], []⟩ w38 (fun K => by kernel_rfl) ?_
        refine WPI.done rfl ?_
        refine then_n ?_
        refine WP.seq ?_
        refine WP.region ?_
        refine WPI.run 2 ⟨#[s1, TNode.val p3, Z, vp b4 0, vn, vi 0, vi t29, s35, g8, g9, g10, g11, g12, g13, g14, vb false, s1, vp b4 0, vi p3.Acct, vi t29, vi t29, vb false, s1, s35, s35, vi t29, Z, Z, Z, Z, Z, Z], []⟩ w38 (fun K => by kernel_rfl) ?_
        refine WPI.value (v := TNode.val p3) rfl (by kernel_rfl) (ev_loadBox H40 1 rfl 33 (.tmp 3) 0 (TNode.val p3) rfl (by kernel_rfl) (by kernel_rfl)) ?_
        obtain ⟨hg41, h⟩ := gd_some h
        refine WPI.run 0 ⟨#[s1, TNode.val p3, Z, vp b4 0, vn, vi 0, vi t29, s35, g8, g9, g10, g11, g12, g13, g14, vb false, s1, vp b4 0, vi p3.Acct, vi t29, vi t29, vb false, s1, s35, s35, vi t29, TNode.val p3, Z, Z, Z, Z, Z], []⟩ w38 (fun K => by kernel_rfl) ?_
        refine WPI.value (v := va (slAt s35 6 (Int.toNat t29))) rfl (by kernel_rfl) (ev_index sf37 22 (.tmp 24) (.tmp 25) 33 6 48 .i64 t29 rfl (by kernel_rfl) (by kernel_rfl) (by kernel_rfl) hg41) ?_
        obtain ⟨l42, hl42, h⟩ := lt_some h
        refine WPI.run 0 ⟨#[s1, TNode.val p3, Z, vp b4 0, vn, vi 0, vi t29, s35, g8, g9, g10, g11, g12, g13, g14, vb false, s1, vp b4 0, vi p3.Acct, vi t29, vi t29, vb false, s1, s35, s35, vi t29, TNode.val p3, va (slAt s35 6 (Int.toNat t29)), Z, Z, Z, Z], []⟩ w38 (fun K => by kernel_rfl) ?_
        refine WPI.op rfl (Op1.storeOwn H40 0 rfl (by kernel_rfl) 33 (.tmp 27) (.tmp 26) (Int.toNat t29) p3 true rfl (by kernel_rfl) (by kernel_rfl) (by kernel_rfl) (idx_lt hg41) (fun w43 H44 => ?_))
        rw [← hl42] at H44
        clear H40
        refine WPI.run 0 ⟨#[s1, TNode.val p3, Z, vp b4 0, vn, vi 0, vi t29, s35, g8, g9, g10, g11, g12, g13, g14, vb false, s1, vp b4 0, vi p3.Acct, vi t29, vi t29, vb false, s1, s35, s35, vi t29, TNode.val p3, va (slAt s35 6 (Int.toNat t29)), Z, Z, Z, Z], []⟩ w43 (fun K => by kernel_rfl) ?_
        refine WPI.done rfl ?_
        refine then_n ?_
        refine WP.seq ?_
        refine WP.region ?_
        obtain ⟨t45, ht45, h⟩ := bd_some h
        refine WPI.run 2 ⟨#[s1, TNode.val p3, Z, vp b4 0, vn, vi 0, vi t29, s35, g8, g9, g10, g11, g12, g13, g14, vb false, s1, vp b4 0, vi p3.Acct, vi t29, vi t29, vb false, s1, s35, s35, vi t29, TNode.val p3, va (slAt s35 6 (Int.toNat t29)), s35, vi t29, Z, Z], []⟩ w43 (fun K => by kernel_rfl) ?_
        refine WPI.op rfl (Op1.call (by kernel_rfl) (by kernel_rfl) (g_heap_settle_w fuel s35 l42 t29 t45 ht45 _ (St.get H44 0 rfl)) ?_)
        rintro _ w47 ⟨rfl, Hc48⟩
        have H49 := St.call1 H44 0 rfl Hc48
        clear H44 Hc48
        have sf46 := Own.isSl (St.get H49 0 rfl)
        refine WPI.run 0 ⟨#[s1, TNode.val p3, Z, vp b4 0, vn, vi 0, vi t29, s35, g8, g9, g10, g11, g12, g13, g14, vb false, s1, vp b4 0, vi p3.Acct, vi t29, vi t29, vb false, s1, s35, s35, vi t29, TNode.val p3, va (slAt s35 6 (Int.toNat t29)), s35, vi t29, .tuple #[], Z], []⟩ w47 (fun K => by kernel_rfl) ?_
        refine WPI.done rfl ?_
        refine then_n ?_
        refine WP.seq ?_
        refine WP.region ?_
        refine WPI.run 3 ⟨#[s1, TNode.val p3, Z, vp b4 0, s35, vi 0, vi t29, s35, g8, g9, g10, g11, g12, g13, g14, vb false, s1, vp b4 0, vi p3.Acct, vi t29, vi t29, vb false, s1, s35, s35, vi t29, TNode.val p3, va (slAt s35 6 (Int.toNat t29)), s35, vi t29, .tuple #[], s35], []⟩ w47 (fun K => by kernel_rfl) ?_
        refine WPI.done rfl ?_
        refine then_n ?_
        refine WP.ret ?_
        obtain rfl := Option.some.inj h
        exact post_r (.tuple #[s35, vi 0]) rfl (by kernel_rfl) ⟨s35, rfl, St.sel H49 [0] (by decide) rfl⟩
      | true =>
        replace h := br_t h
        refine WP.condT (by kernel_rfl) ?_
        refine WP.seq ?_
        refine WP.region ?_
        refine WPI.run 2 ⟨#[s1, TNode.val p3, Z, vp b4 0, vn, vi 3, vi t29, Z, g8, g9, g10, g11, g12, g13, g14, vb false, s1, vp b4 0, vi p3.Acct, vi t29, vi t29, vb true, Z, Z, Z, Z, Z, Z, Z, Z, Z, Z], []⟩ w30 (fun K => by kernel_rfl) ?_
        refine WPI.done rfl ?_
        refine then_n ?_
        refine WP.ret ?_
        obtain rfl := Option.some.inj h
        exact then_r (post_r (.tuple #[vn, vi 3]) rfl (by kernel_rfl) ⟨vn, rfl, St.sel (St.nil H32 fTNode 33) [0] (by decide) rfl⟩)
    | true =>
      replace h := br_t h
      refine WP.condT (by kernel_rfl) ?_
      refine WP.seq ?_
      refine WP.region ?_
      refine WPI.run 2 ⟨#[s1, TNode.val p3, Z, vp b4 0, vn, vi 1, Z, Z, g8, g9, g10, g11, g12, g13, g14, vb true, Z, Z, Z, Z, Z, Z, Z, Z, Z, Z, Z, Z, Z, Z, Z, Z], []⟩ w27 (fun K => by kernel_rfl) ?_
      refine WPI.done rfl ?_
      refine then_n ?_
      refine WP.ret ?_
      obtain rfl := Option.some.inj h
      exact then_r (post_r (.tuple #[vn, vi 1]) rfl (by kernel_rfl) ⟨vn, rfl, St.sel (St.nil H28 fTNode 33) [0] (by decide) rfl⟩)
end Go.Proofs
