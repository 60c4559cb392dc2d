import Derived.Test.YtjcagpcpbfmldaaGw
import Derived.Test.YtjcagpcpbfmldaaProg
import Derived.Test.YtjcagpcpbfmldaaT
import Derived.Test.YtjcagpcpbfmldaaF30
import Derived.Test.YtjcagpcpbfmldaaF34
import Derived.Test.YtjcagpcpbfmldaaF31
import Derived.Test.YtjcagpcpbfmldaaF26
import Derived.Test.YtjcagpcpbfmldaaF33
set_option linter.unusedVariables false
set_option linter.unusedSimpArgs false
set_option maxRecDepth 100000
set_option maxHeartbeats 4000000
namespace Go.Proofs
open Gw Go.RowKit
/- tarn/heap.Push -/
def g_heap_Push (fuel : Nat) (l2 : List TNode) (p3 : TNode) : Option ((List TNode) × Int) :=
  jn (fun (c8 : Bool) => br c8 (some ([], 1)) (bd (g_heap_place fuel l2 p3.Acct) fun t30 => lt (decide (t30 ≥ 0)) fun c34 => br c34 (some ([], 4)) (jn (fun (l36 : List TNode) => lt (wr .i64 ((((List.length l36 : Nat) : Int)) - 1)) fun x80 => bd (g_heap_rise fuel l36 x80) fun t81 => some (t81.1, 0)) fun K43 => bd (g_slices_Clone_api_Node_api_Node fuel l2) fun t45 => gd ((List.length t45 + List.length (([p3] : List TNode))) * 48 ≤ 140737488355328) <| lt (t45 ++ (([p3] : List TNode))) fun l53 => K43 l53))) fun K17 => bd (g_heap_Check fuel l2) fun t18 => lt (t18 != 0) fun c22 => br c22 (K17 true) (bd (g_heap_may fuel p3) fun t23 => lt (!t23) fun c27 => K17 c27)
theorem g_heap_Push_w (fuel : Nat) (s1 : Value) (l2 : List TNode) (p3 : TNode) (r : (List TNode) × Int) (h : g_heap_Push fuel l2 p3 = some r) (w0 : World) (hs1 : Rd fTNode (hp no w0) s1 l2) :
    Ret Try.prog 21 #[s1, TNode.val p3] w0 (fun v w' => ∃ q0 : Value, v = .tuple #[q0, vi r.2] ∧ St no w0 w' [Own fTNode 33 q0 r.1]) := by
  unfold g_heap_Push at h
  refine ret_of_wp Try.func21 rfl #[s1, TNode.val p3, Z, Z, Z, Z, Z, Z, Z, Z, Z, Z, Z, Z, Z, Z, Z, Z, Z, Z, Z, Z, Z, Z, Z, Z, Z, Z, Z, Z, Z, Z, Z] (by kernel_rfl) ?_
  have H0 := St.start w0
  refine WP.seq ?_
  refine WP.region ?_
  refine WPI.op rfl (Op1.box H0 (TNode.cs p3).toArray (by kernel_rfl) 33 (.tmp 1) rfl (by kernel_rfl) (fun b4 w6 H7 => ?_))
  refine WPI.run 2 ⟨#[s1, TNode.val p3, Z, vp b4 0, vn, vi 0, Z, Z, Z, Z, Z, Z, Z, Z, Z, Z, Z, Z, Z, Z, Z, Z, Z, Z, Z, Z, Z, Z, Z, Z, Z, Z, Z], []⟩ w6 (fun K => by kernel_rfl) ?_
  refine WPI.done rfl ?_
  refine then_n ?_
  refine WP.seq ?_
  refine WP.block ?_
  refine WP.seq ?_
  obtain ⟨K17, hK17, h⟩ := jn_some h
  refine WP.onlyN (fun a w => ∃ (c8 : Bool) (g9 g10 g11 g12 g13 g14 g15 g16 : Value), a = ⟨#[s1, TNode.val p3, Z, vp b4 0, vn, vi 0, Z, vb c8, g9, g10, g11, g12, g13, g14, g15, g16, Z, Z, Z, Z, Z, Z, Z, Z, Z, Z, Z, Z, Z, Z, Z, Z, Z], []⟩ ∧ St no w0 w [Box b4 (TNode.cs p3).toArray 33] ∧ K17 c8 = some r) ?_ ?_
  · skip
    refine WP.region ?_
    obtain ⟨t18, ht18, h⟩ := bd_some h
    refine WPI.run 1 ⟨#[s1, TNode.val p3, Z, vp b4 0, vn, vi 0, Z, Z, s1, Z, Z, Z, Z, Z, Z, Z, Z, Z, Z, Z, Z, Z, Z, Z, Z, Z, Z, Z, Z, Z, Z, Z, Z], []⟩ w6 (fun K => by kernel_rfl) ?_
    refine WPI.op rfl (Op1.call (by kernel_rfl) (by kernel_rfl) (g_heap_Check_w fuel s1 l2 t18 ht18 _ (Rd.arg0 hs1 H7)) ?_)
    rintro _ w19 ⟨rfl, Hc20⟩
    have H21 := St.call0' H7 Hc20
    clear H7 Hc20
    obtain ⟨c22, hc22, h⟩ := lt_some h
    refine WPI.run 2 ⟨#[s1, TNode.val p3, Z, vp b4 0, vn, vi 0, Z, Z, s1, vi t18, vb c22, vb c22, Z, Z, Z, Z, Z, Z, Z, Z, Z, Z, Z, Z, Z, Z, Z, Z, Z, Z, Z, Z, Z], []⟩ w19 (fun K => by subst hc22; kernel_rfl) ?_
    cases c22 with
    | false =>
      replace h := br_f h
      refine WPI.value (v := TNode.val p3) rfl (by kernel_rfl) (ev_loadBox H21 0 rfl 33 (.tmp 3) 0 (TNode.val p3) rfl (by kernel_rfl) (by kernel_rfl)) ?_
      obtain ⟨t23, ht23, h⟩ := bd_some h
      refine WPI.run 0 ⟨#[s1, TNode.val p3, Z, vp b4 0, vn, vi 0, Z, Z, s1, vi t18, vb false, vb false, TNode.val p3, Z, Z, Z, Z, Z, Z, Z, Z, Z, Z, Z, Z, Z, Z, Z, Z, Z, Z, Z, Z], []⟩ w19 (fun K => by kernel_rfl) ?_
      refine WPI.op rfl (Op1.call (by kernel_rfl) (by kernel_rfl) (g_heap_may_w fuel p3 t23 ht23 _) ?_)
      rintro _ w24 ⟨rfl, Hc25⟩
      have H26 := St.call0' H21 Hc25
      clear H21 Hc25
      obtain ⟨c27, hc27, h⟩ := lt_some h
      refine WPI.run 3 ⟨#[s1, TNode.val p3, Z, vp b4 0, vn, vi 0, Z, vb c27, s1, vi t18, vb false, vb false, TNode.val p3, vb t23, vb c27, vb c27, Z, Z, Z, Z, Z, Z, Z, Z, Z, Z, Z, Z, Z, Z, Z, Z, Z], []⟩ w24 (fun K => by subst hc27; kernel_rfl) ?_
      refine WPI.done rfl ?_
      exact ⟨c27, _, _, _, _, _, _, _, _, rfl, St.sel H26 [0] (by decide) rfl, h⟩
    | true =>
      replace h := br_t h
      refine WPI.run 5 ⟨#[s1, TNode.val p3, Z, vp b4 0, vn, vi 0, Z, vb true, s1, vi t18, vb true, vb true, Z, Z, Z, vb true, Z, Z, Z, Z, Z, Z, Z, Z, Z, Z, Z, Z, Z, Z, Z, Z, Z], []⟩ w19 (fun K => by kernel_rfl) ?_
      refine WPI.done rfl ?_
      exact ⟨true, _, _, _, _, _, _, _, _, rfl, St.sel H21 [0] (by decide) rfl, h⟩
  · rintro a w ⟨c8, g9, g10, g11, g12, g13, g14, g15, g16, rfl, H, h⟩
    subst hK17
    obtain ⟨w28, rfl⟩ : ∃ x, x = w := ⟨_, rfl⟩
    have H29 := H; clear H
    refine then_n ?_
    cases c8 with
    | false =>
      replace h := br_f h
      refine WP.condF (by kernel_rfl) ?_
      refine WP.seq ?_
      refine WP.region ?_
      refine WPI.run 2 ⟨#[s1, TNode.val p3, Z, vp b4 0, vn, vi 0, Z, vb false, g9, g10, g11, g12, g13, g14, g15, g16, Z, s1, vp b4 0, Z, Z, Z, Z, Z, Z, Z, Z, Z, Z, Z, Z, Z, Z], []⟩ w28 (fun K => by kernel_rfl) ?_
      refine WPI.value (v := vi p3.Acct) rfl (by kernel_rfl) (ev_loadBox H29 0 rfl 3 (.tmp 18) 0 (vi p3.Acct) rfl (by kernel_rfl) (by kernel_rfl)) ?_
      obtain ⟨t30, ht30, h⟩ := bd_some h
      refine WPI.run 0 ⟨#[s1, TNode.val p3, Z, vp b4 0, vn, vi 0, Z, vb false, g9, g10, g11, g12, g13, g14, g15, g16, Z, s1, vp b4 0, vi p3.Acct, Z, Z, Z, Z, Z, Z, Z, Z, Z, Z, Z, Z, Z], []⟩ w28 (fun K => by kernel_rfl) ?_
      refine WPI.op rfl (Op1.call (by kernel_rfl) (by kernel_rfl) (g_heap_place_w fuel s1 l2 p3.Acct t30 ht30 _ (Rd.arg0 hs1 H29)) ?_)
      rintro _ w31 ⟨rfl, Hc32⟩
      have H33 := St.call0' H29 Hc32
      clear H29 Hc32
      obtain ⟨c34, hc34, h⟩ := lt_some h
      refine WPI.run 2 ⟨#[s1, TNode.val p3, Z, vp b4 0, vn, vi 0, Z, vb false, g9, g10, g11, g12, g13, g14, g15, g16, vb c34, s1, vp b4 0, vi p3.Acct, vi t30, vb c34, Z, Z, Z, Z, Z, Z, Z, Z, Z, Z, Z], []⟩ w31 (fun K => by subst hc34; kernel_rfl) ?_
      refine WPI.done rfl ?_
      refine then_n ?_
      cases c34 with
      | false =>
        replace h := br_f h
        refine WP.condF (by kernel_rfl) ?_
        refine WP.skip ?_
        refine inb_n (then_n ?_)
        refine WP.seq ?_
        obtain ⟨K43, hK43, h⟩ := jn_some h
        refine WP.draw (by kernel_rfl) (by kernel_rfl) (fun a w => ∃ (l36 : List TNode) (s37 g38 g39 g40 g41 g42 : Value), a = ⟨#[s1, TNode.val p3, Z, vp b4 0, vn, vi 0, s37, vb false, g9, g10, g11, g12, g13, g14, g15, g16, vb false, s1, vp b4 0, vi p3.Acct, vi t30, vb false, g38, g39, g40, g41, g42, Z, Z, Z, Z, Z, Z], []⟩ ∧ St no w0 w [Box b4 (TNode.cs p3).toArray 33, Own fTNode 33 s37 l36] ∧ K43 l36 = some r) 6 #[false, false, false, false, false, false] (by kernel_rfl) (by kernel_rfl) ?_ ?_
        · skip
          have H44 := St.drew H33
          obtain ⟨t45, ht45, h⟩ := bd_some h
          obtain ⟨hg52, h⟩ := gd_some h
          obtain ⟨l53, hl53, h⟩ := lt_some h
          refine WA.take 0 (v := s1) rfl (by kernel_rfl) (by kernel_rfl) (fun w => by kernel_rfl) (fun w => by kernel_rfl) (l' := #[true, false, false, false, false, false]) (by kernel_rfl) ?_
          refine WA.any [1, 2] (by kernel_rfl) (by simp) ?_
          simp only [List.mem_cons, List.not_mem_nil, or_false, forall_eq_or_imp, forall_eq]
          refine ⟨?_, ?_⟩
          · skip
            refine WO.op rfl (Op1.call (by kernel_rfl) (by kernel_rfl) (g_slices_Clone_api_Node_api_Node_w fuel s1 l2 t45 ht45 _ (Rd.arg0 hs1 H44)) ?_)
            rintro s46 w56 ⟨_, rfl, Hc57⟩
            have H58 := St.call0 H44 Hc57
            clear H44 Hc57
            have sf48 := Own.isSl (St.get H58 0 rfl)
            refine WA.lst (l := #[true, true, false, false, false, false]) (by kernel_rfl) ?_
            refine WA.any [2] (by kernel_rfl) (by simp) ?_
            simp only [List.mem_singleton, forall_eq]
            refine WO.op rfl (Op1.val (v := TNode.val p3) (by kernel_rfl) (ev_loadBox H58 1 rfl 33 (.tmp 3) 0 (TNode.val p3) rfl (by kernel_rfl) (by kernel_rfl)) ?_)
            refine WA.lst (l := #[true, true, true, false, false, false]) (by kernel_rfl) ?_
            refine WA.any [3] (by kernel_rfl) (by simp) ?_
            simp only [List.mem_singleton, forall_eq]
            refine WO.op rfl (Op1.lit (F := fTNode) (E := 33) H58 (by kernel_rfl) ([p3] : List TNode) (fun w => by kernel_rfl) (by simp [maxLen]) (fun s50 w59 H60 => ?_))
            clear H58
            have sf51 := Own.isSl (St.get H60 0 rfl)
            refine WA.lst (l := #[true, true, true, true, false, false]) (by kernel_rfl) ?_
            refine WA.any [4] (by kernel_rfl) (by simp) ?_
            simp only [List.mem_singleton, forall_eq]
            refine WO.op rfl (Op1.append (F := fTNode) H60 1 rfl (by kernel_rfl) 22 (.tmp 23) (.tmp 25) 48 rfl (by kernel_rfl) (by kernel_rfl) s50 (([p3] : List TNode)) (St.rd H60 0 rfl) (hp_no_le _) (by kernel_rfl) (app_len hg52 (by decide)) (fun s54 w61 H62 => ?_))
            rw [← hl53] at H62
            clear H60
            have sf55 := Own.isSl (St.get H62 0 rfl)
            refine WA.lst (l := #[true, true, true, true, true, false]) (by kernel_rfl) ?_
            refine WA.take 5 (v := s54) rfl (by kernel_rfl) (by kernel_rfl) (fun w => by kernel_rfl) (fun w => by kernel_rfl) (l' := #[true, true, true, true, true, true]) (by kernel_rfl) ?_
            refine WA.done (by kernel_rfl) ?_
            exact ⟨l53, s54, s1, s46, (TNode.val p3), s50, s54, (by kernel_rfl), St.sel H62 [2, 0] (by decide) rfl, h⟩
          · skip
            refine WO.op rfl (Op1.val (v := TNode.val p3) (by kernel_rfl) (ev_loadBox H44 0 rfl 33 (.tmp 3) 0 (TNode.val p3) rfl (by kernel_rfl) (by kernel_rfl)) ?_)
            refine WA.lst (l := #[true, false, true, false, false, false]) (by kernel_rfl) ?_
            refine WA.any [1, 3] (by kernel_rfl) (by simp) ?_
            simp only [List.mem_cons, List.not_mem_nil, or_false, forall_eq_or_imp, forall_eq]
            refine ⟨?_, ?_⟩
            · skip
              refine WO.op rfl (Op1.call (by kernel_rfl) (by kernel_rfl) (g_slices_Clone_api_Node_api_Node_w fuel s1 l2 t45 ht45 _ (Rd.arg0 hs1 H44)) ?_)
              rintro s46 w63 ⟨_, rfl, Hc64⟩
              have H65 := St.call0 H44 Hc64
              clear H44 Hc64
              have sf48 := Own.isSl (St.get H65 0 rfl)
              refine WA.lst (l := #[true, true, true, false, false, false]) (by kernel_rfl) ?_
              refine WA.any [3] (by kernel_rfl) (by simp) ?_
              simp only [List.mem_singleton, forall_eq]
              refine WO.op rfl (Op1.lit (F := fTNode) (E := 33) H65 (by kernel_rfl) ([p3] : List TNode) (fun w => by kernel_rfl) (by simp [maxLen]) (fun s50 w66 H67 => ?_))
              clear H65
              have sf51 := Own.isSl (St.get H67 0 rfl)
              refine WA.lst (l := #[true, true, true, true, false, false]) (by kernel_rfl) ?_
              refine WA.any [4] (by kernel_rfl) (by simp) ?_
              simp only [List.mem_singleton, forall_eq]
              refine WO.op rfl (Op1.append (F := fTNode) H67 1 rfl (by kernel_rfl) 22 (.tmp 23) (.tmp 25) 48 rfl (by kernel_rfl) (by kernel_rfl) s50 (([p3] : List TNode)) (St.rd H67 0 rfl) (hp_no_le _) (by kernel_rfl) (app_len hg52 (by decide)) (fun s54 w68 H69 => ?_))
              rw [← hl53] at H69
              clear H67
              have sf55 := Own.isSl (St.get H69 0 rfl)
              refine WA.lst (l := #[true, true, true, true, true, false]) (by kernel_rfl) ?_
              refine WA.take 5 (v := s54) rfl (by kernel_rfl) (by kernel_rfl) (fun w => by kernel_rfl) (fun w => by kernel_rfl) (l' := #[true, true, true, true, true, true]) (by kernel_rfl) ?_
              refine WA.done (by kernel_rfl) ?_
              exact ⟨l53, s54, s1, s46, (TNode.val p3), s50, s54, (by kernel_rfl), St.sel H69 [2, 0] (by decide) rfl, h⟩
            · skip
              refine WO.op rfl (Op1.lit (F := fTNode) (E := 33) H44 (by kernel_rfl) ([p3] : List TNode) (fun w => by kernel_rfl) (by simp [maxLen]) (fun s50 w70 H71 => ?_))
              clear H44
              have sf51 := Own.isSl (St.get H71 0 rfl)
              refine WA.lst (l := #[true, false, true, true, false, false]) (by kernel_rfl) ?_
              refine WA.any [1] (by kernel_rfl) (by simp) ?_
              simp only [List.mem_singleton, forall_eq]
              refine WO.op rfl (Op1.call (by kernel_rfl) (by kernel_rfl) (g_slices_Clone_api_Node_api_Node_w fuel s1 l2 t45 ht45 _ (Rd.arg0 hs1 H71)) ?_)
              rintro s46 w72 ⟨_, rfl, Hc73⟩
              have H74 := St.call0 H71 Hc73
              clear H71 Hc73
              have sf48 := Own.isSl (St.get H74 0 rfl)
              refine WA.lst (l := #[true, true, true, true, false, false]) (by kernel_rfl) ?_
              refine WA.any [4] (by kernel_rfl) (by simp) ?_
              simp only [List.mem_singleton, forall_eq]
              refine WO.op rfl (Op1.append (F := fTNode) H74 0 rfl (by kernel_rfl) 22 (.tmp 23) (.tmp 25) 48 rfl (by kernel_rfl) (by kernel_rfl) s50 (([p3] : List TNode)) (St.rd H74 1 rfl) (hp_no_le _) (by kernel_rfl) (app_len hg52 (by decide)) (fun s54 w75 H76 => ?_))
              rw [← hl53] at H76
              clear H74
              have sf55 := Own.isSl (St.get H76 0 rfl)
              refine WA.lst (l := #[true, true, true, true, true, false]) (by kernel_rfl) ?_
              refine WA.take 5 (v := s54) rfl (by kernel_rfl) (by kernel_rfl) (fun w => by kernel_rfl) (fun w => by kernel_rfl) (l' := #[true, true, true, true, true, true]) (by kernel_rfl) ?_
              refine WA.done (by kernel_rfl) ?_
              exact ⟨l53, s54, s1, s46, (TNode.val p3), s50, s54, (by kernel_rfl), St.sel H76 [2, 0] (by decide) rfl, h⟩
        · rintro a w ⟨l36, s37, g38, g39, g40, g41, g42, rfl, H, h⟩
          subst hK43
          obtain ⟨w77, rfl⟩ : ∃ x, x = w := ⟨_, rfl⟩
          have H78 := H; clear H
          have sf79 := Own.isSl (St.get H78 1 rfl)
          refine then_n ?_
          refine WP.seq ?_
          refine WP.region ?_
          refine WPI.run 2 ⟨#[s1, TNode.val p3, Z, vp b4 0, vn, vi 0, s37, vb false, g9, g10, g11, g12, g13, g14, g15, g16, vb false, s1, vp b4 0, vi p3.Acct, vi t30, vb false, g38, g39, g40, g41, g42, s37, s37, Z, Z, Z, Z], []⟩ w77 (fun K => by kernel_rfl) ?_
          refine WPI.value (v := vi (((List.length l36 : Nat) : Int))) rfl (by kernel_rfl) (ev_len sf79 22 (.tmp 28) 33 6 48 rfl (by kernel_rfl) (by kernel_rfl)) ?_
          obtain ⟨x80, hx80, h⟩ := lt_some h
          obtain ⟨t81, ht81, h⟩ := bd_some h
          refine WPI.run 1 ⟨#[s1, TNode.val p3, Z, vp b4 0, vn, vi 0, s37, vb false, g9, g10, g11, g12, g13, g14, g15, g16, vb false, s1, vp b4 0, vi p3.Acct, vi t30, vb false, g38, g39, g40, g41, g42, s37, s37, vi (((List.length l36 : Nat) : Int)), vi x80, Z, Z], []⟩ w77 (fun K => by subst hx80; kernel_rfl) ?_
          refine WPI.op rfl (Op1.call (by kernel_rfl) (by kernel_rfl) (g_heap_rise_w fuel s37 l36 x80 t81 ht81 _ (St.get H78 1 rfl)) ?_)
          rintro _ w83 ⟨rfl, Hc84⟩
          have H85 := St.call1 H78 1 rfl Hc84
          clear H78 Hc84
          have sf82 := Own.isSl (St.get H85 0 rfl)
          refine WPI.run 0 ⟨#[s1, TNode.val p3, Z, vp b4 0, vn, vi 0, s37, vb false, g9, g10, g11, g12, g13, g14, g15, g16, vb false, s1, vp b4 0, vi p3.Acct, vi t30, vb false, g38, g39, g40, g41, g42, s37, s37, vi (((List.length l36 : Nat) : Int)), vi x80, vi t81.2, Z], []⟩ w83 (fun K => by kernel_rfl) ?_
          refine WPI.done rfl ?_
          refine then_n ?_
          refine WP.seq ?_
          refine WP.region ?_
          refine WPI.run 3 ⟨#[s1, TNode.val p3, Z, vp b4 0, s37, vi 0, s37, vb false, g9, g10, g11, g12, g13, g14, g15, g16, vb false, s1, vp b4 0, vi p3.Acct, vi t30, vb false, g38, g39, g40, g41, g42, s37, s37, vi (((List.length l36 : Nat) : Int)), vi x80, vi t81.2, s37], []⟩ w83 (fun K => by kernel_rfl) ?_
          refine WPI.done rfl ?_
          refine then_n ?_
          refine WP.ret ?_
          obtain rfl := Option.some.inj h
          exact post_r (.tuple #[s37, vi 0]) rfl (by kernel_rfl) ⟨s37, rfl, St.sel H85 [0] (by decide) rfl⟩
      | true =>
        replace h := br_t h
        refine WP.condT (by kernel_rfl) ?_
        refine WP.seq ?_
        refine WP.region ?_
        refine WPI.run 2 ⟨#[s1, TNode.val p3, Z, vp b4 0, vn, vi 4, Z, vb false, g9, g10, g11, g12, g13, g14, g15, g16, vb true, s1, vp b4 0, vi p3.Acct, vi t30, vb true, Z, Z, Z, Z, Z, Z, Z, Z, Z, Z, Z], []⟩ w31 (fun K => by kernel_rfl) ?_
        refine WPI.done rfl ?_
        refine then_n ?_
        refine WP.ret ?_
        obtain rfl := Option.some.inj h
        exact inb_r (then_r (post_r (.tuple #[vn, vi 4]) rfl (by kernel_rfl) ⟨vn, rfl, St.sel (St.nil H33 fTNode 33) [0] (by decide) rfl⟩))
    | true =>
      replace h := br_t h
      refine WP.condT (by kernel_rfl) ?_
      refine WP.seq ?_
      refine WP.region ?_
      refine WPI.run 2 ⟨#[s1, TNode.val p3, Z, vp b4 0, vn, vi 1, Z, vb true, g9, g10, g11, g12, g13, g14, g15, g16, Z, Z, Z, Z, Z, Z, Z, Z, Z, Z, Z, Z, Z, Z, Z, Z, Z], []⟩ w28 (fun K => by kernel_rfl) ?_
      refine WPI.done rfl ?_
      refine then_n ?_
      refine WP.ret ?_
      obtain rfl := Option.some.inj h
      exact inb_r (then_r (post_r (.tuple #[vn, vi 1]) rfl (by kernel_rfl) ⟨vn, rfl, St.sel (St.nil H29 fTNode 33) [0] (by decide) rfl⟩))
end Go.Proofs
