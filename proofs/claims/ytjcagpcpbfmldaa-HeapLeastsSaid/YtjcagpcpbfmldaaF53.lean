import Derived.Test.YtjcagpcpbfmldaaGw
import Derived.Test.YtjcagpcpbfmldaaProg
import Derived.Test.YtjcagpcpbfmldaaT
import Derived.Test.YtjcagpcpbfmldaaF55
import Derived.Test.YtjcagpcpbfmldaaF52
set_option linter.unusedVariables false
set_option linter.unusedSimpArgs false
set_option maxRecDepth 100000
set_option maxHeartbeats 4000000
namespace Go.Proofs
open Gw Go.RowKit
/- tarn/tarnref12.moves -/
def g_tarnref12_moves (fuel : Nat) (l2 : List TNode) (p4 : Int) : Option (List TNode) :=
  jn (fun (l6 : List TNode) (c17 : Bool) => br c17 (bd (g_tarnref12_sinks fuel l6 p4) fun t29 => some t29) (some l6)) fun K18 => lt (decide (p4 < (((List.length l2 : Nat) : Int)))) fun c19 => br c19 (bd (g_tarnref12_rises fuel l2 p4) fun t20 => lt (t20.2 == p4) fun c25 => K18 t20.1 c25) (K18 l2 false)
theorem g_tarnref12_moves_w (fuel : Nat) (s1 : Value) (l2 : List TNode) (p4 : Int) (r : List TNode) (h : g_tarnref12_moves fuel l2 p4 = some r) (w0 : World) (hm : (Own fTNode 33 s1 l2).holds w0) :
    Ret Try.prog 53 #[s1, vi p4] w0 (fun v w' => v = .tuple #[] ∧ St (Own fTNode 33 s1 l2).fp w0 w' [Own fTNode 33 s1 r]) := by
  unfold g_tarnref12_moves at h
  refine ret_of_wp Try.func53 rfl #[s1, vi p4, Z, Z, Z, Z, Z, Z, Z, Z, Z, Z, Z, Z, Z, Z, Z, Z] (by kernel_rfl) ?_
  have H0 := St.start1 hm
  have sf5 := Own.isSl (St.get H0 0 rfl)
  refine WP.seq ?_
  obtain ⟨K18, hK18, h⟩ := jn_some h
  refine WP.onlyN (fun a w => ∃ (l6 : List TNode) (c17 : Bool) (g7 g8 g9 g10 g11 g12 g13 g14 g15 g16 : Value), a = ⟨#[s1, vi p4, Z, Z, g7, g8, g9, g10, g11, g12, g13, g14, g15, g16, vb c17, Z, Z, Z], []⟩ ∧ St (Own fTNode 33 s1 l2).fp w0 w [Own fTNode 33 s1 l6] ∧ K18 l6 c17 = some r) ?_ ?_
  · skip
    refine WP.region ?_
    refine WPI.run 2 ⟨#[s1, vi p4, Z, Z, vi p4, s1, Z, Z, Z, Z, Z, Z, Z, Z, Z, Z, Z, Z], []⟩ w0 (fun K => by kernel_rfl) ?_
    refine WPI.value (v := vi (((List.length l2 : Nat) : Int))) rfl (by kernel_rfl) (ev_len sf5 22 (.tmp 5) 33 6 48 rfl (by kernel_rfl) (by kernel_rfl)) ?_
    obtain ⟨c19, hc19, h⟩ := lt_some h
    refine WPI.run 2 ⟨#[s1, vi p4, Z, Z, vi p4, s1, vi (((List.length l2 : Nat) : Int)), vb c19, vb c19, Z, Z, Z, Z, Z, Z, Z, Z, Z], []⟩ w0 (fun K => by subst hc19; kernel_rfl) ?_
    cases c19 with
    | false =>
      replace h := br_f h
      refine WPI.run 6 ⟨#[s1, vi p4, Z, Z, vi p4, s1, vi (((List.length l2 : Nat) : Int)), vb false, vb false, Z, Z, Z, Z, Z, vb false, Z, Z, Z], []⟩ w0 (fun K => by kernel_rfl) ?_
      refine WPI.done rfl ?_
      exact ⟨l2, false, _, _, _, _, _, _, _, _, _, _, rfl, St.sel H0 [0] (by decide) rfl, h⟩
    | true =>
      replace h := br_t h
      obtain ⟨t20, ht20, h⟩ := bd_some h
      refine WPI.run 2 ⟨#[s1, vi p4, Z, Z, vi p4, s1, vi (((List.length l2 : Nat) : Int)), vb true, vb true, s1, vi p4, Z, Z, Z, Z, Z, Z, Z], []⟩ w0 (fun K => by kernel_rfl) ?_
      refine WPI.op rfl (Op1.call (by kernel_rfl) (by kernel_rfl) (g_tarnref12_rises_w fuel s1 l2 p4 t20 ht20 _ (St.get H0 0 rfl)) ?_)
      rintro _ w22 ⟨rfl, Hc23⟩
      have H24 := St.call1 H0 0 rfl Hc23
      clear Hc23
      have sf21 := Own.isSl (St.get H24 0 rfl)
      obtain ⟨c25, hc25, h⟩ := lt_some h
      refine WPI.run 3 ⟨#[s1, vi p4, Z, Z, vi p4, s1, vi (((List.length l2 : Nat) : Int)), vb true, vb true, s1, vi p4, vi t20.2, vi p4, vb c25, vb c25, Z, Z, Z], []⟩ w22 (fun K => by subst hc25; kernel_rfl) ?_
      refine WPI.done rfl ?_
      exact ⟨t20.1, c25, _, _, _, _, _, _, _, _, _, _, rfl, St.sel H24 [0] (by decide) rfl, h⟩
  · rintro a w ⟨l6, c17, g7, g8, g9, g10, g11, g12, g13, g14, g15, g16, rfl, H, h⟩
    subst hK18
    obtain ⟨w26, rfl⟩ : ∃ x, x = w := ⟨_, rfl⟩
    have H27 := H; clear H
    have sf28 := Own.isSl (St.get H27 0 rfl)
    refine then_n ?_
    cases c17 with
    | false =>
      replace h := br_f h
      refine WP.condF (by kernel_rfl) ?_
      refine WP.skip ?_
      obtain rfl := Option.some.inj h
      exact post_n (.tuple #[]) rfl (by kernel_rfl) ⟨rfl, St.sel H27 [0] (by decide) rfl⟩
    | true =>
      replace h := br_t h
      refine WP.condT (by kernel_rfl) ?_
      refine WP.region ?_
      obtain ⟨t29, ht29, h⟩ := bd_some h
      refine WPI.run 2 ⟨#[s1, vi p4, Z, Z, g7, g8, g9, g10, g11, g12, g13, g14, g15, g16, vb true, s1, vi p4, Z], []⟩ w26 (fun K => by kernel_rfl) ?_
      refine WPI.op rfl (Op1.call (by kernel_rfl) (by kernel_rfl) (g_tarnref12_sinks_w fuel s1 l6 p4 t29 ht29 _ (St.get H27 0 rfl)) ?_)
      rintro _ w31 ⟨rfl, Hc32⟩
      have H33 := St.call1 H27 0 rfl Hc32
      clear H27 Hc32
      have sf30 := Own.isSl (St.get H33 0 rfl)
      refine WPI.run 0 ⟨#[s1, vi p4, Z, Z, g7, g8, g9, g10, g11, g12, g13, g14, g15, g16, vb true, s1, vi p4, .tuple #[]], []⟩ w31 (fun K => by kernel_rfl) ?_
      refine WPI.done rfl ?_
      obtain rfl := Option.some.inj h
      exact post_n (.tuple #[]) rfl (by kernel_rfl) ⟨rfl, St.sel H33 [0] (by decide) rfl⟩
end Go.Proofs
