import Derived.Test.YtjcagpcpbfmldaaGw
import Derived.Test.YtjcagpcpbfmldaaProg
import Derived.Test.YtjcagpcpbfmldaaT
import Derived.Test.YtjcagpcpbfmldaaF34
import Derived.Test.YtjcagpcpbfmldaaF46
set_option linter.unusedVariables false
set_option linter.unusedSimpArgs false
set_option maxRecDepth 100000
set_option maxHeartbeats 4000000
namespace Go.Proofs
open Gw Go.RowKit
/- tarn/heap.settle -/
def g_heap_settle (fuel : Nat) (l2 : List TNode) (p4 : Int) : Option (List TNode) :=
  bd (g_heap_rise fuel l2 p4) fun t6 => lt (t6.2 == p4) fun c11 => br c11 (bd (g_heap_sink fuel t6.1 p4) fun t12 => some t12) (some t6.1)
theorem g_heap_settle_w (fuel : Nat) (s1 : Value) (l2 : List TNode) (p4 : Int) (r : List TNode) (h : g_heap_settle fuel l2 p4 = some r) (w0 : World) (hm : (Own fTNode 33 s1 l2).holds w0) :
    Ret Try.prog 32 #[s1, vi p4] w0 (fun v w' => v = .tuple #[] ∧ St (Own fTNode 33 s1 l2).fp w0 w' [Own fTNode 33 s1 r]) := by
  unfold g_heap_settle at h
  refine ret_of_wp Try.func32 rfl #[s1, vi p4, Z, Z, Z, Z, Z, Z, Z, Z, Z, Z] (by kernel_rfl) ?_
  have H0 := St.start1 hm
  have sf5 := Own.isSl (St.get H0 0 rfl)
  refine WP.seq ?_
  refine WP.region ?_
  obtain ⟨t6, ht6, h⟩ := bd_some h
  refine WPI.run 2 ⟨#[s1, vi p4, Z, Z, s1, vi p4, Z, Z, Z, Z, Z, Z], []⟩ w0 (fun K => by kernel_rfl) ?_
  refine WPI.op rfl (Op1.call (by kernel_rfl) (by kernel_rfl) (g_heap_rise_w fuel s1 l2 p4 t6 ht6 _ (St.get H0 0 rfl)) ?_)
  rintro _ w8 ⟨rfl, Hc9⟩
  have H10 := St.call1 H0 0 rfl Hc9
  clear Hc9
  have sf7 := Own.isSl (St.get H10 0 rfl)
  obtain ⟨c11, hc11, h⟩ := lt_some h
  refine WPI.run 2 ⟨#[s1, vi p4, Z, Z, s1, vi p4, vi t6.2, vi p4, vb c11, Z, Z, Z], []⟩ w8 (fun K => by subst hc11; kernel_rfl) ?_
  refine WPI.done rfl ?_
  refine then_n ?_
  cases c11 with
  | false =>
    replace h := br_f h
    refine WP.condF (by kernel_rfl) ?_
    refine WP.skip ?_
    obtain rfl := Option.some.inj h
    exact post_n (.tuple #[]) rfl (by kernel_rfl) ⟨rfl, St.sel H10 [0] (by decide) rfl⟩
  | true =>
    replace h := br_t h
    refine WP.condT (by kernel_rfl) ?_
    refine WP.region ?_
    obtain ⟨t12, ht12, h⟩ := bd_some h
    refine WPI.run 2 ⟨#[s1, vi p4, Z, Z, s1, vi p4, vi t6.2, vi p4, vb true, s1, vi p4, Z], []⟩ w8 (fun K => by kernel_rfl) ?_
    refine WPI.op rfl (Op1.call (by kernel_rfl) (by kernel_rfl) (g_heap_sink_w fuel s1 t6.1 p4 t12 ht12 _ (St.get H10 0 rfl)) ?_)
    rintro _ w14 ⟨rfl, Hc15⟩
    have H16 := St.call1 H10 0 rfl Hc15
    clear H10 Hc15
    have sf13 := Own.isSl (St.get H16 0 rfl)
    refine WPI.run 0 ⟨#[s1, vi p4, Z, Z, s1, vi p4, vi t6.2, vi p4, vb true, s1, vi p4, .tuple #[]], []⟩ w14 (fun K => by kernel_rfl) ?_
    refine WPI.done rfl ?_
    obtain rfl := Option.some.inj h
    exact post_n (.tuple #[]) rfl (by kernel_rfl) ⟨rfl, St.sel H16 [0] (by decide) rfl⟩
end Go.Proofs
