import Derived.Test.YtjcagpcpbfmldaaGw
import Derived.Test.YtjcagpcpbfmldaaProg
import Derived.Test.YtjcagpcpbfmldaaT
set_option linter.unusedVariables false
set_option linter.unusedSimpArgs false
set_option maxRecDepth 100000
set_option maxHeartbeats 4000000
namespace Go.Proofs
open Gw Go.RowKit
/- tarn/tarnlaw13.heavy -/
def g_tarnlaw13_heavy (fuel : Nat) (l2 : List TNode) (l4 : List Ttarnlaw13_Act) : Option Bool :=
  jn (fun (c9 : Bool) => some c9) fun K20 => lt (decide ((((List.length l2 : Nat) : Int)) > 500)) fun c21 => br c21 (K20 true) (lt (decide ((((List.length l4 : Nat) : Int)) > 500)) fun c22 => K20 c22)
theorem g_tarnlaw13_heavy_w (fuel : Nat) (s1 : Value) (l2 : List TNode) (s3 : Value) (l4 : List Ttarnlaw13_Act) (r : Bool) (h : g_tarnlaw13_heavy fuel l2 l4 = some r) (w0 : World) (hs1 : Rd fTNode (hp no w0) s1 l2) (hs3 : Rd fTtarnlaw13_Act (hp no w0) s3 l4) :
    Ret Try.prog 11 #[.agg #[s1, s3]] w0 (fun v w' => v = vb r ∧ St no w0 w' []) := by
  unfold g_tarnlaw13_heavy at h
  refine ret_of_wp Try.func11 rfl #[.agg #[s1, s3], Z, Z, Z, Z, Z, Z, Z, Z, Z, Z, Z, Z] (by kernel_rfl) ?_
  have H0 := St.start w0
  refine WP.seq ?_
  refine WP.region ?_
  refine WPI.op rfl (Op1.box H0 #[s1, s3] (by kernel_rfl) 25 (.tmp 0) rfl (by kernel_rfl) (fun b5 w7 H8 => ?_))
  refine WPI.run 1 ⟨#[.agg #[s1, s3], vp b5 0, vb false, Z, Z, Z, Z, Z, Z, Z, Z, Z, Z], []⟩ w7 (fun K => by kernel_rfl) ?_
  refine WPI.done rfl ?_
  refine then_n ?_
  refine WP.seq ?_
  obtain ⟨K20, hK20, h⟩ := jn_some h
  refine WP.onlyN (fun a w => ∃ (c9 : Bool) (g10 g11 g12 g13 g14 g15 g16 g17 g18 g19 : Value), a = ⟨#[.agg #[s1, s3], vp b5 0, vb c9, g10, g11, g12, g13, g14, g15, g16, g17, g18, g19], []⟩ ∧ St no w0 w [Box b5 #[s1, s3] 25] ∧ K20 c9 = some r) ?_ ?_
  · skip
    refine WP.region ?_
    refine WPI.run 1 ⟨#[.agg #[s1, s3], vp b5 0, vb false, vp b5 0, Z, Z, Z, Z, Z, Z, Z, Z, Z], []⟩ w7 (fun K => by kernel_rfl) ?_
    refine WPI.value (v := s1) rfl (by kernel_rfl) (ev_loadBox H8 0 rfl 22 (.tmp 3) 0 (s1) rfl (by kernel_rfl) (by kernel_rfl)) ?_
    refine WPI.run 0 ⟨#[.agg #[s1, s3], vp b5 0, vb false, vp b5 0, s1, Z, Z, Z, Z, Z, Z, Z, Z], []⟩ w7 (fun K => by kernel_rfl) ?_
    refine WPI.value (v := vi (((List.length l2 : Nat) : Int))) rfl (by kernel_rfl) (ev_len (Rd.sl hs1) 22 (.tmp 4) 33 6 48 rfl (by kernel_rfl) (by kernel_rfl)) ?_
    obtain ⟨c21, hc21, h⟩ := lt_some h
    refine WPI.run 2 ⟨#[.agg #[s1, s3], vp b5 0, vb false, vp b5 0, s1, vi (((List.length l2 : Nat) : Int)), vb c21, vb c21, Z, Z, Z, Z, Z], []⟩ w7 (fun K => by subst hc21; kernel_rfl) ?_
    cases c21 with
    | false =>
      replace h := br_f h
      refine WPI.run 1 ⟨#[.agg #[s1, s3], vp b5 0, vb false, vp b5 0, s1, vi (((List.length l2 : Nat) : Int)), vb false, vb false, vp b5 1, Z, Z, Z, Z], []⟩ w7 (fun K => by kernel_rfl) ?_
      refine WPI.value (v := s3) rfl (by kernel_rfl) (ev_loadBox H8 0 rfl 23 (.tmp 8) 1 (s3) rfl (by kernel_rfl) (by kernel_rfl)) ?_
      refine WPI.run 0 ⟨#[.agg #[s1, s3], vp b5 0, vb false, vp b5 0, s1, vi (((List.length l2 : Nat) : Int)), vb false, vb false, vp b5 1, s3, Z, Z, Z], []⟩ w7 (fun K => by kernel_rfl) ?_
      refine WPI.value (v := vi (((List.length l4 : Nat) : Int))) rfl (by kernel_rfl) (ev_len (Rd.sl hs3) 23 (.tmp 9) 45 7 56 rfl (by kernel_rfl) (by kernel_rfl)) ?_
      obtain ⟨c22, hc22, h⟩ := lt_some h
      refine WPI.run 3 ⟨#[.agg #[s1, s3], vp b5 0, vb c22, vp b5 0, s1, vi (((List.length l2 : Nat) : Int)), vb false, vb false, vp b5 1, s3, vi (((List.length l4 : Nat) : Int)), vb c22, vb c22], []⟩ w7 (fun K => by subst hc22; kernel_rfl) ?_
      refine WPI.done rfl ?_
      exact ⟨c22, _, _, _, _, _, _, _, _, _, _, rfl, St.sel H8 [0] (by decide) rfl, h⟩
    | true =>
      replace h := br_t h
      refine WPI.run 6 ⟨#[.agg #[s1, s3], vp b5 0, vb true, vp b5 0, s1, vi (((List.length l2 : Nat) : Int)), vb true, vb true, Z, Z, Z, Z, vb true], []⟩ w7 (fun K => by kernel_rfl) ?_
      refine WPI.done rfl ?_
      exact ⟨true, _, _, _, _, _, _, _, _, _, _, rfl, St.sel H8 [0] (by decide) rfl, h⟩
  · rintro a w ⟨c9, g10, g11, g12, g13, g14, g15, g16, g17, g18, g19, rfl, H, h⟩
    subst hK20
    obtain ⟨w23, rfl⟩ : ∃ x, x = w := ⟨_, rfl⟩
    have H24 := H; clear H
    refine then_n ?_
    refine WP.ret ?_
    obtain rfl := Option.some.inj h
    exact post_r (vb c9) rfl (by kernel_rfl) ⟨rfl, St.sel H24 [] (by decide) rfl⟩
end Go.Proofs
