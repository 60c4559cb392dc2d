import Derived.Test.YtjcagpcpbfmldaaGw
import Derived.Test.YtjcagpcpbfmldaaProg
import Derived.Test.YtjcagpcpbfmldaaT
set_option linter.unusedVariables false
set_option linter.unusedSimpArgs false
set_option maxRecDepth 100000
set_option maxHeartbeats 4000000
namespace Go.Proofs
open Gw Go.RowKit
/- slices.Clone[[]tarn/api.Node,tarn/api.Node] -/
def g_slices_Clone_api_Node_api_Node (fuel : Nat) (l2 : List TNode) : Option (List TNode) :=
  gd ((List.length ([] : List TNode) + List.length l2) * 48 ≤ 140737488355328) <| some l2
theorem g_slices_Clone_api_Node_api_Node_w (fuel : Nat) (s1 : Value) (l2 : List TNode) (r : List TNode) (h : g_slices_Clone_api_Node_api_Node fuel l2 = some r) (w0 : World) (hs1 : Rd fTNode (hp no w0) s1 l2) :
    Ret Try.prog 31 #[s1] w0 (fun v w' => ∃ q0 : Value, v = q0 ∧ St no w0 w' [Own fTNode 33 q0 r]) := by
  unfold g_slices_Clone_api_Node_api_Node at h
  obtain ⟨hg, h⟩ := gd_some h
  obtain rfl := Option.some.inj h
  refine ret_of_wp Try.func31 rfl #[s1, Z, Z, Z, Z, Z, Z, Z] (by kernel_rfl) ?_
  have H0 := St.start w0
  refine WP.seq (WP.region (WPI.run 1 ⟨#[s1, Z, vn, Z, Z, Z, Z, Z], []⟩ w0 (fun K => by kernel_rfl) (WPI.done rfl (then_n ?_))))
  refine WP.seq ?_
  rcases nil_or (Rd.sl hs1) with ⟨rfl, hn⟩ | ⟨ad, cap, hs⟩
  · obtain rfl : l2 = [] := List.eq_nil_of_length_eq_zero hn
    refine WP.seq (WP.region (WPI.run 2 ⟨#[vn, Z, vn, vn, vb true, Z, Z, Z], []⟩ w0 (fun K => by kernel_rfl) (WPI.done rfl (then_n ?_))))
    refine WP.condT (by kernel_rfl) (WP.seq (WP.region (WPI.run 1 ⟨#[vn, Z, vn, vn, vb true, Z, Z, Z], []⟩ w0 (fun K => by kernel_rfl) (WPI.done rfl (then_n (WP.ret ?_))))))
    exact then_r (post_r vn rfl (by kernel_rfl) ⟨vn, rfl, St.sel (St.nil H0 fTNode 33) [0] (by decide) rfl⟩)
  · obtain ⟨x, hx⟩ : ∃ x, x = s1 := ⟨_, rfl⟩
    refine WP.seq (WP.region (WPI.run 2 ⟨#[s1, Z, vn, s1, vb false, Z, Z, Z], []⟩ w0 (fun K => by rw [hs]; kernel_rfl) (WPI.done rfl (then_n ?_))))
    refine WP.condF (by kernel_rfl) (WP.skip (then_n ?_))
    refine WP.seq (WP.region ?_)
    refine WPI.op rfl (Op1.lit (F := fTNode) (E := 33) H0 (by kernel_rfl) ([] : List TNode) (fun w => by kernel_rfl) (by simp [maxLen]) (fun s3 w1 H1 => ?_))
    refine WPI.run 1 ⟨#[s1, Z, vn, s1, vb false, s3, s1, Z], []⟩ w1 (fun K => by kernel_rfl) ?_
    refine WPI.op rfl (Op1.append (F := fTNode) H1 0 rfl (by kernel_rfl) 22 (.tmp 5) (.tmp 6) 48 rfl (by kernel_rfl) (by kernel_rfl) s1 l2 hs1 (St.hp_le H1) (by kernel_rfl) (app_len hg (by decide)) (fun s4 w2 H2 => ?_))
    refine WPI.run 1 ⟨#[s1, Z, s4, s1, vb false, s3, s1, s4], []⟩ w2 (fun K => by kernel_rfl) (WPI.done rfl (then_n (WP.ret ?_)))
    exact post_r s4 rfl (by kernel_rfl) ⟨s4, rfl, St.sel H2 [0] (by decide) rfl⟩
end Go.Proofs
