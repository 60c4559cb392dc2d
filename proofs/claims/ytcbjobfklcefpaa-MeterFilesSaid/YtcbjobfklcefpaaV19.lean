import Derived.Test.YtcbjobfklcefpaaGwit
import Derived.Test.YtcbjobfklcefpaaProg
import Derived.Test.YtcbjobfklcefpaaT
set_option linter.unusedVariables false
set_option linter.unusedSimpArgs false
set_option maxRecDepth 100000
set_option maxHeartbeats 0
namespace Go.Proofs
open Gw Go.RowKit
attribute [local irreducible] Gw.WP Gw.WPI Gw.WPL Gw.WA Gw.WQ Gw.PX Gw.PY Gw.WI Gw.PZ Gw.Op1 Gw.Ret Go.Exit.then Go.Exit.inBlock Go.wpOpIn Gw.Rnd Gw.Aft Gw.Begun
/- slices.Clone[[]byte,byte] -/
def g_slices_Clone_byte_byte (fuel : Nat) (l2 : List Int) : Option (List Int) :=
  gd ((List.length ([] : List Int) + List.length l2) * 1 ≤ 140737488355328) <| some l2
theorem g_slices_Clone_byte_byte_w (fuel : Nat) (s1 : Value) (l2 : List Int) (r : List Int) (h : g_slices_Clone_byte_byte fuel l2 = some r) (w0 : World) (hs1 : Rd fU8 (hp no w0) s1 l2) :
    Ret Try.prog 19 #[s1] w0 (fun v w' => ∃ q0 : Value, v = q0 ∧ St no w0 w' [Own fU8 5 q0 r]) := by
  unfold g_slices_Clone_byte_byte at h
  obtain ⟨hg, h⟩ := gd_some h
  obtain rfl := Option.some.inj h
  refine ret_of_wpS Try.func19 rfl 8 rfl [(0, s1)] (by kernel_rfl) (fun G => ?_)
  have H0 := St.start w0
  refine WP.seq (WP.region (WPI.runS 1 1 [(2, vn)] rfl (fun K => by kernel_rfl) (WPI.done rfl (then_n ?_))))
  refine WP.seq ?_
  rcases nil_or (Rd.sl hs1) with ⟨rfl, hn⟩ | ⟨ad, cap, hs⟩
  · obtain rfl : l2 = [] := List.eq_nil_of_length_eq_zero hn
    refine WP.seq (WP.region (WPI.runS 2 2 [(4, vb true), (3, vn)] rfl (fun K => by kernel_rfl) (WPI.done rfl (then_n ?_))))
    refine WP.condT (by kernel_rfl) (WP.seq (WP.region (WPI.runS 1 1 [(2, vn)] rfl (fun K => by kernel_rfl) (WPI.done rfl (then_n (WP.ret ?_))))))
    exact then_r (post_r vn rfl (by kernel_rfl) ⟨vn, rfl, St.sel (St.nil H0 fU8 5) [0] (by decide) rfl⟩)
  · obtain ⟨x, hx⟩ : ∃ x, x = s1 := ⟨_, rfl⟩
    refine WP.seq (WP.region (WPI.runS 2 2 [(4, vb false), (3, s1)] rfl (fun K => by rw [hs]; kernel_rfl) (WPI.done rfl (then_n ?_))))
    refine WP.condF (by kernel_rfl) (WP.skip (then_n ?_))
    refine WP.seq (WP.region ?_)
    refine WPI.op rfl (Op1.lit (F := fU8) (E := 5) H0 (by kernel_rfl) ([] : List Int) (fun w => by kernel_rfl) (by simp [maxLen]) (fun s3 w1 H1 => ?_))
    refine WPI.nS 5 rfl (WPI.runS 1 2 [(6, s1)] rfl (fun K => by kernel_rfl) ?_)
    refine WPI.op rfl (Op1.append (F := fU8) H1 0 rfl (by kernel_rfl) 25 (.tmp 5) (.tmp 6) 1 rfl (by kernel_rfl) (by kernel_rfl) s1 l2 hs1 (St.hp_le H1) (by kernel_rfl) (app_len hg (by decide)) (fun s4 w2 H2 => ?_))
    refine WPI.nS 7 rfl (WPI.runS 1 4 [(2, s4)] rfl (fun K => by kernel_rfl) (WPI.done rfl (then_n (WP.ret ?_))))
    exact post_r s4 rfl (by kernel_rfl) ⟨s4, rfl, St.sel H2 [0] (by decide) rfl⟩
end Go.Proofs
