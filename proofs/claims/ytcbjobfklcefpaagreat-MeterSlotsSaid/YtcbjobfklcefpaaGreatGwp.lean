import Derived.Test.YtcbjobfklcefpaaGreatGwo
import Derived.SizedLaws
set_option linter.unusedVariables false
namespace Gw
open Go Go.RowKit
/-! Openers of strings, of structs and arrays whose parts may have slices -/
theorem opens_strW {P : Program} {t : TypeId} (ht : P.underlying t = some .string) : OpensW P t (fun _ a c => c = [.string a]) (fun a => slen a ≤ 140737488355328) := by
  intro H enc w base held n c x h hx
  obtain ⟨s, rfl, he, _⟩ := DataW.trod_string ht h
  refine ⟨s, rfl, ?_⟩
  have h1 := hx s.data.toList.length (by rw [he]; unfold DataW.weights; exact List.mem_singleton.2 rfl)
  simp only [reachBytes] at h1
  have h2 : s.data.toList.length = s.size := by simp
  rw [h2] at h1
  unfold slen
  omega
theorem few {l b : Nat} (h : l * b ≤ reachBytes) (hb : 0 < b) : l ≤ 140737488355328 := by
  have : l * 1 ≤ l * b := Nat.mul_le_mul_left l hb
  simp only [reachBytes] at h
  omega
section
variable {H : Type} {enc : TypeId × Value → H} {P : Program} {w : World} {base : Nat} {held : Bool}
theorem fieldW {t : TypeId} {fs : Array Field} {m : Nat} {c : List Value} {xs : List (DataW H × List MemPlace)} (ht : P.underlying t = some (.struct fs))
    (hf : ∀ (i : Nat) (f : Field), fs[i]? = some f → DataW.trod enc P w base (fun _ => true) held m f.type ((c.drop f.offset).take (P.cellsOf f.type)) = xs[i]?)
    (hxs : xs.length = fs.size) (hl : light P t (.agg (xs.map (·.1)))) (i : Nat) (T : TypeId) (off sz : Nat) (h1 : (fs[i]?).map (fun f => (f.type, f.offset)) = some (T, off)) (h2 : P.cellsOf T = sz) :
    ∃ y, DataW.trod enc P w base (fun _ => true) held m T ((c.drop off).take sz) = some y ∧ light P T y.1 := by
  obtain ⟨y, hy, hxy⟩ := field_at hf hxs i T off sz h1 h2
  refine ⟨y, hy, fun n hn => hl n ?_⟩
  unfold DataW.weights
  rw [ht]
  have ht2 : (fs.toList.map (·.type))[i]? = some T := by
    cases h : fs[i]? with
    | none => simp [h] at h1
    | some f =>
      simp only [h, Option.map_some, Option.some.injEq, Prod.mk.injEq] at h1
      rw [List.getElem?_map, Array.getElem?_toList, h, Option.map_some, h1.1]
  exact DataW.weights_mem_each ht2 (by rw [List.getElem?_map, hxy, Option.map_some]) n hn
theorem elemW {t e : TypeId} {k m : Nat} {c : List Value} {xs : List (DataW H × List MemPlace)} (ht : P.underlying t = some (.array k e))
    (hf : ∀ (i : Nat), i < k → DataW.trod enc P w base (fun _ => true) held m e ((c.drop (i * P.cellsOf e)).take (P.cellsOf e)) = xs[i]?)
    (hxs : xs.length = k) (hl : light P t (.agg (xs.map (·.1)))) (i sz : Nat) (h2 : P.cellsOf e = sz) (hi : i < k) :
    ∃ y, DataW.trod enc P w base (fun _ => true) held m e ((c.drop (i * sz)).take sz) = some y ∧ light P e y.1 := by
  have h := hf i hi
  rw [h2, List.getElem?_eq_getElem (by omega)] at h
  refine ⟨_, h, fun n hn => hl n ?_⟩
  unfold DataW.weights
  rw [ht]
  exact weightsAll_mem (List.mem_map.2 ⟨_, List.getElem_mem _, rfl⟩) n hn
end
end Gw
