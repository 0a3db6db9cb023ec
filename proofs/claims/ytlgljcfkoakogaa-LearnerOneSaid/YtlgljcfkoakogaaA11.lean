import Derived.Test.YtlgljcfkoakogaaA10
import Derived.Deep.DeepCutAuto
import Derived.OpenShut
namespace Go.Proofs.Ytlgljcfkoakogaa
open Go.RowKit
set_option linter.unusedSimpArgs false
set_option linter.unusedVariables false


theorem above_cmp (r n r' n' : Int) : aboveB r n r' n' = true ↔ cmpB r n r' n' = 1 := by
  have h1 := cmpB_vals r n r' n'
  have h2 := cmpB_above r n r' n'
  cases h : aboveB r n r' n'
  · simp [h] at h2; simp; omega
  · simp [h] at h2; simp; omega
theorem above_sym (r n r' n' : Int) : aboveB r' n' r n = true ↔ cmpB r n r' n' = -1 := by
  rw [above_cmp, cmpB_sym r n r' n']; omega
theorem votesOk_snoc (xs : List Int) (n : Int) (k : Nat) (hk : k < xs.length) : votesOk (xs.take (k + 1)) n = (votesOk (xs.take k) n && (decide (0 ≤ xs.getD k 0) && decide (xs.getD k 0 < n))) := by
  have e : xs.getD k 0 = xs[k] := by simp [List.getD_eq_getElem?_getD, hk]
  unfold votesOk
  rw [e, List.take_succ_eq_append_getElem hk, List.all_append]
  simp only [List.all_cons, List.all_nil, Bool.and_true]
theorem votesOk_nil (n : Int) : votesOk [] n = true := by simp [votesOk]

/-- Above, said by Cmp's value. -/
theorem above_v (v : Bool) (r n r' n' : Int) (h : aboveB r n r' n' = v) (w : World) : Calls Try.prog 18 #[.agg #[.int .u64 r, .int .i64 n], .agg #[.int .u64 r', .int .i64 n']] w fun e w' => e = .returned (.bool v) ∧ Below w.heap.size w w' := by
  have := above_any r n r' n' w
  rw [h] at this
  exact this

end Go.Proofs.Ytlgljcfkoakogaa
