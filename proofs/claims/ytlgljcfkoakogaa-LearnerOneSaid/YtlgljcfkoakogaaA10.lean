import Derived.Test.YtlgljcfkoakogaaA9
namespace Go.Proofs.Ytlgljcfkoakogaa
open Go.RowKit
set_option linter.unusedSimpArgs false
set_option linter.unusedVariables false


theorem cmpB_sym (r n r' n' : Int) : cmpB r' n' r n = - cmpB r n r' n' := by
  unfold cmpB orI cmpI
  repeat' split
  all_goals omega
theorem cmpB_vals (r n r' n' : Int) : (cmpB r n r' n' = -1 ∧ (r < r' ∨ (r = r' ∧ n < n'))) ∨ (cmpB r n r' n' = 0 ∧ r = r' ∧ n = n') ∨ (cmpB r n r' n' = 1 ∧ (r' < r ∨ (r = r' ∧ n' < n))) := by
  unfold cmpB orI cmpI
  repeat' split
  all_goals omega
theorem cmpB_trans (a b c d e f : Int) (h1 : cmpB a b c d ≤ 0) (h2 : cmpB c d e f ≤ 0) : cmpB a b e f ≤ 0 := by
  have := cmpB_vals a b c d
  have := cmpB_vals c d e f
  have := cmpB_vals a b e f
  omega
theorem nx_cases (r n k : Int) (hr : 0 ≤ r) : nx r n k = (0, 0, 2) ∨ nx r n k = (0, 0, 9) ∨
    ∃ x, nx r n k = (x, k, 0) ∧ 1 ≤ x ∧ x ≤ r + 1 ∧ cmpB x k r n = 1 ∧ mayB x k = true ∧ ∀ y, 1 ≤ y → cmpB y k r n = 1 → 0 ≤ cmpB y k x k := by
  unfold nx
  split
  · split
    · refine .inr (.inr ⟨_, rfl, ?_, ?_, ?_, by assumption, ?_⟩)
      · unfold nxR mxU; split <;> split <;> omega
      · unfold nxR mxU
        have := cmpB_vals 1 k r n
        have := cmpB_vals r k r n
        split <;> split <;> (try split at *) <;> omega
      · unfold nxR mxU
        have := cmpB_vals 1 k r n
        have := cmpB_vals r k r n
        have := cmpB_vals (1 + 1) k r n
        have := cmpB_vals (r + 1) k r n
        repeat' split
        all_goals omega
      · intro y hy
        unfold nxR mxU
        have := cmpB_vals y k r n
        have := cmpB_vals 1 k r n
        have := cmpB_vals r k r n
        have := cmpB_vals y k 1 k
        have := cmpB_vals y k (1 + 1) k
        have := cmpB_vals y k (r + 1) k
        have := cmpB_vals y k r k
        repeat' split
        all_goals omega
    · exact .inr (.inl rfl)
  · exact .inl rfl

end Go.Proofs.Ytlgljcfkoakogaa
