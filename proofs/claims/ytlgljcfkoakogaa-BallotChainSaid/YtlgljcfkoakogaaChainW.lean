import Derived.Test.YtlgljcfkoakogaaChain
import Derived.Test.YtlgljcfkoakogaaMeet
import Derived.Test.YtlgljcfkoakogaaRow
namespace Go.Proofs.Ytlgljcfkoakogaa
open Go.RowKit
set_option linter.unusedSimpArgs false
set_option linter.unusedVariables false


theorem chain_long (r n : Int) (A : Option Addr) (ca len : Nat) (w : World) (h : 200 < len) :
    Calls Try.prog 6 #[.agg #[.int .u64 r, .int .i64 n], .slice A len ca] w fun e w' => e = .returned (.bool true) ∧ Below w.heap.size w w' := by
  have h1 : (200 : Int) < (len : Int) := by omega
  clear h
  go_enter Try.func6, Try.ntmps6
  go_wp2_with (go_at_call 17; refine (works11_any _).mono ?_; rintro e w' ⟨rfl, hbw⟩)
  go_ret
  exact ⟨rfl, ((Below.refl _ _).alloc (Nat.le_refl _) _).trans (hbw.mono (by simp))⟩
theorem chainWalk (r n : Int) (a : Option Addr) (len cap : Nat) (zs : List Int) (w : World) (wr : (Lit.int .u64 r).wf = true) (_ : (Lit.int .i64 n).wf = true) (h : InRow w a len cap zs) (y : len * 8 ≤ 140737488351232) :
    Calls Try.prog 6 #[.agg #[.int .u64 r, .int .i64 n], .slice a len cap] w fun e w' => e = .returned (.bool true) ∧ Below w.heap.size w w' := by
  by_cases hl : 200 < len
  · exact chain_long r n a cap len w hl
  · obtain ⟨xs, rfl, i0, c0⟩ := intsAt_arg h
    exact chain_walk r n a cap xs w (wfU wr).1 i0 (by omega)

end Go.Proofs.Ytlgljcfkoakogaa
