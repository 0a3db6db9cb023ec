import Derived.Test.YtlgljcfkoakogaaTells
import Derived.Test.YtlgljcfkoakogaaMeet
import Derived.Test.YtlgljcfkoakogaaRow
namespace Go.Proofs.Ytlgljcfkoakogaa
open Go.RowKit
set_option linter.unusedSimpArgs false
set_option linter.unusedVariables false


set_option maxRecDepth 100000 in
set_option maxHeartbeats 1600000 in
theorem tells_long (ar an br bn k : Int) (A : Option Addr) (ca len : Nat) (n : Int) (w : World) (h1000 : 1000 < len) :
    Calls Try.prog 3 #[.agg #[.int .u64 ar, .int .i64 an], .agg #[.int .u64 br, .int .i64 bn], .int .i64 k, .slice A len ca, .int .i64 n] w fun e w' => e = .returned (.bool true) ∧ Below w.heap.size w w' := by
  have h1 : (1000 : Int) < (len : Int) := by omega
  clear h1000
  go_enter Try.func3, Try.ntmps3
  go_wp2_with (go_at_call 17; refine (works11_any _).mono ?_; rintro e w' ⟨rfl, hbw⟩)
  go_ret
  exact ⟨rfl, (((Below.refl _ _).alloc (Nat.le_refl _) _).alloc (by simp) _).trans (hbw.mono (by simp; omega))⟩

theorem tellsWalk (ar an br bn k : Int) (a : Option Addr) (len cap : Nat) (zs : List Int) (n : Int) (w : World) (wa : (Lit.int .u64 ar).wf = true) (_ : (Lit.int .i64 an).wf = true) (_ : (Lit.int .u64 br).wf = true) (_ : (Lit.int .i64 bn).wf = true) (_ : (Lit.int .i64 k).wf = true)
    (h : InRow w a len cap zs) (y : len * 8 ≤ 140737488351232) (_ : (Lit.int .i64 n).wf = true) :
    Calls Try.prog 3 #[.agg #[.int .u64 ar, .int .i64 an], .agg #[.int .u64 br, .int .i64 bn], .int .i64 k, .slice a len cap, .int .i64 n] w fun e w' => e = .returned (.bool true) ∧ Below w.heap.size w w' := by
  by_cases h1000 : 1000 < len
  · exact tells_long ar an br bn k a cap len n w h1000
  · obtain ⟨xs, rfl, i0, c0⟩ := intsAt_arg h
    exact tells_walk ar an br bn k a cap xs n w (wfU wa).1 i0 c0 y h1000

end Go.Proofs.Ytlgljcfkoakogaa
