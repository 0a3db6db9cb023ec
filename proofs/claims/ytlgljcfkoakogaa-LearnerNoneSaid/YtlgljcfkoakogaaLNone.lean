import Derived.Test.YtlgljcfkoakogaaL7
namespace Go.Proofs.Ytlgljcfkoakogaa
open Go.RowKit
set_option linter.unusedSimpArgs false
set_option linter.unusedVariables false


open Go.Maps Go.Shelf
set_option maxRecDepth 100000 in
set_option maxHeartbeats 3200000 in
theorem lnone_walk (x r n : Int) (s : ByteArray) (w : World) (hs : s.size ≤ 140737488351232) :
    Calls Try.prog 12 #[.int .i64 x, .agg #[.int .u64 r, .int .i64 n], .string s] w fun e w' => e = .returned (.bool true) ∧ Below w.heap.size w w' := by
  by_cases hl : 1024 < s.size
  · have hl' : (1024 : Int) < (s.size : Int) := by omega
    clear hl
    go_enter Try.func12, Try.ntmps12
    go_wp2_with (go_at_call 40; refine (works14_any _).mono ?_; rintro e w' ⟨rfl, hbw⟩)
    go_ret
    exact ⟨rfl, ((Below.refl _ _).alloc (Nat.le_refl _) _).trans (hbw.mono (by simp))⟩
  · have hl' : ¬ (1024 : Int) < (s.size : Int) := by omega
    clear hl
    go_enter Try.func12, Try.ntmps12
    go_wp2_with fail
    refine (lacc_nil _ _ _ _).mono ?_
    rintro e w1 ⟨rfl, hb1⟩
    have HB := ((Below.refl w.heap.size w).alloc (Nat.le_refl _) (.cells #[.int .u64 r, .int .i64 n] 24)).trans (hb1.mono (by simp))
    clear hb1
    go_wp2_with fail
    refine (ltold_nil _ _).mono ?_
    rintro e w2 ⟨rfl, rfl⟩
    go_wp2_with fail
    refine (lchosen_nil _).mono ?_
    rintro e w3 ⟨rfl, rfl⟩
    go_wp2_with (go_at_call 40; refine (works14_any _).mono ?_; rintro e w' ⟨rfl, hbw⟩)
    go_ret
    exact ⟨rfl, HB.trans (hbw.mono HB.size)⟩
theorem lnoneWalk (x r n : Int) (s : ByteArray) (w : World) (_ : (Lit.int .i64 x).wf = true) (_ : (Lit.int .u64 r).wf = true) (_ : (Lit.int .i64 n).wf = true) (hs : s.size ≤ 140737488351232) :
    Calls Try.prog 12 #[.int .i64 x, .agg #[.int .u64 r, .int .i64 n], .string s] w fun e w' => e = .returned (.bool true) ∧ Below w.heap.size w w' := lnone_walk x r n s w hs

end Go.Proofs.Ytlgljcfkoakogaa
