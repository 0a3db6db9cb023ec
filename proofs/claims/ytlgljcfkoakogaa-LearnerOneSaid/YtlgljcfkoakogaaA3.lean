import Derived.Test.YtlgljcfkoakogaaA2
namespace Go.Proofs.Ytlgljcfkoakogaa
open Go.RowKit
set_option linter.unusedSimpArgs false
set_option linter.unusedVariables false

/-- Majority: the number, the error. -/
def maj (n : Int) : Int × Int := if n < 1 ∨ 7 < n then (0, 2) else (n / 2 + 1, 0)
theorem maj_bad {n : Int} (h : n < 1 ∨ 7 < n) : maj n = (0, 2) := by unfold maj; rw [if_pos h]
theorem maj_good {n : Int} (h : 1 ≤ n ∧ n ≤ 7) : maj n = (n / 2 + 1, 0) := by unfold maj; rw [if_neg (by omega)]
def MajPost (n : Int) (w : World) (e : Ending) (w' : World) : Prop := e = .returned (.tuple #[.int .i64 (maj n).1, .int .i64 (maj n).2]) ∧ w = w'
theorem MajPost.mk {n x y : Int} {w : World} (h : maj n = (x, y)) : MajPost n w (.returned (.tuple #[.int .i64 x, .int .i64 y])) w := by
  unfold MajPost; rw [h]; exact ⟨rfl, rfl⟩

set_option maxHeartbeats 1600000 in
theorem majority_any (n : Int) (w : World) : Calls Try.prog 24 #[.int .i64 n] w (MajPost n w) := by
  by_cases h : n < 1 ∨ 7 < n
  · have H := Lib.hid (maj_bad h)
    go_enter Try.func24, Try.ntmps24
    go_wp2
    all_goals (try (exfalso; omega))
    all_goals go_ret2
    all_goals exact MajPost.mk H.out
  · have h1 : 1 ≤ n := by omega
    have h2 : n ≤ 7 := by omega
    have H := Lib.hid (maj_good ⟨h1, h2⟩)
    clear h
    go_enter Try.func24, Try.ntmps24
    go_wp2
    go_ret2
    exact MajPost.mk H.out

set_option maxHeartbeats 400000 in
theorem refMay_any (r n : Int) (w : World) : Calls Try.prog 20 #[.agg #[.int .u64 r, .int .i64 n]] w fun e w' => e = .returned (.bool (mayB r n)) ∧ Below w.heap.size w w' := by
  unfold mayB
  by_cases h1 : 0 ≤ n
  · by_cases h2 : n < 7
    · go_enter Try.func20, Try.ntmps20
      go_wp2
      go_ret
      exact ⟨by simp [*], (Below.refl _ _).alloc (Nat.le_refl _) _⟩
    · go_enter Try.func20, Try.ntmps20
      go_wp2
      go_ret
      exact ⟨by simp [*]; omega, (Below.refl _ _).alloc (Nat.le_refl _) _⟩
  · go_enter Try.func20, Try.ntmps20
    go_wp2
    go_ret
    exact ⟨by simp [*]; omega, (Below.refl _ _).alloc (Nat.le_refl _) _⟩

/-- Is a above b? -/
def aboveB (r n r' n' : Int) : Bool := decide (r' < r) || (decide (r = r') && decide (n' < n))
set_option maxHeartbeats 800000 in
theorem above_any (r n r' n' : Int) (w : World) : Calls Try.prog 18 #[.agg #[.int .u64 r, .int .i64 n], .agg #[.int .u64 r', .int .i64 n']] w fun e w' => e = .returned (.bool (aboveB r n r' n')) ∧ Below w.heap.size w w' := by
  unfold aboveB
  by_cases h1 : r' < r
  · go_enter Try.func18, Try.ntmps18
    go_wp2
    go_ret
    exact ⟨by simp [*], ((Below.refl _ _).alloc (Nat.le_refl _) _).alloc (by simp) _⟩
  · by_cases h2 : r = r'
    · subst h2
      go_enter Try.func18, Try.ntmps18
      go_wp2
      go_ret
      exact ⟨by simp, ((Below.refl _ _).alloc (Nat.le_refl _) _).alloc (by simp) _⟩
    · have h3 : (r == r') = false := by simpa using h2
      go_enter Try.func18, Try.ntmps18
      go_wp2
      go_ret
      exact ⟨by simp [*], ((Below.refl _ _).alloc (Nat.le_refl _) _).alloc (by simp) _⟩

end Go.Proofs.Ytlgljcfkoakogaa
