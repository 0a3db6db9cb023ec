import Derived.Test.YtlgljcfkoakogaaA6
namespace Go.Proofs.Ytlgljcfkoakogaa
open Go.RowKit
set_option linter.unusedSimpArgs false
set_option linter.unusedVariables false

theorem quorum_any (A : Option Addr) (cap : Nat) (xs : List Int) (n : Int) (w : World) (hx : IntsAt w A xs) (hl : xs.length ≤ 140737488351232) :
    Calls Try.prog 25 #[.slice A xs.length cap, .int .i64 n] w (QuoPost xs n w) := by
  by_cases h : n < 1 ∨ 7 < n
  · exact quorum_badn A xs.length cap xs n w h
  · exact quorum_good A cap xs n w (by omega) (by omega) hx hl

theorem nx_one : nx 1 2 1 = (2, 1, 0) := by decide
theorem maj_five : maj 5 = (3, 0) := by decide
theorem quo_three : quo [0, 2, 4] 5 = (true, 0) := by decide
theorem cmp_one : cmpB 2 1 1 4 = 1 := by decide
theorem may_one : mayB 2 1 = true := by decide
theorem may_none : mayB 0 (-1) = false := by decide

theorem intsAt_three (w : World) (g : Nat) (a b c : Int) (ha : w.cell? ⟨g, 0, none⟩ = some (.int .i64 a)) (hb : w.cell? ⟨g, 1, none⟩ = some (.int .i64 b)) (hc : w.cell? ⟨g, 2, none⟩ = some (.int .i64 c)) :
    IntsAt w (some ⟨g, 0, none⟩) [a, b, c] := by
  refine .inr ⟨g, 0, rfl, fun j hj => ?_⟩
  match j, hj with
  | 0, _ => simpa using ha
  | 1, _ => simpa using hb
  | 2, _ => simpa using hc

set_option maxHeartbeats 3200000 in
theorem works11_any (w : World) : Calls Try.prog 17 #[] w fun e w' => e = .returned (.bool true) ∧ Below w.heap.size w w' := by
  go_enter Try.func17, Try.ntmps17
  go_wp2_with fail
  refine (next_any _ _ _ _ (by decide)).mono ?_
  rintro e w1 ⟨rfl, hb1⟩
  rw [nx_one]
  obtain ⟨hc1, hf1⟩ := bcell hb1
  go_wp2_with fail
  refine (majority_any _ _).mono ?_
  rintro e w2 ⟨rfl, rfl⟩
  rw [maj_five]
  go_wp2_with fail
  refine (quorum_any _ _ [0, 2, 4] _ _ ?_ (by simp)).mono ?_
  · exact intsAt_three _ _ _ _ _ (by go_simp) (by go_simp) (by go_simp)
  rintro e w3 ⟨rfl, hb3⟩
  rw [quo_three]
  obtain ⟨hc3, hf3⟩ := bcell hb3; (try simp only [World.size_alloc, World.size_setCell] at hc3 hf3)
  have z3_0 : w1.heap.size < w3.heap.size := (by have := hb3.size; (try simp at this); omega)
  have HB3 : Below w.heap.size w w3 := (((hb1.alloc (by have := hb1.size; omega) _).alloc (by have := hb1.size; simp; omega) _).trans (hb3.mono (by have := hb1.size; simp; omega)))
  have s3 := HB3.size
  go_wp2_with fail
  refine (cmp_any _ _ _ _ _).mono ?_
  rintro e w4 ⟨rfl, hb4⟩
  rw [cmp_one]
  obtain ⟨hc4, hf4⟩ := bcell hb4; (try simp only [World.size_alloc, World.size_setCell] at hc4 hf4)
  have z4_0 : w1.heap.size < w4.heap.size := (by have := hb4.size; (try simp at this); omega)
  have HB4 := HB3.trans (hb4.mono s3)
  have s4 := HB4.size
  go_wp2_with fail
  refine (may_any _ _ _).mono ?_
  rintro e w5 ⟨rfl, hb5⟩
  rw [may_one]
  have HB5 := HB4.trans (hb5.mono s4)
  have s5 := HB5.size
  go_wp2_with fail
  refine (may_any _ _ _).mono ?_
  rintro e w6 ⟨rfl, hb6⟩
  rw [may_none]
  have HB6 := HB5.trans (hb6.mono s5)
  go_wp2_with fail
  go_ret
  exact ⟨rfl, HB6⟩

end Go.Proofs.Ytlgljcfkoakogaa
