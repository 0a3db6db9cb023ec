import Derived.Test.YtlgljcfkoakogaaProg
import Derived.WalkKit
import Derived.WalkSpells
import Derived.WalkLawsBesides
import Derived.Lib.Hide
import Derived.Deep.RegionHeld3
import Derived.Outline
namespace Go.Proofs.Ytlgljcfkoakogaa
open Go.RowKit
set_option linter.unusedSimpArgs false
set_option linter.unusedVariables false

def mayB (r n : Int) : Bool := decide (0 ≤ n) && decide (n < 7) && decide (r ≤ 281474976710656)

set_option maxHeartbeats 400000 in
theorem isNaN_u (a : Int) (w : World) : Calls Try.prog 74 #[.int .u64 a] w fun e w' => e = .returned (.bool false) ∧ w = w' := by
  go_enter Try.func74, Try.ntmps74
  go_wp2
  go_ret
  exact ⟨by simp, rfl⟩

set_option maxHeartbeats 400000 in
theorem isNaN_i (a : Int) (w : World) : Calls Try.prog 75 #[.int .i64 a] w fun e w' => e = .returned (.bool false) ∧ w = w' := by
  go_enter Try.func75, Try.ntmps75
  go_wp2
  go_ret
  exact ⟨by simp, rfl⟩

set_option maxHeartbeats 400000 in
theorem may_any (r n : Int) (w : World) : Calls Try.prog 19 #[.agg #[.int .u64 r, .int .i64 n]] w fun e w' => e = .returned (.bool (mayB r n)) ∧ Below w.heap.size w w' := by
  unfold mayB
  by_cases h1 : 0 ≤ n
  · by_cases h2 : n < 7
    · go_enter Try.func19, Try.ntmps19
      go_wp2
      go_ret
      exact ⟨by simp [*], (Below.refl _ _).alloc (Nat.le_refl _) _⟩
    · go_enter Try.func19, Try.ntmps19
      go_wp2
      go_ret
      exact ⟨by simp [*]; omega, (Below.refl _ _).alloc (Nat.le_refl _) _⟩
  · go_enter Try.func19, Try.ntmps19
    go_wp2
    go_ret
    exact ⟨by simp [*]; omega, (Below.refl _ _).alloc (Nat.le_refl _) _⟩

def cmpI (a b : Int) : Int := if a < b then -1 else if b < a then 1 else 0

set_option maxHeartbeats 400000 in
theorem compare_u (a b : Int) (w : World) : Calls Try.prog 70 #[.int .u64 a, .int .u64 b] w fun e w' => e = .returned (.int .i64 (cmpI a b)) ∧ w = w' := by
  unfold cmpI
  by_cases h1 : a < b
  · go_enter Try.func70, Try.ntmps70
    go_wp2
    go_ret
    exact ⟨by simp [*], rfl⟩
  · by_cases h2 : b < a
    · go_enter Try.func70, Try.ntmps70
      go_wp2
      go_ret
      exact ⟨by simp [*], rfl⟩
    · go_enter Try.func70, Try.ntmps70
      go_wp2
      go_ret
      exact ⟨by simp [*], rfl⟩

set_option maxHeartbeats 400000 in
theorem compare_i (a b : Int) (w : World) : Calls Try.prog 71 #[.int .i64 a, .int .i64 b] w fun e w' => e = .returned (.int .i64 (cmpI a b)) ∧ w = w' := by
  unfold cmpI
  by_cases h1 : a < b
  · go_enter Try.func71, Try.ntmps71
    go_wp2
    go_ret
    exact ⟨by simp [*], rfl⟩
  · by_cases h2 : b < a
    · go_enter Try.func71, Try.ntmps71
      go_wp2
      go_ret
      exact ⟨by simp [*], rfl⟩
    · go_enter Try.func71, Try.ntmps71
      go_wp2
      go_ret
      exact ⟨by simp [*], rfl⟩

def orI (a b : Int) : Int := if a = 0 then b else a
set_option maxHeartbeats 400000 in
theorem or_any (a b : Int) (g : Nat) (w : World) (ha : w.cell? ⟨g, 0, none⟩ = some (.int .i64 a)) (hb : w.cell? ⟨g, 1, none⟩ = some (.int .i64 b)) :
    Calls Try.prog 69 #[.slice (some ⟨g, 0, none⟩) 2 2] w fun e w' => e = .returned (.int .i64 (orI a b)) ∧ w = w' := by
  by_cases h1 : a = 0
  · by_cases h2 : b = 0
    · subst h1 h2
      go_enter Try.func69, Try.ntmps69
      go_wp2
      refine wp_loop_rounds 3 ?_
      rw [rounds_succ]
      go_wp2
      rw [rounds_succ]
      go_wp2
      rw [rounds_succ]
      go_wp2
      go_ret
      exact ⟨by simp [orI], rfl⟩
    · subst h1
      have h2' : (b == 0) = false := by simpa using h2
      go_enter Try.func69, Try.ntmps69
      go_wp2
      refine wp_loop_rounds 3 ?_
      rw [rounds_succ]
      go_wp2
      rw [rounds_succ]
      go_wp2
      go_ret
      exact ⟨by simp [orI], rfl⟩
  · have h2' : (a == 0) = false := by simpa using h1
    go_enter Try.func69, Try.ntmps69
    go_wp2
    refine wp_loop_rounds 3 ?_
    rw [rounds_succ]
    go_wp2
    go_ret
    exact ⟨by simp [orI, h1], rfl⟩

def cmpB (r n r' n' : Int) : Int := orI (cmpI r r') (cmpI n n')

set_option maxHeartbeats 800000 in
theorem against_any (r n r' n' : Int) (w : World) :
    Calls Try.prog 56 #[.agg #[.int .u64 r, .int .i64 n], .agg #[.int .u64 r', .int .i64 n']] w fun e w' => e = .returned (.int .i64 (cmpB r n r' n')) ∧ Below w.heap.size w w' := by
  go_enter Try.func56, Try.ntmps56
  go_wp2
  go_region_held3 (fun w' => w'.cell? ⟨w.heap.size, 0, none⟩ = some (.int .u64 r) ∧ w'.cell? ⟨w.heap.size, 1, none⟩ = some (.int .i64 n) ∧ w'.cell? ⟨w.heap.size + 1, 0, none⟩ = some (.int .u64 r') ∧ w'.cell? ⟨w.heap.size + 1, 1, none⟩ = some (.int .i64 n')) (go_keep)
    (first | (go_at_call 70; refine (compare_u _ _ _).mono ?_; rintro e w' ⟨rfl, rfl⟩) | (go_at_call 71; refine (compare_i _ _ _).mono ?_; rintro e w' ⟨rfl, rfl⟩) | (go_at_call 69; refine (or_any (cmpI r r') (cmpI n n') _ _ ?_ ?_).mono ?_; (go_simp); (go_simp); rintro e w' ⟨rfl, rfl⟩))
  go_wp2
  go_ret
  exact ⟨rfl, ((((Below.refl _ _).alloc (Nat.le_refl _) _).alloc (by simp) _).alloc (by simp; omega) _).drew⟩

set_option maxHeartbeats 800000 in
theorem cmp_any (r n r' n' : Int) (w : World) :
    Calls Try.prog 21 #[.agg #[.int .u64 r, .int .i64 n], .agg #[.int .u64 r', .int .i64 n']] w fun e w' => e = .returned (.int .i64 (cmpB r n r' n')) ∧ Below w.heap.size w w' := by
  go_enter Try.func21, Try.ntmps21
  go_wp2_with (go_at_call 56; refine (against_any _ _ _ _ _).mono ?_; rintro e w' ⟨rfl, hb⟩)
  go_ret
  exact ⟨rfl, (((Below.refl _ _).alloc (Nat.le_refl _) _).alloc (by simp) _).trans (hb.mono (by simp; omega))⟩

theorem bcell {W w1 : World} (hb : Below W.heap.size W w1) : (∀ b o, b < W.heap.size → w1.cell? ⟨b, o, none⟩ = W.cell? ⟨b, o, none⟩) ∧ (∀ b o, b < W.heap.size → w1.frozen? ⟨b, o, none⟩ = W.frozen? ⟨b, o, none⟩) :=
  ⟨fun b o h => hb.cell (p := ⟨b, o, none⟩) h, fun b o h => hb.frozen (p := ⟨b, o, none⟩) h⟩

def mxU (r : Int) : Int := if r < 1 then 1 else r
def nxR (r n k : Int) : Int := if cmpB (mxU r) k r n ≤ 0 then mxU r + 1 else mxU r

/-- What Next answers: round, node, error. -/
def nx (r n k : Int) : Int × Int × Int :=
  if mayB r n = true ∧ 0 ≤ k ∧ k < 7 then (if mayB (nxR r n k) k = true then (nxR r n k, k, 0) else (0, 0, 9)) else (0, 0, 2)

theorem below_size {w W w' : World} {n : Nat} (hb : Below W.heap.size W w') (h : n < W.heap.size) : n < w'.heap.size := Nat.lt_of_lt_of_le h hb.size

theorem nx_bad {r n k : Int} (hm : ¬ mayB r n = true) : nx r n k = (0, 0, 2) := by simp [nx, hm]
theorem nx_bad2 {r n k : Int} (h : k < 0 ∨ 7 ≤ k) : nx r n k = (0, 0, 2) := by unfold nx; rw [if_neg (by omega)]
theorem nx_good {r n k x : Int} (hm : mayB r n = true) (h : 0 ≤ k ∧ k < 7) (hx : nxR r n k = x) : nx r n k = if mayB x k = true then (x, k, 0) else (0, 0, 9) := by
  unfold nx; rw [if_pos ⟨hm, h⟩, hx]

def NxPost (r n k : Int) (w : World) (e : Ending) (w' : World) : Prop :=
  e = .returned (.tuple #[.agg #[.int .u64 (nx r n k).1, .int .i64 (nx r n k).2.1], .int .i64 (nx r n k).2.2]) ∧ Below w.heap.size w w'
theorem NxPost.mk {r n k : Int} {w w' : World} {x y z : Int} (h : nx r n k = (x, y, z)) (hb : Below w.heap.size w w') :
    NxPost r n k w (.returned (.tuple #[.agg #[.int .u64 x, .int .i64 y], .int .i64 z])) w' := by
  unfold NxPost; rw [h]; exact ⟨rfl, hb⟩

end Go.Proofs.Ytlgljcfkoakogaa
