import Derived.Test.YtlgljcfkoakogaaA5
namespace Go.Proofs.Ytlgljcfkoakogaa
open Go.RowKit
set_option linter.unusedSimpArgs false
set_option linter.unusedVariables false

/-- 1 where the number is in the list, else 0. -/
def hasV (xs : List Int) (i : Int) : Int := if i ∈ xs then 1 else 0
theorem hasV_nil (i : Int) : hasV [] i = 0 := by simp [hasV]
theorem hasV_range (xs : List Int) (i : Int) : 0 ≤ hasV xs i ∧ hasV xs i ≤ 1 := by unfold hasV; split <;> omega
theorem hasV_snoc (xs : List Int) (k : Nat) (hk : k < xs.length) (i : Int) : hasV (xs.take (k + 1)) i = if xs.getD k 0 = i then 1 else hasV (xs.take k) i := by
  have e : xs.getD k 0 = xs[k] := by simp [List.getD_eq_getElem?_getD, hk]
  unfold hasV
  rw [e, List.take_succ_eq_append_getElem hk]
  by_cases h : xs[k] = i
  · subst h; simp only [List.mem_append, List.mem_singleton, or_true, if_true]
  · rw [if_neg h]
    have : i ∈ xs.take k ++ [xs[k]] ↔ i ∈ xs.take k := by
      simp only [List.mem_append, List.mem_singleton]
      exact ⟨fun h' => h'.resolve_right (fun e => h e.symm), .inl⟩
    simp only [this]
theorem cnt_hasV (xs : List Int) : cnt xs 7 = hasV xs 0 + hasV xs 1 + hasV xs 2 + hasV xs 3 + hasV xs 4 + hasV xs 5 + hasV xs 6 := by
  simp [cnt, hasV]

/-- The votes that were read before the one that may not be. -/
def votesOk (xs : List Int) (n : Int) : Bool := xs.all fun v => decide (0 ≤ v) && decide (v < n)
theorem votesOk_bad {xs : List Int} {n : Int} {k : Nat} (hk : k < xs.length) (h : xs.getD k 0 < 0 ∨ n ≤ xs.getD k 0) : votesOk xs n = false := by
  have e : xs.getD k 0 = xs[k] := by simp [List.getD_eq_getElem?_getD, hk]
  rw [e] at h
  cases hv : votesOk xs n
  · rfl
  · unfold votesOk at hv
    have := List.all_eq_true.1 hv xs[k] (List.getElem_mem hk)
    simp at this; omega
theorem votesOk_all {xs : List Int} {n : Int} (h : ∀ j, j < xs.length → 0 ≤ xs.getD j 0 ∧ xs.getD j 0 < n) : votesOk xs n = true := by
  unfold votesOk
  rw [List.all_eq_true]
  intro v hv
  obtain ⟨j, hj, rfl⟩ := List.getElem_of_mem hv
  have := h j hj
  rw [show xs.getD j 0 = xs[j] by simp [List.getD_eq_getElem?_getD, hj]] at this
  simp; omega
theorem votesOk_at {xs : List Int} {n : Int} (h : votesOk xs n = true) : ∀ v ∈ xs, 0 ≤ v ∧ v < n := by
  intro v hv
  have := List.all_eq_true.1 h v hv
  simpa using this

/-- What Quorum answers: is it one; the error. -/
def quo (xs : List Int) (n : Int) : Bool × Int :=
  if n < 1 ∨ 7 < n then (false, 2) else if votesOk xs n = true then (quoB xs n, 0) else (false, 2)
def QuoPost (xs : List Int) (n : Int) (w : World) (e : Ending) (w' : World) : Prop := e = .returned (.tuple #[.bool (quo xs n).1, .int .i64 (quo xs n).2]) ∧ Below w.heap.size w w'
theorem QuoPost.mk {xs : List Int} {n : Int} {b : Bool} {y : Int} {w w' : World} (h : quo xs n = (b, y)) (hb : Below w.heap.size w w') : QuoPost xs n w (.returned (.tuple #[.bool b, .int .i64 y])) w' := by
  unfold QuoPost; rw [h]; exact ⟨rfl, hb⟩
theorem quo_bad {xs : List Int} {n : Int} (h : n < 1 ∨ 7 < n) : quo xs n = (false, 2) := by unfold quo; rw [if_pos h]
theorem quo_votes {xs : List Int} {n : Int} (h1 : 1 ≤ n) (h7 : n ≤ 7) (h : votesOk xs n = false) : quo xs n = (false, 2) := by unfold quo; rw [if_neg (by omega), h]; rfl
theorem quo_good {xs : List Int} {n : Int} (h1 : 1 ≤ n) (h7 : n ≤ 7) (h : votesOk xs n = true) : quo xs n = (quoB xs n, 0) := by unfold quo; rw [if_neg (by omega), h]; rfl
theorem quoB_cells {xs : List Int} {n : Int} (h1 : 1 ≤ n) (h7 : n ≤ 7) (h : votesOk xs n = true) :
    quoB xs n = decide (n / 2 + 1 - hasV xs 0 - hasV xs 1 - hasV xs 2 - hasV xs 3 - hasV xs 4 - hasV xs 5 - hasV xs 6 ≤ 0) := by
  have e : cnt xs 7 = cnt xs n.toNat := by
    have := cnt_stop (xs := xs) (n := n.toNat) (fun v hv => by have := votesOk_at h v hv; omega) (7 - n.toNat)
    rw [← this]; congr 1; omega
  unfold quoB
  rw [← e, cnt_hasV]
  congr 1
  apply propext
  omega

set_option maxHeartbeats 400000 in
theorem quorum_badn (A : Option Addr) (len cap : Nat) (xs : List Int) (n : Int) (w : World) (h : n < 1 ∨ 7 < n) : Calls Try.prog 25 #[.slice A len cap, .int .i64 n] w (QuoPost xs n w) := by
  have HM := Lib.hid (maj_bad h)
  have HQ := Lib.hid (quo_bad (xs := xs) h)
  clear h
  go_enter Try.func25, Try.ntmps25
  go_wp2_with (go_at_call 24; refine (majority_any _ _).mono ?_; rintro e w' ⟨rfl, rfl⟩; rw [HM.out])
  go_ret2
  exact QuoPost.mk HQ.out (Below.refl _ _)

set_option maxHeartbeats 3200000 in
theorem quorum_good (A : Option Addr) (cap : Nat) (xs : List Int) (n : Int) (w : World) (h1 : 1 ≤ n) (h7 : n ≤ 7) (hx : IntsAt w A xs) (hl : xs.length ≤ 140737488351232) :
    Calls Try.prog 25 #[.slice A xs.length cap, .int .i64 n] w (QuoPost xs n w) := by
  have HX := Lib.hid hx
  clear hx
  have HM := Lib.hid (maj_good ⟨h1, h7⟩)
  have hn0 : 0 ≤ n / 2 := by omega
  have hn3 : n / 2 ≤ 3 := by omega
  go_enter Try.func25, Try.ntmps25
  go_wp2_with (go_at_call 24; refine (majority_any _ _).mono ?_; rintro e w' ⟨rfl, rfl⟩; rw [HM.out])
  go_loopw [10, 23] (fun _ i wr => ∃ k : Nat, k ≤ xs.length ∧ i = .int .i64 k ∧ Hid (∀ j, j < k → 0 ≤ xs.getD j 0 ∧ xs.getD j 0 < n) ∧ w.heap.size < wr.heap.size ∧
    wr.cell? ⟨w.heap.size, 0, none⟩ = some (.int .i64 (hasV (xs.take k) 0)) ∧ wr.cell? ⟨w.heap.size, 1, none⟩ = some (.int .i64 (hasV (xs.take k) 1)) ∧ wr.cell? ⟨w.heap.size, 2, none⟩ = some (.int .i64 (hasV (xs.take k) 2)) ∧ wr.cell? ⟨w.heap.size, 3, none⟩ = some (.int .i64 (hasV (xs.take k) 3)) ∧ wr.cell? ⟨w.heap.size, 4, none⟩ = some (.int .i64 (hasV (xs.take k) 4)) ∧ wr.cell? ⟨w.heap.size, 5, none⟩ = some (.int .i64 (hasV (xs.take k) 5)) ∧ wr.cell? ⟨w.heap.size, 6, none⟩ = some (.int .i64 (hasV (xs.take k) 6)) ∧ wr.frozen? ⟨w.heap.size, 0, none⟩ = false ∧ wr.frozen? ⟨w.heap.size, 1, none⟩ = false ∧ wr.frozen? ⟨w.heap.size, 2, none⟩ = false ∧ wr.frozen? ⟨w.heap.size, 3, none⟩ = false ∧ wr.frozen? ⟨w.heap.size, 4, none⟩ = false ∧ wr.frozen? ⟨w.heap.size, 5, none⟩ = false ∧ wr.frozen? ⟨w.heap.size, 6, none⟩ = false ∧ Below w.heap.size w wr) (fun _ i _ => xs.length - (intOf i).toNat)
  case atStart =>
    refine ⟨0, by omega, rfl, Lib.hid (fun j hj => by omega), by simp, ?_⟩
    simp only [List.take_zero, hasV_nil]
    exact ⟨by go_simp, by go_simp, by go_simp, by go_simp, by go_simp, by go_simp, by go_simp, by go_simp, by go_simp, by go_simp, by go_simp, by go_simp, by go_simp, by go_simp, (Below.refl _ _).alloc (Nat.le_refl _) _⟩
  case round =>
    obtain ⟨k, hk, rfl, HV, hsz, c0, c1, c2, c3, c4, c5, c6, f0, f1, f2, f3, f4, f5, f6, hb⟩ := hrel
    by_cases hlt : k < xs.length
    · obtain ⟨v, hv⟩ : ∃ v, v = xs.getD k 0 := ⟨_, rfl⟩
      have HVE := Lib.hid hv
      rcases HX.out with h0 | ⟨b, o, rfl, hcell⟩
      · rw [h0] at hlt; simp at hlt
      · have hcq := hcell k hlt
        rw [← hv] at hcq
        have hcq := (hb.cell (p := ⟨b, o + k, none⟩) (World.block_lt_of_cell? w _ hcq)).trans hcq
        have hbne : b < w.heap.size := World.block_lt_of_cell? w _ (hcell k hlt)
        clear hcell hv HX
        by_cases hbad : v < 0 ∨ n ≤ v
        · have HQ := Lib.hid (quo_votes h1 h7 (votesOk_bad hlt (HVE.out ▸ hbad)))
          go_wp2
          all_goals (try (exfalso; omega))
          all_goals go_ret2
          all_goals exact QuoPost.mk HQ.out hb
        · have hv0 : 0 ≤ v := by omega
          have hvn : v < n := by omega
          have HV1 : Hid (∀ j, j < k + 1 → 0 ≤ xs.getD j 0 ∧ xs.getD j 0 < n) := Lib.hid (fun j hj => by
            rcases Nat.lt_or_ge j k with h | h
            · exact HV.out j h
            · obtain rfl : j = k := by omega
              rw [← HVE.out]; omega)
          clear hbad HV
          have HS0 := Lib.hid (hasV_snoc xs k hlt 0)
          have HS1 := Lib.hid (hasV_snoc xs k hlt 1)
          have HS2 := Lib.hid (hasV_snoc xs k hlt 2)
          have HS3 := Lib.hid (hasV_snoc xs k hlt 3)
          have HS4 := Lib.hid (hasV_snoc xs k hlt 4)
          have HS5 := Lib.hid (hasV_snoc xs k hlt 5)
          have HS6 := Lib.hid (hasV_snoc xs k hlt 6)
          have hcase : v = 0 ∨ v = 1 ∨ v = 2 ∨ v = 3 ∨ v = 4 ∨ v = 5 ∨ v = 6 := by omega
          rcases hcase with rfl | rfl | rfl | rfl | rfl | rfl | rfl
          all_goals
            go_wp2
            go_roundw
            case rel =>
              exact ⟨k + 1, by omega, by go_num, HV1, by simp; omega, by rw [HS0.out, ← HVE.out]; go_simp, by rw [HS1.out, ← HVE.out]; go_simp, by rw [HS2.out, ← HVE.out]; go_simp, by rw [HS3.out, ← HVE.out]; go_simp, by rw [HS4.out, ← HVE.out]; go_simp, by rw [HS5.out, ← HVE.out]; go_simp, by rw [HS6.out, ← HVE.out]; go_simp, by go_simp, by go_simp, by go_simp, by go_simp, by go_simp, by go_simp, by go_simp, hb.setCell (by simp) _⟩
            case measure => simp [intOf]; omega
    · obtain rfl : k = xs.length := by omega
      have hok := votesOk_all HV.out
      have HQ := (quo_good h1 h7 hok).trans (by rw [quoB_cells h1 h7 hok])
      clear hok HV HX hlt
      rw [List.take_length] at c0 c1 c2 c3 c4 c5 c6
      have b0 := hasV_range xs 0
      obtain ⟨l0, g0⟩ := b0
      have b1 := hasV_range xs 1
      obtain ⟨l1, g1⟩ := b1
      have b2 := hasV_range xs 2
      obtain ⟨l2, g2⟩ := b2
      have b3 := hasV_range xs 3
      obtain ⟨l3, g3⟩ := b3
      have b4 := hasV_range xs 4
      obtain ⟨l4, g4⟩ := b4
      have b5 := hasV_range xs 5
      obtain ⟨l5, g5⟩ := b5
      have b6 := hasV_range xs 6
      obtain ⟨l6, g6⟩ := b6
      generalize hasV xs 0 = x0 at *
      generalize hasV xs 1 = x1 at *
      generalize hasV xs 2 = x2 at *
      generalize hasV xs 3 = x3 at *
      generalize hasV xs 4 = x4 at *
      generalize hasV xs 5 = x5 at *
      generalize hasV xs 6 = x6 at *
      have HQ := Lib.hid HQ
      have i0 : ∀ w, (Instr.index 113 (.agg #[.int .i64 x0, .int .i64 x1, .int .i64 x2, .int .i64 x3, .int .i64 x4, .int .i64 x5, .int .i64 x6]) (.int .i64 0)).run Try.prog w = .ok (.int .i64 x0) w := fun _ => by kernel_rfl
      have i1 : ∀ w, (Instr.index 113 (.agg #[.int .i64 x0, .int .i64 x1, .int .i64 x2, .int .i64 x3, .int .i64 x4, .int .i64 x5, .int .i64 x6]) (.int .i64 1)).run Try.prog w = .ok (.int .i64 x1) w := fun _ => by kernel_rfl
      have i2 : ∀ w, (Instr.index 113 (.agg #[.int .i64 x0, .int .i64 x1, .int .i64 x2, .int .i64 x3, .int .i64 x4, .int .i64 x5, .int .i64 x6]) (.int .i64 2)).run Try.prog w = .ok (.int .i64 x2) w := fun _ => by kernel_rfl
      have i3 : ∀ w, (Instr.index 113 (.agg #[.int .i64 x0, .int .i64 x1, .int .i64 x2, .int .i64 x3, .int .i64 x4, .int .i64 x5, .int .i64 x6]) (.int .i64 3)).run Try.prog w = .ok (.int .i64 x3) w := fun _ => by kernel_rfl
      have i4 : ∀ w, (Instr.index 113 (.agg #[.int .i64 x0, .int .i64 x1, .int .i64 x2, .int .i64 x3, .int .i64 x4, .int .i64 x5, .int .i64 x6]) (.int .i64 4)).run Try.prog w = .ok (.int .i64 x4) w := fun _ => by kernel_rfl
      have i5 : ∀ w, (Instr.index 113 (.agg #[.int .i64 x0, .int .i64 x1, .int .i64 x2, .int .i64 x3, .int .i64 x4, .int .i64 x5, .int .i64 x6]) (.int .i64 5)).run Try.prog w = .ok (.int .i64 x5) w := fun _ => by kernel_rfl
      have i6 : ∀ w, (Instr.index 113 (.agg #[.int .i64 x0, .int .i64 x1, .int .i64 x2, .int .i64 x3, .int .i64 x4, .int .i64 x5, .int .i64 x6]) (.int .i64 6)).run Try.prog w = .ok (.int .i64 x6) w := fun _ => by kernel_rfl
      go_wp2
      refine wp_loop_rounds 8 ?_
      rw [rounds_succ]
      go_wp2
      rw [rounds_succ]
      go_wp2
      rw [rounds_succ]
      go_wp2
      rw [rounds_succ]
      go_wp2
      rw [rounds_succ]
      go_wp2
      rw [rounds_succ]
      go_wp2
      rw [rounds_succ]
      go_wp2
      rw [rounds_succ]
      go_wp2
      go_ret2
      exact QuoPost.mk HQ.out hb

end Go.Proofs.Ytlgljcfkoakogaa
