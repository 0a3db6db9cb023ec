import Derived.Test.YtlgljcfkoakogaaL6
namespace Go.Proofs.Ytlgljcfkoakogaa
open Go.RowKit
set_option linter.unusedSimpArgs false
set_option linter.unusedVariables false


open Go.Maps Go.Shelf
section
variable {W : World} {g mb : Nat} {L : Lrn} (x r n : Int) (v : ByteArray)
/-- Accepted, whatever is heard. -/
theorem lacc_any (h : LrnAt W g mb L) (hnn : L.nn < 1000000) : Calls Try.prog 45 #[.pointer (some ⟨g, 0, none⟩), .int .i64 x, .agg #[.int .u64 r, .int .i64 n], .string v] W fun e W' =>
    e = .returned (.tuple #[.bool (lAcc L x r n v).1, .int .i64 (lAcc L x r n v).2.1]) ∧ LrnAt W' g mb (lAcc L x r n v).2.2 ∧ Kept (fun k => k = g ∨ k = mb) W W' := by
  unfold lAcc
  by_cases ha : 0 ≤ x ∧ x < L.n ∧ namedB r n = true
  · rw [if_neg (by simpa using ha)]
    obtain ⟨h0, h1, hn⟩ := ha
    by_cases hl : 8192 < v.size
    · rw [if_pos hl]
      exact (lacc_long x r n v h h0 h1 hn (by omega)).mono fun e w' ⟨a, b, c⟩ => ⟨a, b, Kept.of_below c⟩
    · rw [if_neg hl]
      have hl' : ¬ (8192 : Int) < (v.size : Int) := by omega
      by_cases hk : L.known = true
      · rw [if_pos hk]
        exact (lacc_known x r n v h h0 h1 hn hl' hk).mono fun e w' ⟨a, b, c⟩ => ⟨a, b, Kept.of_below c⟩
      · rw [if_neg hk]
        have hk' : L.known = false := by simpa using hk
        cases hf : L.f x with
        | none =>
          rw [if_neg (by simp [oldB])]
          exact lacc_none x r n v h h0 h1 hn hl' hk' hnn hf
        | some c =>
          by_cases hc : cmpB r n c.1 c.2.1 ≤ 0
          · rw [if_pos (by simp [oldB, hc])]
            exact (lacc_old x r n v h h0 h1 hn hl' hk' c hf hc).mono fun e w' ⟨a, b, c⟩ => ⟨a, b, Kept.of_below c⟩
          · rw [if_neg (by simp [oldB, hc])]
            exact lacc_some x r n v h h0 h1 hn hl' hk' hnn c hf hc
  · rw [if_pos ha]
    exact (lacc_arg x r n v h ha).mono fun e w' ⟨a, b, c⟩ => ⟨a, b, Kept.of_below c⟩
end
theorem Bk.kept {F : Nat → Prop} {w w' : World} {b : Nat} {cs : Array Value} {t : TypeId} (h : Bk w b cs t) (k : Kept F w w') (hF : ¬ F b) : Bk w' b cs t := (k.block b h.lt hF).trans h
def w1L : Lrn := (lAcc (lrnNew 3) 0 1 0 ⟨#[97]⟩).2.2
def w2L : Lrn := (lAcc w1L 1 2 1 ⟨#[98]⟩).2.2
def w3L : Lrn := (lAcc w2L 2 2 1 ⟨#[98]⟩).2.2
theorem w1_ans : (lAcc (lrnNew 3) 0 1 0 ⟨#[97]⟩).1 = false ∧ (lAcc (lrnNew 3) 0 1 0 ⟨#[97]⟩).2.1 = 0 ∧ w1L.nn = 1 := by decide +kernel
theorem w2_ans : (lAcc w1L 1 2 1 ⟨#[98]⟩).1 = false ∧ (lAcc w1L 1 2 1 ⟨#[98]⟩).2.1 = 0 ∧ w2L.nn = 2 := by decide +kernel
theorem w3_ans : (lAcc w2L 2 2 1 ⟨#[98]⟩).1 = true ∧ (lAcc w2L 2 2 1 ⟨#[98]⟩).2.1 = 0 ∧ w3L.known = true ∧ w3L.val = ⟨#[98]⟩ := by decide +kernel
theorem w3_told : (lTold w3L ⟨#[97]⟩).1 = false ∧ (lTold w3L ⟨#[97]⟩).2.1 = 150 := by
  have h := w3_ans.2.2
  have hne : ¬ (⟨#[98]⟩ : ByteArray) = ⟨#[97]⟩ := by decide
  unfold lTold
  rw [if_neg (by decide), if_pos h.1, h.2, if_neg hne]
  exact ⟨rfl, rfl⟩
set_option maxRecDepth 100000
set_option maxHeartbeats 1600000
theorem works14_any (W : World) : Calls Try.prog 40 #[] W fun e W' => e = .returned (.bool true) ∧ Below W.heap.size W W' := by
  go_enter Try.func40, Try.ntmps40
  go_wp2_with fail
  refine (lnew_good 3 (by decide) (by decide) _).mono ?_
  rintro e w1 ⟨rfl, H0, hb1⟩
  have H0 := Lib.hid H0
  have HB := Lib.hid hb1
  clear hb1
  go_wp2_with fail
  have hq := H0.out.cells.2.2.2.2
  have kb := (Below.refl w1.heap.size w1).alloc (Nat.le_refl _) (.cells #[.int .u64 1, .int .i64 0] 24)
  have z1 : (w1.alloc (.cells #[.int .u64 1, .int .i64 0] 24)).heap.size = w1.heap.size + 1 := World.size_alloc _ _
  have kb := kb.alloc (by rw [z1]; omega) (.cells #[.int .u64 2, .int .i64 1] 24)
  have B1 := (Bk.new w1 #[.int .u64 1, .int .i64 0] 24).alloc (.cells #[.int .u64 2, .int .i64 1] 24)
  have B2 := Bk.new (w1.alloc (.cells #[.int .u64 1, .int .i64 0] 24)) #[.int .u64 2, .int .i64 1] 24
  rw [z1] at B2
  have H1 := H0.out.keep kb
  have HB1 := HB.out.trans (kb.mono (by omega))
  have hs1 := kb.size
  generalize (w1.alloc (.cells #[.int .u64 1, .int .i64 0] 24)).alloc (.cells #[.int .u64 2, .int .i64 1] 24) = v1 at B1 B2 H1 HB1 hs1 ⊢
  clear kb z1
  generalize hqq : w1.heap.size = q at *
  clear H0 HB
  refine (lacc_any 0 1 0 ⟨#[97]⟩ H1 (by decide)).mono ?_
  rintro e w2 ⟨rfl, H2, k2⟩
  rw [w1_ans.1, w1_ans.2.1]
  have H2 : LrnAt w2 _ _ w1L := H2
  have B21 := B1.kept k2 (by omega)
  have B22 := B2.kept k2 (by omega)
  have HB2 := k2.below HB1 (fun k e => by omega) HB1.size
  have m1 : w2.cell? ⟨q, 0, none⟩ = some (.int .u64 1) := B21.cell 0
  have m2 : w2.cell? ⟨q, 1, none⟩ = some (.int .i64 0) := B21.cell 1
  have m3 : w2.cell? ⟨q + 1, 0, none⟩ = some (.int .u64 2) := B22.cell 0
  have m4 : w2.cell? ⟨q + 1, 1, none⟩ = some (.int .i64 1) := B22.cell 1
  clear HB1 k2
  go_wp2_with fail
  refine (lacc_any 1 2 1 ⟨#[98]⟩ H2 (by rw [w1_ans.2.2]; decide)).mono ?_
  rintro e w3 ⟨rfl, H3, k3⟩
  rw [w2_ans.1, w2_ans.2.1]
  have H3 : LrnAt w3 _ _ w2L := H3
  clear m1 m2 m3 m4
  have B31 := B21.kept k3 (by omega)
  have B32 := B22.kept k3 (by omega)
  have HB3 := k3.below HB2 (fun k e => by omega) HB2.size
  have m1 : w3.cell? ⟨q, 0, none⟩ = some (.int .u64 1) := B31.cell 0
  have m2 : w3.cell? ⟨q, 1, none⟩ = some (.int .i64 0) := B31.cell 1
  have m3 : w3.cell? ⟨q + 1, 0, none⟩ = some (.int .u64 2) := B32.cell 0
  have m4 : w3.cell? ⟨q + 1, 1, none⟩ = some (.int .i64 1) := B32.cell 1
  clear HB2 k3
  go_wp2_with fail
  refine (lacc_any 2 2 1 ⟨#[98]⟩ H3 (by rw [w2_ans.2.2]; decide)).mono ?_
  rintro e w4 ⟨rfl, H4, k4⟩
  rw [w3_ans.1, w3_ans.2.1]
  have H4 : LrnAt w4 _ _ w3L := H4
  clear m1 m2 m3 m4
  have B41 := B31.kept k4 (by omega)
  have B42 := B32.kept k4 (by omega)
  have HB4 := k4.below HB3 (fun k e => by omega) HB3.size
  have m1 : w4.cell? ⟨q, 0, none⟩ = some (.int .u64 1) := B41.cell 0
  have m2 : w4.cell? ⟨q, 1, none⟩ = some (.int .i64 0) := B41.cell 1
  have m3 : w4.cell? ⟨q + 1, 0, none⟩ = some (.int .u64 2) := B42.cell 0
  have m4 : w4.cell? ⟨q + 1, 1, none⟩ = some (.int .i64 1) := B42.cell 1
  clear HB3 k4
  go_wp2_with fail
  refine (lchosen_any H4).mono ?_
  rintro e w5 ⟨rfl, k5⟩
  rw [w3_ans.2.2.1, w3_ans.2.2.2]
  have H5 := H4.keep k5
  have HB5 := HB4.trans (k5.mono HB4.size)
  clear H4 HB4 k5
  go_wp2_with fail
  refine (ltold_any ⟨#[97]⟩ H5).mono ?_
  rintro e w6 ⟨rfl, H6, k6⟩
  rw [w3_told.1, w3_told.2]
  have HB6 := k6.below HB5 (fun k e => by rw [e]; omega) HB5.size
  clear H5 HB5 k6 H6
  go_wp2_with fail
  go_ret
  exact ⟨rfl, HB6⟩

end Go.Proofs.Ytlgljcfkoakogaa
