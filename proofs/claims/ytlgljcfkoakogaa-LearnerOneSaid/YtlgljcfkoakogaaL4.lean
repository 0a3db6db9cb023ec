import Derived.Test.YtlgljcfkoakogaaL3
namespace Go.Proofs.Ytlgljcfkoakogaa
open Go.RowKit
set_option linter.unusedSimpArgs false
set_option linter.unusedVariables false


open Go.Maps Go.Shelf
def W4 (W : World) (r n : Int) (v : ByteArray) : World := (((W.alloc (.cells #[.int .u64 r, .int .i64 n] 24)).alloc (.cells #[.string v] 9)).alloc (.cells #[.bool false] 4)).alloc (.cells #[.int .i64 0] 30)
/-- The boxes of a call of Accepted. -/
structure AccFr (W w : World) (r n : Int) (v : ByteArray) : Prop where
  below : Below W.heap.size W w
  sz : W.heap.size + 4 ≤ w.heap.size
  b0 : Bk w W.heap.size #[.int .u64 r, .int .i64 n] 24
  b1 : Bk w (W.heap.size + 1) #[.string v] 9
  b2 : Bk w (W.heap.size + 1 + 1) #[.bool false] 4
  b3 : Bk w (W.heap.size + 1 + 1 + 1) #[.int .i64 0] 30
section
variable {W w w' : World} {r n : Int} {v : ByteArray}
theorem W4_facts : AccFr W (W4 W r n v) r n v := by
  have s1 : (W.alloc (.cells #[.int .u64 r, .int .i64 n] 24)).heap.size = W.heap.size + 1 := World.size_alloc _ _
  have s2 : ((W.alloc (.cells #[.int .u64 r, .int .i64 n] 24)).alloc (.cells #[.string v] 9)).heap.size = W.heap.size + 2 := by rw [World.size_alloc, s1]
  have s3 : (((W.alloc (.cells #[.int .u64 r, .int .i64 n] 24)).alloc (.cells #[.string v] 9)).alloc (.cells #[.bool false] 4)).heap.size = W.heap.size + 3 := by rw [World.size_alloc, s2]
  have s4 : (W4 W r n v).heap.size = W.heap.size + 4 := by unfold W4; rw [World.size_alloc, s3]
  refine ⟨?_, by rw [s4]; omega, ?_, ?_, ?_, ?_⟩
  · exact ((((Below.refl _ _).alloc (Nat.le_refl _) _).alloc (by rw [s1]; omega) _).alloc (by rw [s2]; omega) _).alloc (by rw [s3]; omega) _
  · exact (((Bk.new W _ _).alloc _).alloc _).alloc _
  · have := Bk.new (W.alloc (.cells #[.int .u64 r, .int .i64 n] 24)) #[.string v] 9
    rw [s1] at this
    exact (this.alloc _).alloc _
  · have := Bk.new ((W.alloc (.cells #[.int .u64 r, .int .i64 n] 24)).alloc (.cells #[.string v] 9)) #[.bool false] 4
    rw [s2] at this
    exact this.alloc _
  · have := Bk.new (((W.alloc (.cells #[.int .u64 r, .int .i64 n] 24)).alloc (.cells #[.string v] 9)).alloc (.cells #[.bool false] 4)) #[.int .i64 0] 30
    rw [s3] at this
    exact this
theorem AccFr.bel (h : AccFr W w r n v) (hb : Below w.heap.size w w') : AccFr W w' r n v :=
  ⟨h.below.trans (hb.mono (by have := h.sz; omega)), Nat.le_trans h.sz hb.size, h.b0.bel hb, h.b1.bel hb, h.b2.bel hb, h.b3.bel hb⟩
theorem AccFr.start (hb : Below (W4 W r n v).heap.size (W4 W r n v) w) : AccFr W w r n v := W4_facts.bel hb
theorem AccFr.fresh (h : AccFr W w r n v) : Below W.heap.size W w := h.below
theorem AccFr.cells (h : AccFr W w r n v) : w.cell? ⟨W.heap.size, 0, none⟩ = some (.int .u64 r) ∧ w.cell? ⟨W.heap.size, 1, none⟩ = some (.int .i64 n) ∧ w.cell? ⟨W.heap.size + 1, 0, none⟩ = some (.string v) ∧ w.cell? ⟨W.heap.size + 1 + 1, 0, none⟩ = some (.bool false) ∧
    w.cell? ⟨W.heap.size + 1 + 1 + 1, 0, none⟩ = some (.int .i64 0) ∧ w.frozen? ⟨W.heap.size + 1 + 1, 0, none⟩ = false ∧ w.frozen? ⟨W.heap.size + 1 + 1 + 1, 0, none⟩ = false ∧ W.heap.size + 4 ≤ w.heap.size :=
  ⟨h.b0.cell 0, h.b0.cell 1, h.b1.cell 0, h.b2.cell 0, h.b3.cell 0, h.b2.free 0, h.b3.free 0, h.sz⟩
theorem AccFr.res (h : AccFr W w r n v) (x y : Value) : (w.setCell ⟨W.heap.size + 1 + 1, 0, none⟩ x).cell? ⟨W.heap.size + 1 + 1, 0, none⟩ = some x ∧ ((w.setCell ⟨W.heap.size + 1 + 1, 0, none⟩ x).setCell ⟨W.heap.size + 1 + 1 + 1, 0, none⟩ y).cell? ⟨W.heap.size + 1 + 1 + 1, 0, none⟩ = some y := by
  have h1 := h.b2.set 0 x
  have h2 : Bk (w.setCell ⟨W.heap.size + 1 + 1, 0, none⟩ x) (W.heap.size + 1 + 1 + 1) #[.int .i64 0] 30 := (Below.heap_setCell w ⟨W.heap.size + 1 + 1, 0, none⟩ x (W.heap.size + 1 + 1 + 1) (by dsimp only; omega)).trans h.b3
  have h3 := h2.set 0 y
  exact ⟨by simpa using h1.cell 0, by simpa using h3.cell 0⟩
/-- Two results are written: nothing that was there has turned. -/
theorem AccFr.out (h : AccFr W w r n v) (x y : Value) : Below W.heap.size W ((w.setCell ⟨W.heap.size + 1 + 1, 0, none⟩ x).setCell ⟨W.heap.size + 1 + 1 + 1, 0, none⟩ y) :=
  (h.below.setCell (p := ⟨W.heap.size + 1 + 1, 0, none⟩) (by dsimp only; omega) x).setCell (p := ⟨W.heap.size + 1 + 1 + 1, 0, none⟩) (by dsimp only; omega) y
end
theorem named_split {r n : Int} (h : namedB r n = true) : mayB r n = true ∧ (¬ r = 0 ∨ ¬ n = 0) := by
  unfold namedB at h
  simp at h
  refine ⟨h.1, ?_⟩
  have := h.2
  omega
section
variable {W : World} {g mb : Nat} {L : Lrn} (x r n : Int) (v : ByteArray)
set_option maxRecDepth 100000
set_option maxHeartbeats 1600000
theorem lacc_nil : Calls Try.prog 45 #[.pointer none, .int .i64 x, .agg #[.int .u64 r, .int .i64 n], .string v] W fun e W' => e = .returned (.tuple #[.bool false, .int .i64 1]) ∧ Below W.heap.size W W' := by
  go_enter Try.func45, Try.ntmps45
  go_wp2_with fail
  exact bodyPost_ret (v := .tuple #[.bool false, .int .i64 1]) (by simp [results, Try.results45, go_sem]) rfl ⟨rfl, ((((Below.refl _ _).alloc (Nat.le_refl _) _).alloc (by simp) _).alloc (by simp; omega) _).alloc (by simp; omega) _⟩
theorem lacc_arg (h : LrnAt W g mb L) (hb : ¬ (0 ≤ x ∧ x < L.n ∧ namedB r n = true)) : Calls Try.prog 45 #[.pointer (some ⟨g, 0, none⟩), .int .i64 x, .agg #[.int .u64 r, .int .i64 n], .string v] W fun e W' =>
    e = .returned (.tuple #[.bool false, .int .i64 2]) ∧ LrnAt W' g mb L ∧ Below W.heap.size W W' := by
  have X := Lib.hid h
  by_cases h0 : 0 ≤ x
  · by_cases h1 : x < L.n
    · by_cases hm : mayB r n = true
      · have hz0 : r = 0 ∧ n = 0 := by
          by_cases hr : r = 0 ∧ n = 0
          · exact hr
          · exact absurd ⟨h0, h1, by unfold namedB; rw [hm]; simp; omega⟩ hb
        obtain ⟨rfl, rfl⟩ := hz0
        clear h hb
        obtain ⟨d0, d1, d2, d3, dz⟩ := (X.out.keep (W4_facts (W := W) (r := 0) (n := 0) (v := v)).below).cells
        unfold W4 at d0 d1 d2 d3 dz
        go_enter Try.func45, Try.ntmps45
        go_wp2_with fail
        refine (may_any 0 0 _).mono ?_
        rintro e w1 ⟨rfl, hb1⟩
        have A1 := Lib.hid (AccFr.start (W := W) (r := 0) (n := 0) (v := v) hb1)
        have L1 := Lib.hid (X.out.keep A1.out.fresh)
        clear hb1 d0 d1 d2 d3 dz
        obtain ⟨c0, c1, c2, c3, c4, f3, f4, hz1⟩ := A1.out.cells
        obtain ⟨g0, g1, g2, g3, hz⟩ := L1.out.cells
        rw [hm]
        clear hm
        go_wp2_with fail
        have ER := A1.out.res (.bool false) (.int .i64 2)
        exact bodyPost_ret (v := .tuple #[.bool false, .int .i64 2]) (by simp [results, Try.results45, go_sem, ER.1, ER.2]) rfl ⟨rfl, X.out.keep (A1.out.out _ _), A1.out.out _ _⟩
      · have hm' : mayB r n = false := by simpa using hm
        clear h hb hm
        obtain ⟨d0, d1, d2, d3, dz⟩ := (X.out.keep (W4_facts (W := W) (r := r) (n := n) (v := v)).below).cells
        unfold W4 at d0 d1 d2 d3 dz
        go_enter Try.func45, Try.ntmps45
        go_wp2_with fail
        refine (may_any r n _).mono ?_
        rintro e w1 ⟨rfl, hb1⟩
        have A1 := Lib.hid (AccFr.start (W := W) (r := r) (n := n) (v := v) hb1)
        have L1 := Lib.hid (X.out.keep A1.out.fresh)
        clear hb1 d0 d1 d2 d3 dz
        obtain ⟨c0, c1, c2, c3, c4, f3, f4, hz1⟩ := A1.out.cells
        obtain ⟨g0, g1, g2, g3, hz⟩ := L1.out.cells
        rw [hm']
        clear hm'
        go_wp2_with fail
        have ER := A1.out.res (.bool false) (.int .i64 2)
        exact bodyPost_ret (v := .tuple #[.bool false, .int .i64 2]) (by simp [results, Try.results45, go_sem, ER.1, ER.2]) rfl ⟨rfl, X.out.keep (A1.out.out _ _), A1.out.out _ _⟩
    · clear h hb
      obtain ⟨d0, d1, d2, d3, dz⟩ := (X.out.keep (W4_facts (W := W) (r := r) (n := n) (v := v)).below).cells
      unfold W4 at d0 d1 d2 d3 dz
      have A1 := Lib.hid (W4_facts (W := W) (r := r) (n := n) (v := v))
      go_enter Try.func45, Try.ntmps45
      go_wp2_with fail
      refine bodyPost_ret (v := .tuple #[.bool false, .int .i64 2]) (by simp [results, Try.results45, go_sem]) rfl ⟨rfl, X.out.keep ?_, ?_⟩ <;> exact ((((Below.refl _ _).alloc (Nat.le_refl _) _).alloc (by simp) _).alloc (by simp; omega) _).alloc (by simp; omega) _
  · clear h hb
    have A1 := Lib.hid (W4_facts (W := W) (r := r) (n := n) (v := v))
    go_enter Try.func45, Try.ntmps45
    go_wp2_with fail
    refine bodyPost_ret (v := .tuple #[.bool false, .int .i64 2]) (by simp [results, Try.results45, go_sem]) rfl ⟨rfl, X.out.keep ?_, ?_⟩ <;> exact ((((Below.refl _ _).alloc (Nat.le_refl _) _).alloc (by simp) _).alloc (by simp; omega) _).alloc (by simp; omega) _
theorem lacc_long (h : LrnAt W g mb L) (h0 : 0 ≤ x) (h1 : x < L.n) (hn : namedB r n = true) (hl : (8192 : Int) < (v.size : Int)) : Calls Try.prog 45 #[.pointer (some ⟨g, 0, none⟩), .int .i64 x, .agg #[.int .u64 r, .int .i64 n], .string v] W fun e W' =>
    e = .returned (.tuple #[.bool false, .int .i64 4]) ∧ LrnAt W' g mb L ∧ Below W.heap.size W W' := by
  have X := Lib.hid h
  obtain ⟨hm, hz0⟩ := named_split hn
  clear h hn
  obtain ⟨d0, d1, d2, d3, dz⟩ := (X.out.keep (W4_facts (W := W) (r := r) (n := n) (v := v)).below).cells
  unfold W4 at d0 d1 d2 d3 dz
  go_enter Try.func45, Try.ntmps45
  go_wp2_with fail
  refine (may_any r n _).mono ?_
  rintro e w1 ⟨rfl, hb1⟩
  have A1 := Lib.hid (AccFr.start (W := W) (r := r) (n := n) (v := v) hb1)
  have L1 := Lib.hid (X.out.keep A1.out.fresh)
  clear hb1 d0 d1 d2 d3 dz
  obtain ⟨c0, c1, c2, c3, c4, f3, f4, hz1⟩ := A1.out.cells
  obtain ⟨g0, g1, g2, g3, hz⟩ := L1.out.cells
  rw [hm]
  clear hm
  rcases hz0 with hz0 | hz0
  · go_wp2_with fail
    have ER := A1.out.res (.bool false) (.int .i64 4)
    exact bodyPost_ret (v := .tuple #[.bool false, .int .i64 4]) (by simp [results, Try.results45, go_sem, ER.1, ER.2]) rfl ⟨rfl, X.out.keep (A1.out.out _ _), A1.out.out _ _⟩
  · by_cases hr0 : r = 0
    · subst hr0
      go_wp2_with fail
      have ER := A1.out.res (.bool false) (.int .i64 4)
      exact bodyPost_ret (v := .tuple #[.bool false, .int .i64 4]) (by simp [results, Try.results45, go_sem, ER.1, ER.2]) rfl ⟨rfl, X.out.keep (A1.out.out _ _), A1.out.out _ _⟩
    · go_wp2_with fail
      have ER := A1.out.res (.bool false) (.int .i64 4)
      exact bodyPost_ret (v := .tuple #[.bool false, .int .i64 4]) (by simp [results, Try.results45, go_sem, ER.1, ER.2]) rfl ⟨rfl, X.out.keep (A1.out.out _ _), A1.out.out _ _⟩
theorem lacc_known (h : LrnAt W g mb L) (h0 : 0 ≤ x) (h1 : x < L.n) (hn : namedB r n = true) (hl : ¬ (8192 : Int) < (v.size : Int)) (hk : L.known = true) : Calls Try.prog 45 #[.pointer (some ⟨g, 0, none⟩), .int .i64 x, .agg #[.int .u64 r, .int .i64 n], .string v] W fun e W' =>
    e = .returned (.tuple #[.bool false, .int .i64 0]) ∧ LrnAt W' g mb L ∧ Below W.heap.size W W' := by
  have X := Lib.hid h
  obtain ⟨hm, hz0⟩ := named_split hn
  clear h hn
  obtain ⟨d0, d1, d2, d3, dz⟩ := (X.out.keep (W4_facts (W := W) (r := r) (n := n) (v := v)).below).cells
  unfold W4 at d0 d1 d2 d3 dz
  go_enter Try.func45, Try.ntmps45
  go_wp2_with fail
  refine (may_any r n _).mono ?_
  rintro e w1 ⟨rfl, hb1⟩
  have A1 := Lib.hid (AccFr.start (W := W) (r := r) (n := n) (v := v) hb1)
  have L1 := Lib.hid (X.out.keep A1.out.fresh)
  clear hb1 d0 d1 d2 d3 dz
  obtain ⟨c0, c1, c2, c3, c4, f3, f4, hz1⟩ := A1.out.cells
  obtain ⟨g0, g1, g2, g3, hz⟩ := L1.out.cells
  rw [hm]
  rw [hk] at g2
  clear hm hk
  rcases hz0 with hz0 | hz0
  · go_wp2_with fail
    have ER := A1.out.res (.bool false) (.int .i64 0)
    exact bodyPost_ret (v := .tuple #[.bool false, .int .i64 0]) (by simp [results, Try.results45, go_sem, ER.1, ER.2]) rfl ⟨rfl, X.out.keep (A1.out.out _ _), A1.out.out _ _⟩
  · by_cases hr0 : r = 0
    · subst hr0
      go_wp2_with fail
      have ER := A1.out.res (.bool false) (.int .i64 0)
      exact bodyPost_ret (v := .tuple #[.bool false, .int .i64 0]) (by simp [results, Try.results45, go_sem, ER.1, ER.2]) rfl ⟨rfl, X.out.keep (A1.out.out _ _), A1.out.out _ _⟩
    · go_wp2_with fail
      have ER := A1.out.res (.bool false) (.int .i64 0)
      exact bodyPost_ret (v := .tuple #[.bool false, .int .i64 0]) (by simp [results, Try.results45, go_sem, ER.1, ER.2]) rfl ⟨rfl, X.out.keep (A1.out.out _ _), A1.out.out _ _⟩
end

end Go.Proofs.Ytlgljcfkoakogaa
