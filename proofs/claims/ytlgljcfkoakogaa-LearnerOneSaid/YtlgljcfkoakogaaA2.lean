import Derived.Test.YtlgljcfkoakogaaA1
namespace Go.Proofs.Ytlgljcfkoakogaa
open Go.RowKit
set_option linter.unusedSimpArgs false
set_option linter.unusedVariables false

set_option maxHeartbeats 6400000 in
theorem next_any (r n k : Int) (w : World) (hr : 0 ≤ r) :
    Calls Try.prog 22 #[.agg #[.int .u64 r, .int .i64 n], .int .i64 k] w (NxPost r n k w) := by
  go_enter Try.func22, Try.ntmps22
  go_wp2_with fail
  refine (may_any _ _ _).mono ?_; rintro e w1 ⟨rfl, hb1⟩
  obtain ⟨hc1, hf1⟩ := bcell hb1; (try simp only [World.size_alloc, World.size_setCell] at hc1 hf1)
  have z1_0 : w.heap.size < w1.heap.size := (by have := hb1.size; (try simp at this); omega)
  have z1_1 : w.heap.size + 1 < w1.heap.size := (by have := hb1.size; (try simp at this); omega)
  have HB1 : Below w.heap.size w w1 := ((((Below.refl _ _).alloc (Nat.le_refl _) _).alloc (by simp) _).trans (hb1.mono (by simp; omega)))
  go_wp2_with fail
  · refine bodyPost_ret (v := .tuple #[.agg #[.int .u64 0, .int .i64 0], .int .i64 2]) (by simp [results, Try.results22, go_sem, hc1, z1_0, z1_1]) rfl (NxPost.mk (nx_bad2 (by assumption)) ?_)
    exact (HB1.setCell (by simp) _).setCell (by simp) _
  · have hr1 : 1 < r := by assumption
    have hmx : mxU r = r := by unfold mxU; rw [if_neg (by omega)]
    clear hr
    have hmay : mayB r n = true := by assumption
    have hk : 0 ≤ k ∧ k < 7 := by assumption
    have hbd : r ≤ 281474976710656 := by simp [mayB] at hmay; omega
    refine (cmp_any _ _ _ _ _).mono ?_; rintro e w2 ⟨rfl, hb2⟩
    obtain ⟨hc2, hf2⟩ := bcell hb2; (try simp only [World.size_alloc, World.size_setCell] at hc2 hf2)
    have z2_0 : w.heap.size < w2.heap.size := (by have := hb2.size; (try simp at this); omega)
    have z2_1 : w.heap.size + 1 < w2.heap.size := (by have := hb2.size; (try simp at this); omega)
    have z2_2 : w1.heap.size < w2.heap.size := (by have := hb2.size; (try simp at this); omega)
    have HB2 : Below w.heap.size w w2 := ((HB1.alloc (by omega) _).trans (hb2.mono (by simp; omega)))
    by_cases hle : cmpB r k r n ≤ 0
    · have hx : nxR r n k = r + 1 := by unfold nxR; rw [hmx, if_pos hle]
      have HX := nx_good hmay hk hx
      have HH := Lib.hid HX
      clear HX hx hmx
      go_wp2_with fail
      all_goals (try (exfalso; omega))
      refine (may_any _ _ _).mono ?_; rintro e w3 ⟨rfl, hb3⟩
      obtain ⟨hc3, hf3⟩ := bcell hb3; (try simp only [World.size_alloc, World.size_setCell] at hc3 hf3)
      have z3_0 : w.heap.size < w3.heap.size := (by have := hb3.size; (try simp at this); omega)
      have z3_1 : w.heap.size + 1 < w3.heap.size := (by have := hb3.size; (try simp at this); omega)
      have z3_2 : w1.heap.size < w3.heap.size := (by have := hb3.size; (try simp at this); omega)
      have HB3 : Below w.heap.size w w3 := ((HB2.setCell (by simp; omega) _).trans (hb3.mono (by (try simp); omega)))
      cases hm3 : mayB (r + 1) k
      · have HN := Lib.hid (HH.out.trans (if_neg (by simp [hm3])))
        clear HH
        go_wp2_with fail
        refine bodyPost_ret (v := .tuple #[.agg #[.int .u64 0, .int .i64 0], .int .i64 9]) (by simp [results, Try.results22, go_sem, hc1, hc2, hc3, z1_0, z1_1, z2_0, z2_1, z2_2, z3_0, z3_1, z3_2]) rfl (NxPost.mk HN.out ?_)
        exact (HB3.setCell (by simp) _).setCell (by simp) _
      · have HN := Lib.hid (HH.out.trans (if_pos (by simp [hm3])))
        clear HH
        go_wp2_with fail
        refine bodyPost_ret (v := .tuple #[.agg #[.int .u64 (r + 1), .int .i64 k], .int .i64 0]) (by simp [results, Try.results22, go_sem, hc1, hc2, hc3, z1_0, z1_1, z2_0, z2_1, z2_2, z3_0, z3_1, z3_2]) rfl (NxPost.mk HN.out ?_)
        exact (HB3.setCell (by simp) _).setCell (by simp) _
    · have hx : nxR r n k = r := by unfold nxR; rw [hmx, if_neg hle]
      have HX := nx_good hmay hk hx
      have HH := Lib.hid HX
      clear HX hx hmx
      go_wp2_with fail
      all_goals (try (exfalso; omega))
      refine (may_any _ _ _).mono ?_; rintro e w3 ⟨rfl, hb3⟩
      obtain ⟨hc3, hf3⟩ := bcell hb3; (try simp only [World.size_alloc, World.size_setCell] at hc3 hf3)
      have z3_0 : w.heap.size < w3.heap.size := (by have := hb3.size; (try simp at this); omega)
      have z3_1 : w.heap.size + 1 < w3.heap.size := (by have := hb3.size; (try simp at this); omega)
      have z3_2 : w1.heap.size < w3.heap.size := (by have := hb3.size; (try simp at this); omega)
      have HB3 : Below w.heap.size w w3 := (HB2.trans (hb3.mono (by (try simp); omega)))
      cases hm3 : mayB (r) k
      · have HN := Lib.hid (HH.out.trans (if_neg (by simp [hm3])))
        clear HH
        go_wp2_with fail
        refine bodyPost_ret (v := .tuple #[.agg #[.int .u64 0, .int .i64 0], .int .i64 9]) (by simp [results, Try.results22, go_sem, hc1, hc2, hc3, z1_0, z1_1, z2_0, z2_1, z2_2, z3_0, z3_1, z3_2]) rfl (NxPost.mk HN.out ?_)
        exact (HB3.setCell (by simp) _).setCell (by simp) _
      · have HN := Lib.hid (HH.out.trans (if_pos (by simp [hm3])))
        clear HH
        go_wp2_with fail
        refine bodyPost_ret (v := .tuple #[.agg #[.int .u64 (r), .int .i64 k], .int .i64 0]) (by simp [results, Try.results22, go_sem, hc1, hc2, hc3, z1_0, z1_1, z2_0, z2_1, z2_2, z3_0, z3_1, z3_2]) rfl (NxPost.mk HN.out ?_)
        exact (HB3.setCell (by simp) _).setCell (by simp) _
  · have hr1 : r ≤ 1 := by assumption
    have hmx : mxU r = 1 := by unfold mxU; split <;> omega
    have hmay : mayB r n = true := by assumption
    have hk : 0 ≤ k ∧ k < 7 := by assumption
    have hbd : r ≤ 281474976710656 := by simp [mayB] at hmay; omega
    refine (cmp_any _ _ _ _ _).mono ?_; rintro e w2 ⟨rfl, hb2⟩
    obtain ⟨hc2, hf2⟩ := bcell hb2; (try simp only [World.size_alloc, World.size_setCell] at hc2 hf2)
    have z2_0 : w.heap.size < w2.heap.size := (by have := hb2.size; (try simp at this); omega)
    have z2_1 : w.heap.size + 1 < w2.heap.size := (by have := hb2.size; (try simp at this); omega)
    have z2_2 : w1.heap.size < w2.heap.size := (by have := hb2.size; (try simp at this); omega)
    have HB2 : Below w.heap.size w w2 := ((HB1.alloc (by omega) _).trans (hb2.mono (by simp; omega)))
    by_cases hle : cmpB 1 k r n ≤ 0
    · have hx : nxR r n k = 1 + 1 := by unfold nxR; rw [hmx, if_pos hle]
      have HX := nx_good hmay hk hx
      have HH := Lib.hid HX
      clear HX hx hmx
      go_wp2_with fail
      all_goals (try (exfalso; omega))
      rw [show ((1 : Int) + 1) = 2 from rfl] at HH
      refine (may_any _ _ _).mono ?_; rintro e w3 ⟨rfl, hb3⟩
      obtain ⟨hc3, hf3⟩ := bcell hb3; (try simp only [World.size_alloc, World.size_setCell] at hc3 hf3)
      have z3_0 : w.heap.size < w3.heap.size := (by have := hb3.size; (try simp at this); omega)
      have z3_1 : w.heap.size + 1 < w3.heap.size := (by have := hb3.size; (try simp at this); omega)
      have z3_2 : w1.heap.size < w3.heap.size := (by have := hb3.size; (try simp at this); omega)
      have HB3 : Below w.heap.size w w3 := ((HB2.setCell (by simp; omega) _).trans (hb3.mono (by (try simp); omega)))
      cases hm3 : mayB (2) k
      · have HN := Lib.hid (HH.out.trans (if_neg (by simp [hm3])))
        clear HH
        go_wp2_with fail
        refine bodyPost_ret (v := .tuple #[.agg #[.int .u64 0, .int .i64 0], .int .i64 9]) (by simp [results, Try.results22, go_sem, hc1, hc2, hc3, z1_0, z1_1, z2_0, z2_1, z2_2, z3_0, z3_1, z3_2]) rfl (NxPost.mk HN.out ?_)
        exact (HB3.setCell (by simp) _).setCell (by simp) _
      · have HN := Lib.hid (HH.out.trans (if_pos (by simp [hm3])))
        clear HH
        go_wp2_with fail
        refine bodyPost_ret (v := .tuple #[.agg #[.int .u64 (2), .int .i64 k], .int .i64 0]) (by simp [results, Try.results22, go_sem, hc1, hc2, hc3, z1_0, z1_1, z2_0, z2_1, z2_2, z3_0, z3_1, z3_2]) rfl (NxPost.mk HN.out ?_)
        exact (HB3.setCell (by simp) _).setCell (by simp) _
    · have hx : nxR r n k = 1 := by unfold nxR; rw [hmx, if_neg hle]
      have HX := nx_good hmay hk hx
      have HH := Lib.hid HX
      clear HX hx hmx
      go_wp2_with fail
      all_goals (try (exfalso; omega))
      refine (may_any _ _ _).mono ?_; rintro e w3 ⟨rfl, hb3⟩
      obtain ⟨hc3, hf3⟩ := bcell hb3; (try simp only [World.size_alloc, World.size_setCell] at hc3 hf3)
      have z3_0 : w.heap.size < w3.heap.size := (by have := hb3.size; (try simp at this); omega)
      have z3_1 : w.heap.size + 1 < w3.heap.size := (by have := hb3.size; (try simp at this); omega)
      have z3_2 : w1.heap.size < w3.heap.size := (by have := hb3.size; (try simp at this); omega)
      have HB3 : Below w.heap.size w w3 := (HB2.trans (hb3.mono (by (try simp); omega)))
      cases hm3 : mayB (1) k
      · have HN := Lib.hid (HH.out.trans (if_neg (by simp [hm3])))
        clear HH
        go_wp2_with fail
        refine bodyPost_ret (v := .tuple #[.agg #[.int .u64 0, .int .i64 0], .int .i64 9]) (by simp [results, Try.results22, go_sem, hc1, hc2, hc3, z1_0, z1_1, z2_0, z2_1, z2_2, z3_0, z3_1, z3_2]) rfl (NxPost.mk HN.out ?_)
        exact (HB3.setCell (by simp) _).setCell (by simp) _
      · have HN := Lib.hid (HH.out.trans (if_pos (by simp [hm3])))
        clear HH
        go_wp2_with fail
        refine bodyPost_ret (v := .tuple #[.agg #[.int .u64 (1), .int .i64 k], .int .i64 0]) (by simp [results, Try.results22, go_sem, hc1, hc2, hc3, z1_0, z1_1, z2_0, z2_1, z2_2, z3_0, z3_1, z3_2]) rfl (NxPost.mk HN.out ?_)
        exact (HB3.setCell (by simp) _).setCell (by simp) _
  · refine bodyPost_ret (v := .tuple #[.agg #[.int .u64 0, .int .i64 0], .int .i64 2]) (by simp [results, Try.results22, go_sem, hc1, z1_0, z1_1]) rfl (NxPost.mk (nx_bad2 (.inl (by assumption))) ?_)
    exact (HB1.setCell (by simp) _).setCell (by simp) _
  · refine bodyPost_ret (v := .tuple #[.agg #[.int .u64 0, .int .i64 0], .int .i64 2]) (by simp [results, Try.results22, go_sem, hc1, z1_0, z1_1]) rfl (NxPost.mk (nx_bad (by assumption)) ?_)
    exact (HB1.setCell (by simp) _).setCell (by simp) _

end Go.Proofs.Ytlgljcfkoakogaa
