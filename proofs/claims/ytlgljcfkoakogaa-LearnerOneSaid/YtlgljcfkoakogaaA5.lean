import Derived.Test.YtlgljcfkoakogaaA4
namespace Go.Proofs.Ytlgljcfkoakogaa
open Go.RowKit
set_option linter.unusedSimpArgs false
set_option linter.unusedVariables false

set_option maxHeartbeats 6400000 in
theorem refNext_any (r n k : Int) (w : World) (hr : 0 ≤ r) (hmay : mayB r n = true) (hk : 0 ≤ k ∧ k < 7) :
    Calls Try.prog 23 #[.agg #[.int .u64 r, .int .i64 n], .int .i64 k] w (NxPost r n k w) := by
  have hbd : r ≤ 281474976710656 := by simp [mayB] at hmay; omega
  go_enter Try.func23, Try.ntmps23
  by_cases hr1 : 1 ≤ r
  · have hmx : mxU r = r := by unfold mxU; rw [if_neg (by omega)]
    clear hr
    go_wp2_with fail
    have HB1 : Below w.heap.size w ((w.alloc (.cells #[.int .u64 r, .int .i64 n] 24)).alloc (.cells #[.int .u64 0, .int .i64 0] 24)) := ((Below.refl _ _).alloc (Nat.le_refl _) _).alloc (by simp) _
    refine (above_any _ _ _ _ _).mono ?_; rintro e w2 ⟨rfl, hb2⟩
    obtain ⟨hc2, hf2⟩ := bcell hb2; (try simp only [World.size_alloc, World.size_setCell] at hc2 hf2)
    have z2_0 : w.heap.size < w2.heap.size := (by have := hb2.size; (try simp at this); omega)
    have z2_1 : w.heap.size + 1 < w2.heap.size := (by have := hb2.size; (try simp at this); omega)
    have z2_2 : w.heap.size + 1 + 1 < w2.heap.size := (by have := hb2.size; (try simp at this); omega)
    have HB2 : Below w.heap.size w w2 := ((HB1.alloc (by simp; omega) _).trans (hb2.mono (by simp; omega)))
    cases hle : aboveB r k r n
    · have hx : nxR r n k = r + 1 := by unfold nxR; rw [hmx, if_pos (by rw [cmpB_above, hle])]
      have HX := nx_good hmay hk hx
      have HH := Lib.hid HX
      clear HX hx hmx
      go_wp2_with fail
      all_goals (try (exfalso; omega))
      refine (refMay_any _ _ _).mono ?_; rintro e w3 ⟨rfl, hb3⟩
      obtain ⟨hc3, hf3⟩ := bcell hb3; (try simp only [World.size_alloc, World.size_setCell] at hc3 hf3)
      have z3_0 : w.heap.size < w3.heap.size := (by have := hb3.size; (try simp at this); omega)
      have z3_1 : w.heap.size + 1 < w3.heap.size := (by have := hb3.size; (try simp at this); omega)
      have z3_2 : w.heap.size + 1 + 1 < w3.heap.size := (by have := hb3.size; (try simp at this); omega)
      have HB3 : Below w.heap.size w w3 := ((HB2.setCell (by simp; omega) _).trans (hb3.mono (by (try simp); omega)))
      cases hm3 : mayB (r + 1) k
      · have HN := Lib.hid (HH.out.trans (if_neg (by simp [hm3])))
        clear HH
        go_wp2_with fail
        refine bodyPost_ret (v := .tuple #[.agg #[.int .u64 0, .int .i64 0], .int .i64 9]) (by simp [results, Try.results23, go_sem, hc2, hc3, z2_0, z2_1, z2_2, z3_0, z3_1, z3_2]) rfl (NxPost.mk HN.out ?_)
        exact (HB3.setCell (by simp) _).setCell (by simp) _
      · have HN := Lib.hid (HH.out.trans (if_pos (by simp [hm3])))
        clear HH
        go_wp2_with fail
        refine bodyPost_ret (v := .tuple #[.agg #[.int .u64 (r + 1), .int .i64 k], .int .i64 0]) (by simp [results, Try.results23, go_sem, hc2, hc3, z2_0, z2_1, z2_2, z3_0, z3_1, z3_2]) rfl (NxPost.mk HN.out ?_)
        exact (HB3.setCell (by simp) _).setCell (by simp) _
    · have hx : nxR r n k = r := by unfold nxR; rw [hmx, if_neg (by rw [cmpB_above, hle]; simp)]
      have HX := nx_good hmay hk hx
      have HH := Lib.hid HX
      clear HX hx hmx
      go_wp2_with fail
      all_goals (try (exfalso; omega))
      refine (refMay_any _ _ _).mono ?_; rintro e w3 ⟨rfl, hb3⟩
      obtain ⟨hc3, hf3⟩ := bcell hb3; (try simp only [World.size_alloc, World.size_setCell] at hc3 hf3)
      have z3_0 : w.heap.size < w3.heap.size := (by have := hb3.size; (try simp at this); omega)
      have z3_1 : w.heap.size + 1 < w3.heap.size := (by have := hb3.size; (try simp at this); omega)
      have z3_2 : w.heap.size + 1 + 1 < w3.heap.size := (by have := hb3.size; (try simp at this); omega)
      have HB3 : Below w.heap.size w w3 := (HB2.trans (hb3.mono (by (try simp); omega)))
      cases hm3 : mayB (r) k
      · have HN := Lib.hid (HH.out.trans (if_neg (by simp [hm3])))
        clear HH
        go_wp2_with fail
        refine bodyPost_ret (v := .tuple #[.agg #[.int .u64 0, .int .i64 0], .int .i64 9]) (by simp [results, Try.results23, go_sem, hc2, hc3, z2_0, z2_1, z2_2, z3_0, z3_1, z3_2]) rfl (NxPost.mk HN.out ?_)
        exact (HB3.setCell (by simp) _).setCell (by simp) _
      · have HN := Lib.hid (HH.out.trans (if_pos (by simp [hm3])))
        clear HH
        go_wp2_with fail
        refine bodyPost_ret (v := .tuple #[.agg #[.int .u64 (r), .int .i64 k], .int .i64 0]) (by simp [results, Try.results23, go_sem, hc2, hc3, z2_0, z2_1, z2_2, z3_0, z3_1, z3_2]) rfl (NxPost.mk HN.out ?_)
        exact (HB3.setCell (by simp) _).setCell (by simp) _
  · have hmx : mxU r = 1 := by unfold mxU; split <;> omega
    go_wp2_with fail
    all_goals (try (exfalso; omega))
    have HB1 : Below w.heap.size w ((w.alloc (.cells #[.int .u64 r, .int .i64 n] 24)).alloc (.cells #[.int .u64 0, .int .i64 0] 24)) := ((Below.refl _ _).alloc (Nat.le_refl _) _).alloc (by simp) _
    refine (above_any _ _ _ _ _).mono ?_; rintro e w2 ⟨rfl, hb2⟩
    obtain ⟨hc2, hf2⟩ := bcell hb2; (try simp only [World.size_alloc, World.size_setCell] at hc2 hf2)
    have z2_0 : w.heap.size < w2.heap.size := (by have := hb2.size; (try simp at this); omega)
    have z2_1 : w.heap.size + 1 < w2.heap.size := (by have := hb2.size; (try simp at this); omega)
    have z2_2 : w.heap.size + 1 + 1 < w2.heap.size := (by have := hb2.size; (try simp at this); omega)
    have HB2 : Below w.heap.size w w2 := ((HB1.alloc (by simp; omega) _).trans (hb2.mono (by simp; omega)))
    cases hle : aboveB 1 k r n
    · have hx : nxR r n k = 1 + 1 := by unfold nxR; rw [hmx, if_pos (by rw [cmpB_above, hle])]
      have HX := nx_good hmay hk hx
      have HH := Lib.hid HX
      clear HX hx hmx
      go_wp2_with fail
      all_goals (try (exfalso; omega))
      rw [show ((1 : Int) + 1) = 2 from rfl] at HH
      refine (refMay_any _ _ _).mono ?_; rintro e w3 ⟨rfl, hb3⟩
      obtain ⟨hc3, hf3⟩ := bcell hb3; (try simp only [World.size_alloc, World.size_setCell] at hc3 hf3)
      have z3_0 : w.heap.size < w3.heap.size := (by have := hb3.size; (try simp at this); omega)
      have z3_1 : w.heap.size + 1 < w3.heap.size := (by have := hb3.size; (try simp at this); omega)
      have z3_2 : w.heap.size + 1 + 1 < w3.heap.size := (by have := hb3.size; (try simp at this); omega)
      have HB3 : Below w.heap.size w w3 := ((HB2.setCell (by simp; omega) _).trans (hb3.mono (by (try simp); omega)))
      cases hm3 : mayB (2) k
      · have HN := Lib.hid (HH.out.trans (if_neg (by simp [hm3])))
        clear HH
        go_wp2_with fail
        refine bodyPost_ret (v := .tuple #[.agg #[.int .u64 0, .int .i64 0], .int .i64 9]) (by simp [results, Try.results23, go_sem, hc2, hc3, z2_0, z2_1, z2_2, z3_0, z3_1, z3_2]) rfl (NxPost.mk HN.out ?_)
        exact (HB3.setCell (by simp) _).setCell (by simp) _
      · have HN := Lib.hid (HH.out.trans (if_pos (by simp [hm3])))
        clear HH
        go_wp2_with fail
        refine bodyPost_ret (v := .tuple #[.agg #[.int .u64 (2), .int .i64 k], .int .i64 0]) (by simp [results, Try.results23, go_sem, hc2, hc3, z2_0, z2_1, z2_2, z3_0, z3_1, z3_2]) rfl (NxPost.mk HN.out ?_)
        exact (HB3.setCell (by simp) _).setCell (by simp) _
    · have hx : nxR r n k = 1 := by unfold nxR; rw [hmx, if_neg (by rw [cmpB_above, hle]; simp)]
      have HX := nx_good hmay hk hx
      have HH := Lib.hid HX
      clear HX hx hmx
      go_wp2_with fail
      all_goals (try (exfalso; omega))
      refine (refMay_any _ _ _).mono ?_; rintro e w3 ⟨rfl, hb3⟩
      obtain ⟨hc3, hf3⟩ := bcell hb3; (try simp only [World.size_alloc, World.size_setCell] at hc3 hf3)
      have z3_0 : w.heap.size < w3.heap.size := (by have := hb3.size; (try simp at this); omega)
      have z3_1 : w.heap.size + 1 < w3.heap.size := (by have := hb3.size; (try simp at this); omega)
      have z3_2 : w.heap.size + 1 + 1 < w3.heap.size := (by have := hb3.size; (try simp at this); omega)
      have HB3 : Below w.heap.size w w3 := (HB2.trans (hb3.mono (by (try simp); omega)))
      cases hm3 : mayB (1) k
      · have HN := Lib.hid (HH.out.trans (if_neg (by simp [hm3])))
        clear HH
        go_wp2_with fail
        refine bodyPost_ret (v := .tuple #[.agg #[.int .u64 0, .int .i64 0], .int .i64 9]) (by simp [results, Try.results23, go_sem, hc2, hc3, z2_0, z2_1, z2_2, z3_0, z3_1, z3_2]) rfl (NxPost.mk HN.out ?_)
        exact (HB3.setCell (by simp) _).setCell (by simp) _
      · have HN := Lib.hid (HH.out.trans (if_pos (by simp [hm3])))
        clear HH
        go_wp2_with fail
        refine bodyPost_ret (v := .tuple #[.agg #[.int .u64 (1), .int .i64 k], .int .i64 0]) (by simp [results, Try.results23, go_sem, hc2, hc3, z2_0, z2_1, z2_2, z3_0, z3_1, z3_2]) rfl (NxPost.mk HN.out ?_)
        exact (HB3.setCell (by simp) _).setCell (by simp) _

end Go.Proofs.Ytlgljcfkoakogaa
