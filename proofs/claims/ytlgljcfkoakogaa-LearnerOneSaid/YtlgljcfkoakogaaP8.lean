import Derived.Test.YtlgljcfkoakogaaP7
namespace Go.Proofs.Ytlgljcfkoakogaa
open Go.RowKit
set_option linter.unusedSimpArgs false
set_option linter.unusedVariables false


open Go.Maps Go.Shelf
theorem PropNext.low {B : Nat} {w W W' : World} {g pm am : Nat} {s s' : Value} {P' : Prp} (h : PropNext W W' g pm am s s' P') (hb : Below B w W) (hg : B ≤ g) (hp : B ≤ pm) (ha : B ≤ am) (hs : ∀ k, s.ownBlock = some k → B ≤ k) (hB : B ≤ W.heap.size) :
    Below B w W' ∧ (∀ k, s'.ownBlock = some k → B ≤ k) := by
  refine ⟨h.kept.below hb (fun k hk => ?_) hB, fun k hk => ?_⟩
  · rcases hk with rfl | rfl | rfl | hk
    · exact hg
    · exact hp
    · exact ha
    · exact hs k hk
  · rcases h.grow k hk with h1 | h1
    · exact hs k h1
    · omega
def q0 : Prp := prpNew 3 0 3 ⟨#[120]⟩
def q1 : Prp := (pProm q0 0 Vt.zero).2
def q2 : Prp := (pProm q1 1 ⟨true, 1, 1, ⟨#[97]⟩⟩).2
def q3 : Prp := (pAcc q2 1).2
def q4 : Prp := (pAcc q3 2).2
theorem q_ans : (pProm q0 0 Vt.zero).1 = false ∧ (pProm q1 1 ⟨true, 1, 1, ⟨#[97]⟩⟩).1 = true ∧ pValue q2 = (⟨#[97]⟩, true) ∧ (pAcc q2 1).1 = false ∧ (pAcc q3 2).1 = true ∧ pChosen q4 = (⟨#[97]⟩, true) ∧ q1.nn = 1 ∧ q2.nn = 2 ∧ q3.nn = 3 ∧ q4.nn = 4 := by decide +kernel
theorem q_may : pMayB 3 0 Vt.zero = true ∧ pMayB 3 0 ⟨true, 1, 1, ⟨#[97]⟩⟩ = true ∧ mayB 3 0 = true ∧ namedB 3 0 = true ∧ enB 3 2 = true := by decide +kernel
theorem q_len : q2.order.length = 2 ∧ q3.order.length = 2 := by decide +kernel
set_option maxRecDepth 100000
set_option maxHeartbeats 3200000
theorem works13_any (W : World) : Calls Try.prog 53 #[] W fun e W' => e = .returned (.bool true) ∧ Below W.heap.size W W' := by
  have hb0 := (Below.refl W.heap.size W).alloc (Nat.le_refl _) (.cells #[.int .u64 3, .int .i64 0] 24)
  have B0 := Bk.new W #[.int .u64 3, .int .i64 0] 24
  go_enter Try.func53, Try.ntmps53
  go_wp2_with fail
  refine (pnew_good 3 0 3 ⟨#[120]⟩ _ q_may.2.2.2.1 (by decide) (by decide) (by decide)).mono ?_
  rintro e w0 ⟨g, pm, am, rfl, X0, hg', hp', ha', hb1⟩
  have zz : (W.alloc (.cells #[.int .u64 3, .int .i64 0] 24)).heap.size = W.heap.size + 1 := World.size_alloc _ _
  rw [zz] at hg' hp' ha'
  have HB0 := hb0.trans (hb1.mono (by rw [zz]; omega))
  have B1 := B0.bel hb1
  have M0 : PropAt w0 g pm am (.slice none 0 0) q0 := X0
  have hs0 : ∀ k, (Value.slice none 0 0).ownBlock = some k → W.heap.size + 1 ≤ k := fun k hk => by cases hk
  have sz0 := B1.lt
  obtain ⟨m0, m1⟩ : w0.cell? ⟨W.heap.size, 0, none⟩ = some (.int .u64 3) ∧ w0.cell? ⟨W.heap.size, 1, none⟩ = some (.int .i64 0) := ⟨B1.cell 0, B1.cell 1⟩
  clear hb0 B0 hb1 X0 zz
  go_wp2_with fail
  refine (ppromise_any 0 Vt.zero M0 (by decide) (by decide) q_may.2.2.1 q_may.1 (by decide)).mono ?_
  rintro e w1 ⟨rfl, s1, N1⟩
  rw [q_ans.1]
  have M1 : PropAt w1 g pm am s1 q1 := N1.at'
  have L1 := N1.low (Below.refl (W.heap.size + 1) w0) hg' hp' ha' hs0 sz0
  have sz1 := L1.1.size
  have B2 := B1.below L1.1 (by omega)
  have HB1 := HB0.trans (L1.1.mono (by omega))
  have hs1 := L1.2
  clear m0 m1 N1 M0 L1 B1 HB0 hs0
  obtain ⟨m0, m1⟩ : w1.cell? ⟨W.heap.size, 0, none⟩ = some (.int .u64 3) ∧ w1.cell? ⟨W.heap.size, 1, none⟩ = some (.int .i64 0) := ⟨B2.cell 0, B2.cell 1⟩
  go_wp2_with fail
  refine (ppromise_any 1 ⟨true, 1, 1, ⟨#[97]⟩⟩ M1 (by decide) (by decide) q_may.2.2.1 q_may.2.1 (by rw [q_ans.2.2.2.2.2.2.1]; decide)).mono ?_
  rintro e w2 ⟨rfl, s2, N2⟩
  rw [q_ans.2.1]
  have M2 : PropAt w2 g pm am s2 q2 := N2.at'
  have L2 := N2.low (Below.refl (W.heap.size + 1) w1) hg' hp' ha' hs1 (by omega)
  have sz2 := L2.1.size
  have B3 := B2.below L2.1 (by omega)
  have HB2 := HB1.trans (L2.1.mono (by omega))
  have hs2 := L2.2
  clear m0 m1 N2 M1 L2 B2 HB1 hs1
  go_wp2_with fail
  refine (pvalue_any M2 (by rw [q_ans.2.2.2.2.2.2.2.1]; decide)).mono ?_
  rintro e w3 ⟨rfl, hb3⟩
  rw [q_ans.2.2.1]
  have M3 := M2.keep hb3
  have sz3 := hb3.size
  have B4 := B3.bel hb3
  have HB3 := HB2.trans (hb3.mono (by omega))
  clear hb3 M2 B3 HB2
  obtain ⟨m0, m1⟩ : w3.cell? ⟨W.heap.size, 0, none⟩ = some (.int .u64 3) ∧ w3.cell? ⟨W.heap.size, 1, none⟩ = some (.int .i64 0) := ⟨B4.cell 0, B4.cell 1⟩
  go_wp2_with fail
  refine (paccepted_any 1 M3 (by decide) (by decide) q_may.2.2.1 (by rw [q_len.1]; exact q_may.2.2.2.2) (by rw [q_ans.2.2.2.2.2.2.2.1]; decide)).mono ?_
  rintro e w4 ⟨rfl, N4⟩
  rw [q_ans.2.2.2.1]
  have M4 : PropAt w4 g pm am s2 q3 := N4.at'
  have L4 := N4.low (Below.refl (W.heap.size + 1) w3) hg' hp' ha' hs2 (by omega)
  have sz4 := L4.1.size
  have B5 := B4.below L4.1 (by omega)
  have HB4 := HB3.trans (L4.1.mono (by omega))
  clear m0 m1 N4 M3 L4 B4 HB3
  obtain ⟨m0, m1⟩ : w4.cell? ⟨W.heap.size, 0, none⟩ = some (.int .u64 3) ∧ w4.cell? ⟨W.heap.size, 1, none⟩ = some (.int .i64 0) := ⟨B5.cell 0, B5.cell 1⟩
  go_wp2_with fail
  refine (paccepted_any 2 M4 (by decide) (by decide) q_may.2.2.1 (by rw [q_len.2]; exact q_may.2.2.2.2) (by rw [q_ans.2.2.2.2.2.2.2.2.1]; decide)).mono ?_
  rintro e w5 ⟨rfl, N5⟩
  rw [q_ans.2.2.2.2.1]
  have M5 : PropAt w5 g pm am s2 q4 := N5.at'
  have L5 := N5.low (Below.refl (W.heap.size + 1) w4) hg' hp' ha' hs2 (by omega)
  have sz5 := L5.1.size
  have B6 := B5.below L5.1 (by omega)
  have HB5 := HB4.trans (L5.1.mono (by omega))
  clear m0 m1 N5 M4 L5 B5 HB4
  go_wp2_with fail
  refine (pchosen_any M5 (by rw [q_ans.2.2.2.2.2.2.2.2.2]; decide)).mono ?_
  rintro e w6 ⟨rfl, hb6⟩
  rw [q_ans.2.2.2.2.2.1]
  have M6 := Lib.hid (M5.keep hb6)
  have B7 := Lib.hid (B6.bel hb6)
  have HB6 := Lib.hid (HB5.trans (hb6.mono (by omega)))
  clear hb6 M5 B6 HB5
  go_upto_region 11 with fail
  have HS := Lib.hid (show ∀ w', Bel w6 w' → w'.cell? ⟨W.heap.size, 0, none⟩ = some (.int .u64 3) ∧ w'.cell? ⟨W.heap.size, 1, none⟩ = some (.int .i64 0) from fun w' hw => ⟨(B7.out.bel hw).cell 0, (B7.out.bel hw).cell 1⟩)
  have KB := Lib.hid (show ∀ w', Bel w6 w' → Calls Try.prog 52 #[.pointer (some ⟨g, 0, none⟩)] w' fun e w'' => e = .returned (.agg #[.int .u64 3, .int .i64 0]) ∧ Below w'.heap.size w' w'' from fun w' hw => pballot_any (M6.out.keep hw))
  refine wp_qw (by kernel_rfl) ?_
  (refine qv1 4 (v := ?_) (by rfl) (by rfl) (fun ev hc hf h0 W hW => ?_) ?_; rotate_left; (focus (obtain ⟨e0, e1⟩ := HS.out W hW; first | (go_simp; done) | (go_simp; with_reducible rfl))); rotate_left; simp only [Act.put, List.setIfInBounds_toArray, List.set_cons_zero, List.set_cons_succ])
  (refine qv1 65 (v := ?_) (by rfl) (by rfl) (fun ev hc hf h0 W hW => ?_) ?_; rotate_left; (focus (obtain ⟨e0, e1⟩ := HS.out W hW; first | (go_simp; done) | (go_simp; with_reducible rfl))); rotate_left; simp only [Act.put, List.setIfInBounds_toArray, List.set_cons_zero, List.set_cons_succ])
  (refine qv1 66 (v := ?_) (by rfl) (by rfl) (fun ev hc hf h0 W hW => ?_) ?_; rotate_left; (focus (obtain ⟨e0, e1⟩ := HS.out W hW; first | (go_simp; done) | (go_simp; with_reducible rfl))); rotate_left; simp only [Act.put, List.setIfInBounds_toArray, List.set_cons_zero, List.set_cons_succ])
  first
    | (refine qskip (by rfl) ?_; simp only [Act.put, List.setIfInBounds_toArray, List.set_cons_zero, List.set_cons_succ])
    | (refine qv1 5 (v := ?_) (by rfl) (by rfl) (fun ev hc hf h0 W hW => ?_) ?_; rotate_left; (focus (obtain ⟨e0, e1⟩ := HS.out W hW; first | (go_simp; done) | (go_simp; with_reducible rfl))); rotate_left; simp only [Act.put, List.setIfInBounds_toArray, List.set_cons_zero, List.set_cons_succ])
  first
    | (refine qskip (by rfl) ?_; simp only [Act.put, List.setIfInBounds_toArray, List.set_cons_zero, List.set_cons_succ])
    | (refine qv1 68 (v := ?_) (by rfl) (by rfl) (fun ev hc hf h0 W hW => ?_) ?_; rotate_left; (focus (obtain ⟨e0, e1⟩ := HS.out W hW; first | (go_simp; done) | (go_simp; with_reducible rfl))); rotate_left; simp only [Act.put, List.setIfInBounds_toArray, List.set_cons_zero, List.set_cons_succ])
  (refine qv2 67 69 (v := ?_) (by rfl) (by rfl) (by rfl) (fun ev hc hf h0 h1 W hW => ?_) ?_; rotate_left; (focus (obtain ⟨e0, e1⟩ := HS.out W hW; first | (go_simp; done) | (go_simp; with_reducible rfl))); rotate_left; simp only [Act.put, List.setIfInBounds_toArray, List.set_cons_zero, List.set_cons_succ])
  (refine qv1 70 (v := ?_) (by rfl) (by rfl) (fun ev hc hf h0 W hW => ?_) ?_; rotate_left; (focus (obtain ⟨e0, e1⟩ := HS.out W hW; first | (go_simp; done) | (go_simp; with_reducible rfl))); rotate_left; simp only [Act.put, List.setIfInBounds_toArray, List.set_cons_zero, List.set_cons_succ])
  first
    | (refine qskip (by rfl) ?_; simp only [Act.put, List.setIfInBounds_toArray, List.set_cons_zero, List.set_cons_succ])
    | (refine qv1 6 (v := ?_) (by rfl) (by rfl) (fun ev hc hf h0 W hW => ?_) ?_; rotate_left; (focus (obtain ⟨e0, e1⟩ := HS.out W hW; first | (go_simp; done) | (go_simp; with_reducible rfl))); rotate_left; simp only [Act.put, List.setIfInBounds_toArray, List.set_cons_zero, List.set_cons_succ])
  (refine qv2 71 72 (v := ?_) (by rfl) (by rfl) (by rfl) (fun ev hc hf h0 h1 W hW => ?_) ?_; rotate_left; (focus (obtain ⟨e0, e1⟩ := HS.out W hW; first | (go_simp; done) | (go_simp; with_reducible rfl))); rotate_left; simp only [Act.put, List.setIfInBounds_toArray, List.set_cons_zero, List.set_cons_succ])
  (refine qv1 73 (v := ?_) (by rfl) (by rfl) (fun ev hc hf h0 W hW => ?_) ?_; rotate_left; (focus (obtain ⟨e0, e1⟩ := HS.out W hW; first | (go_simp; done) | (go_simp; with_reducible rfl))); rotate_left; simp only [Act.put, List.setIfInBounds_toArray, List.set_cons_zero, List.set_cons_succ])
  first
    | (refine qskip (by rfl) ?_; simp only [Act.put, List.setIfInBounds_toArray, List.set_cons_zero, List.set_cons_succ])
    | (refine qv1 7 (v := ?_) (by rfl) (by rfl) (fun ev hc hf h0 W hW => ?_) ?_; rotate_left; (focus (obtain ⟨e0, e1⟩ := HS.out W hW; first | (go_simp; done) | (go_simp; with_reducible rfl))); rotate_left; simp only [Act.put, List.setIfInBounds_toArray, List.set_cons_zero, List.set_cons_succ])
  first
    | (refine qskip (by rfl) ?_; simp only [Act.put, List.setIfInBounds_toArray, List.set_cons_zero, List.set_cons_succ])
    | (refine qv1 75 (v := ?_) (by rfl) (by rfl) (fun ev hc hf h0 W hW => ?_) ?_; rotate_left; (focus (obtain ⟨e0, e1⟩ := HS.out W hW; first | (go_simp; done) | (go_simp; with_reducible rfl))); rotate_left; simp only [Act.put, List.setIfInBounds_toArray, List.set_cons_zero, List.set_cons_succ])
  (refine qv2 74 76 (v := ?_) (by rfl) (by rfl) (by rfl) (fun ev hc hf h0 h1 W hW => ?_) ?_; rotate_left; (focus (obtain ⟨e0, e1⟩ := HS.out W hW; first | (go_simp; done) | (go_simp; with_reducible rfl))); rotate_left; simp only [Act.put, List.setIfInBounds_toArray, List.set_cons_zero, List.set_cons_succ])
  (refine qv1 77 (v := ?_) (by rfl) (by rfl) (fun ev hc hf h0 W hW => ?_) ?_; rotate_left; (focus (obtain ⟨e0, e1⟩ := HS.out W hW; first | (go_simp; done) | (go_simp; with_reducible rfl))); rotate_left; simp only [Act.put, List.setIfInBounds_toArray, List.set_cons_zero, List.set_cons_succ])
  first
    | (refine qskip (by rfl) ?_; simp only [Act.put, List.setIfInBounds_toArray, List.set_cons_zero, List.set_cons_succ])
    | (refine qv1 8 (v := ?_) (by rfl) (by rfl) (fun ev hc hf h0 W hW => ?_) ?_; rotate_left; (focus (obtain ⟨e0, e1⟩ := HS.out W hW; first | (go_simp; done) | (go_simp; with_reducible rfl))); rotate_left; simp only [Act.put, List.setIfInBounds_toArray, List.set_cons_zero, List.set_cons_succ])
  first
    | (refine qskip (by rfl) ?_; simp only [Act.put, List.setIfInBounds_toArray, List.set_cons_zero, List.set_cons_succ])
    | (refine qv1 79 (v := ?_) (by rfl) (by rfl) (fun ev hc hf h0 W hW => ?_) ?_; rotate_left; (focus (obtain ⟨e0, e1⟩ := HS.out W hW; first | (go_simp; done) | (go_simp; with_reducible rfl))); rotate_left; simp only [Act.put, List.setIfInBounds_toArray, List.set_cons_zero, List.set_cons_succ])
  (refine qv2 78 80 (v := ?_) (by rfl) (by rfl) (by rfl) (fun ev hc hf h0 h1 W hW => ?_) ?_; rotate_left; (focus (obtain ⟨e0, e1⟩ := HS.out W hW; first | (go_simp; done) | (go_simp; with_reducible rfl))); rotate_left; simp only [Act.put, List.setIfInBounds_toArray, List.set_cons_zero, List.set_cons_succ])
  (refine qv1 81 (v := ?_) (by rfl) (by rfl) (fun ev hc hf h0 W hW => ?_) ?_; rotate_left; (focus (obtain ⟨e0, e1⟩ := HS.out W hW; first | (go_simp; done) | (go_simp; with_reducible rfl))); rotate_left; simp only [Act.put, List.setIfInBounds_toArray, List.set_cons_zero, List.set_cons_succ])
  first
    | (refine qskip (by rfl) ?_; simp only [Act.put, List.setIfInBounds_toArray, List.set_cons_zero, List.set_cons_succ])
    | (refine qv1 9 (v := ?_) (by rfl) (by rfl) (fun ev hc hf h0 W hW => ?_) ?_; rotate_left; (focus (obtain ⟨e0, e1⟩ := HS.out W hW; first | (go_simp; done) | (go_simp; with_reducible rfl))); rotate_left; simp only [Act.put, List.setIfInBounds_toArray, List.set_cons_zero, List.set_cons_succ])
  (refine qv2 82 83 (v := ?_) (by rfl) (by rfl) (by rfl) (fun ev hc hf h0 h1 W hW => ?_) ?_; rotate_left; (focus (obtain ⟨e0, e1⟩ := HS.out W hW; first | (go_simp; done) | (go_simp; with_reducible rfl))); rotate_left; simp only [Act.put, List.setIfInBounds_toArray, List.set_cons_zero, List.set_cons_succ])
  (refine qv1 84 (v := ?_) (by rfl) (by rfl) (fun ev hc hf h0 W hW => ?_) ?_; rotate_left; (focus (obtain ⟨e0, e1⟩ := HS.out W hW; first | (go_simp; done) | (go_simp; with_reducible rfl))); rotate_left; simp only [Act.put, List.setIfInBounds_toArray, List.set_cons_zero, List.set_cons_succ])
  first
    | (refine qskip (by rfl) ?_; simp only [Act.put, List.setIfInBounds_toArray, List.set_cons_zero, List.set_cons_succ])
    | (refine qv1 10 (v := ?_) (by rfl) (by rfl) (fun ev hc hf h0 W hW => ?_) ?_; rotate_left; (focus (obtain ⟨e0, e1⟩ := HS.out W hW; first | (go_simp; done) | (go_simp; with_reducible rfl))); rotate_left; simp only [Act.put, List.setIfInBounds_toArray, List.set_cons_zero, List.set_cons_succ])
  first
    | (refine qskip (by rfl) ?_; simp only [Act.put, List.setIfInBounds_toArray, List.set_cons_zero, List.set_cons_succ])
    | (refine qv1 86 (v := ?_) (by rfl) (by rfl) (fun ev hc hf h0 W hW => ?_) ?_; rotate_left; (focus (obtain ⟨e0, e1⟩ := HS.out W hW; first | (go_simp; done) | (go_simp; with_reducible rfl))); rotate_left; simp only [Act.put, List.setIfInBounds_toArray, List.set_cons_zero, List.set_cons_succ])
  (refine qv2 85 87 (v := ?_) (by rfl) (by rfl) (by rfl) (fun ev hc hf h0 h1 W hW => ?_) ?_; rotate_left; (focus (obtain ⟨e0, e1⟩ := HS.out W hW; first | (go_simp; done) | (go_simp; with_reducible rfl))); rotate_left; simp only [Act.put, List.setIfInBounds_toArray, List.set_cons_zero, List.set_cons_succ])
  (refine qv1 88 (v := ?_) (by rfl) (by rfl) (fun ev hc hf h0 W hW => ?_) ?_; rotate_left; (focus (obtain ⟨e0, e1⟩ := HS.out W hW; first | (go_simp; done) | (go_simp; with_reducible rfl))); rotate_left; simp only [Act.put, List.setIfInBounds_toArray, List.set_cons_zero, List.set_cons_succ])
  first
    | (refine qskip (by rfl) ?_; simp only [Act.put, List.setIfInBounds_toArray, List.set_cons_zero, List.set_cons_succ])
    | (refine qv1 11 (v := ?_) (by rfl) (by rfl) (fun ev hc hf h0 W hW => ?_) ?_; rotate_left; (focus (obtain ⟨e0, e1⟩ := HS.out W hW; first | (go_simp; done) | (go_simp; with_reducible rfl))); rotate_left; simp only [Act.put, List.setIfInBounds_toArray, List.set_cons_zero, List.set_cons_succ])
  first
    | (refine qskip (by rfl) ?_; simp only [Act.put, List.setIfInBounds_toArray, List.set_cons_zero, List.set_cons_succ])
    | (refine qv1 90 (v := ?_) (by rfl) (by rfl) (fun ev hc hf h0 W hW => ?_) ?_; rotate_left; (focus (obtain ⟨e0, e1⟩ := HS.out W hW; first | (go_simp; done) | (go_simp; with_reducible rfl))); rotate_left; simp only [Act.put, List.setIfInBounds_toArray, List.set_cons_zero, List.set_cons_succ])
  (refine qv2 89 91 (v := ?_) (by rfl) (by rfl) (by rfl) (fun ev hc hf h0 h1 W hW => ?_) ?_; rotate_left; (focus (obtain ⟨e0, e1⟩ := HS.out W hW; first | (go_simp; done) | (go_simp; with_reducible rfl))); rotate_left; simp only [Act.put, List.setIfInBounds_toArray, List.set_cons_zero, List.set_cons_succ])
  (refine qv1 92 (v := ?_) (by rfl) (by rfl) (fun ev hc hf h0 W hW => ?_) ?_; rotate_left; (focus (obtain ⟨e0, e1⟩ := HS.out W hW; first | (go_simp; done) | (go_simp; with_reducible rfl))); rotate_left; simp only [Act.put, List.setIfInBounds_toArray, List.set_cons_zero, List.set_cons_succ])
  first
    | (refine qskip (by rfl) ?_; simp only [Act.put, List.setIfInBounds_toArray, List.set_cons_zero, List.set_cons_succ])
    | (refine qv1 12 (v := ?_) (by rfl) (by rfl) (fun ev hc hf h0 W hW => ?_) ?_; rotate_left; (focus (obtain ⟨e0, e1⟩ := HS.out W hW; first | (go_simp; done) | (go_simp; with_reducible rfl))); rotate_left; simp only [Act.put, List.setIfInBounds_toArray, List.set_cons_zero, List.set_cons_succ])
  (refine qv2 93 94 (v := ?_) (by rfl) (by rfl) (by rfl) (fun ev hc hf h0 h1 W hW => ?_) ?_; rotate_left; (focus (obtain ⟨e0, e1⟩ := HS.out W hW; first | (go_simp; done) | (go_simp; with_reducible rfl))); rotate_left; simp only [Act.put, List.setIfInBounds_toArray, List.set_cons_zero, List.set_cons_succ])
  (refine qv1 95 (v := ?_) (by rfl) (by rfl) (fun ev hc hf h0 W hW => ?_) ?_; rotate_left; (focus (obtain ⟨e0, e1⟩ := HS.out W hW; first | (go_simp; done) | (go_simp; with_reducible rfl))); rotate_left; simp only [Act.put, List.setIfInBounds_toArray, List.set_cons_zero, List.set_cons_succ])
  first
    | (refine qskip (by rfl) ?_; simp only [Act.put, List.setIfInBounds_toArray, List.set_cons_zero, List.set_cons_succ])
    | (refine qv1 13 (v := ?_) (by rfl) (by rfl) (fun ev hc hf h0 W hW => ?_) ?_; rotate_left; (focus (obtain ⟨e0, e1⟩ := HS.out W hW; first | (go_simp; done) | (go_simp; with_reducible rfl))); rotate_left; simp only [Act.put, List.setIfInBounds_toArray, List.set_cons_zero, List.set_cons_succ])
  first
    | (refine qskip (by rfl) ?_; simp only [Act.put, List.setIfInBounds_toArray, List.set_cons_zero, List.set_cons_succ])
    | (refine qv1 97 (v := ?_) (by rfl) (by rfl) (fun ev hc hf h0 W hW => ?_) ?_; rotate_left; (focus (obtain ⟨e0, e1⟩ := HS.out W hW; first | (go_simp; done) | (go_simp; with_reducible rfl))); rotate_left; simp only [Act.put, List.setIfInBounds_toArray, List.set_cons_zero, List.set_cons_succ])
  (refine qv2 96 98 (v := ?_) (by rfl) (by rfl) (by rfl) (fun ev hc hf h0 h1 W hW => ?_) ?_; rotate_left; (focus (obtain ⟨e0, e1⟩ := HS.out W hW; first | (go_simp; done) | (go_simp; with_reducible rfl))); rotate_left; simp only [Act.put, List.setIfInBounds_toArray, List.set_cons_zero, List.set_cons_succ])
  (refine qv1 99 (v := ?_) (by rfl) (by rfl) (fun ev hc hf h0 W hW => ?_) ?_; rotate_left; (focus (obtain ⟨e0, e1⟩ := HS.out W hW; first | (go_simp; done) | (go_simp; with_reducible rfl))); rotate_left; simp only [Act.put, List.setIfInBounds_toArray, List.set_cons_zero, List.set_cons_succ])
  first
    | (refine qskip (by rfl) ?_; simp only [Act.put, List.setIfInBounds_toArray, List.set_cons_zero, List.set_cons_succ])
    | (refine qv1 14 (v := ?_) (by rfl) (by rfl) (fun ev hc hf h0 W hW => ?_) ?_; rotate_left; (focus (obtain ⟨e0, e1⟩ := HS.out W hW; first | (go_simp; done) | (go_simp; with_reducible rfl))); rotate_left; simp only [Act.put, List.setIfInBounds_toArray, List.set_cons_zero, List.set_cons_succ])
  first
    | (refine qskip (by rfl) ?_; simp only [Act.put, List.setIfInBounds_toArray, List.set_cons_zero, List.set_cons_succ])
    | (refine qv1 101 (v := ?_) (by rfl) (by rfl) (fun ev hc hf h0 W hW => ?_) ?_; rotate_left; (focus (obtain ⟨e0, e1⟩ := HS.out W hW; first | (go_simp; done) | (go_simp; with_reducible rfl))); rotate_left; simp only [Act.put, List.setIfInBounds_toArray, List.set_cons_zero, List.set_cons_succ])
  (refine qv2 100 102 (v := ?_) (by rfl) (by rfl) (by rfl) (fun ev hc hf h0 h1 W hW => ?_) ?_; rotate_left; (focus (obtain ⟨e0, e1⟩ := HS.out W hW; first | (go_simp; done) | (go_simp; with_reducible rfl))); rotate_left; simp only [Act.put, List.setIfInBounds_toArray, List.set_cons_zero, List.set_cons_succ])
  (refine qv1 103 (v := ?_) (by rfl) (by rfl) (fun ev hc hf h0 W hW => ?_) ?_; rotate_left; (focus (obtain ⟨e0, e1⟩ := HS.out W hW; first | (go_simp; done) | (go_simp; with_reducible rfl))); rotate_left; simp only [Act.put, List.setIfInBounds_toArray, List.set_cons_zero, List.set_cons_succ])
  first
    | (refine qskip (by rfl) ?_; simp only [Act.put, List.setIfInBounds_toArray, List.set_cons_zero, List.set_cons_succ])
    | (refine qv1 15 (v := ?_) (by rfl) (by rfl) (fun ev hc hf h0 W hW => ?_) ?_; rotate_left; (focus (obtain ⟨e0, e1⟩ := HS.out W hW; first | (go_simp; done) | (go_simp; with_reducible rfl))); rotate_left; simp only [Act.put, List.setIfInBounds_toArray, List.set_cons_zero, List.set_cons_succ])
  (refine qv2 104 105 (v := ?_) (by rfl) (by rfl) (by rfl) (fun ev hc hf h0 h1 W hW => ?_) ?_; rotate_left; (focus (obtain ⟨e0, e1⟩ := HS.out W hW; first | (go_simp; done) | (go_simp; with_reducible rfl))); rotate_left; simp only [Act.put, List.setIfInBounds_toArray, List.set_cons_zero, List.set_cons_succ])
  (refine qv1 106 (v := ?_) (by rfl) (by rfl) (fun ev hc hf h0 W hW => ?_) ?_; rotate_left; (focus (obtain ⟨e0, e1⟩ := HS.out W hW; first | (go_simp; done) | (go_simp; with_reducible rfl))); rotate_left; simp only [Act.put, List.setIfInBounds_toArray, List.set_cons_zero, List.set_cons_succ])
  first
    | (refine qskip (by rfl) ?_; simp only [Act.put, List.setIfInBounds_toArray, List.set_cons_zero, List.set_cons_succ])
    | (refine qv1 2 (v := ?_) (by rfl) (by rfl) (fun ev hc hf h0 W hW => ?_) ?_; rotate_left; (focus (obtain ⟨e0, e1⟩ := HS.out W hW; first | (go_simp; done) | (go_simp; with_reducible rfl))); rotate_left; simp only [Act.put, List.setIfInBounds_toArray, List.set_cons_zero, List.set_cons_succ])
  first
    | (refine qskip (by rfl) ?_; simp only [Act.put, List.setIfInBounds_toArray, List.set_cons_zero, List.set_cons_succ])
    | (refine qc1 108 _ _ _ (by rfl) (by rfl) (fun ev hc hf h0 W hW => ?_) (fun W hW => q_calls hW (KB.out W hW)) ?_; (focus (obtain ⟨e0, e1⟩ := HS.out W hW; go_simp; done)); simp only [Act.put, List.setIfInBounds_toArray, List.set_cons_zero, List.set_cons_succ])
  first
    | (refine qskip (by rfl) ?_; simp only [Act.put, List.setIfInBounds_toArray, List.set_cons_zero, List.set_cons_succ])
    | (refine qv1 1 (v := ?_) (by rfl) (by rfl) (fun ev hc hf h0 W hW => ?_) ?_; rotate_left; (focus (obtain ⟨e0, e1⟩ := HS.out W hW; first | (go_simp; done) | (go_simp; with_reducible rfl))); rotate_left; simp only [Act.put, List.setIfInBounds_toArray, List.set_cons_zero, List.set_cons_succ])
  first
    | (refine qskip (by rfl) ?_; simp only [Act.put, List.setIfInBounds_toArray, List.set_cons_zero, List.set_cons_succ])
    | (refine qv2 109 110 (v := ?_) (by rfl) (by rfl) (by rfl) (fun ev hc hf h0 h1 W hW => ?_) ?_; rotate_left; (focus (obtain ⟨e0, e1⟩ := HS.out W hW; first | (go_simp; done) | (go_simp; with_reducible rfl))); rotate_left; simp only [Act.put, List.setIfInBounds_toArray, List.set_cons_zero, List.set_cons_succ])
  (refine qv2 107 111 (v := ?_) (by rfl) (by rfl) (by rfl) (fun ev hc hf h0 h1 W hW => ?_) ?_; rotate_left; (focus (obtain ⟨e0, e1⟩ := HS.out W hW; first | (go_simp; done) | (go_simp; with_reducible rfl))); rotate_left; simp only [Act.put, List.setIfInBounds_toArray, List.set_cons_zero, List.set_cons_succ])
  (refine qv1 112 (v := ?_) (by rfl) (by rfl) (fun ev hc hf h0 W hW => ?_) ?_; rotate_left; (focus (obtain ⟨e0, e1⟩ := HS.out W hW; first | (go_simp; done) | (go_simp; with_reducible rfl))); rotate_left; simp only [Act.put, List.setIfInBounds_toArray, List.set_cons_zero, List.set_cons_succ])
  refine qnil ?_
  intro w9 hW9
  go_wp2_with fail
  go_ret
  exact ⟨rfl, HB6.out.trans (hW9.mono HB6.out.size)⟩
theorem pnone_walk (x r n : Int) (W : World) (_ : (Lit.int .i64 x).wf = true) (_ : (Lit.int .u64 r).wf = true) (_ : (Lit.int .i64 n).wf = true) : Calls Try.prog 14 #[.int .i64 x, .agg #[.int .u64 r, .int .i64 n]] W fun e W' => e = .returned (.bool true) ∧ Below W.heap.size W W' := by
  have hb0 := (Below.refl W.heap.size W).alloc (Nat.le_refl _) (.cells #[.int .u64 r, .int .i64 n] 24)
  have B0 := Bk.new W #[.int .u64 r, .int .i64 n] 24
  go_enter Try.func14, Try.ntmps14
  go_wp2_with fail
  refine (ppromise_nil x r n Vt.zero _).mono ?_
  rintro e w1 ⟨rfl, hb1⟩
  have B1 := B0.bel hb1
  have HB1 := hb0.trans (hb1.mono hb0.size)
  obtain ⟨m0, m1⟩ : w1.cell? ⟨W.heap.size, 0, none⟩ = some (.int .u64 r) ∧ w1.cell? ⟨W.heap.size, 1, none⟩ = some (.int .i64 n) := ⟨B1.cell 0, B1.cell 1⟩
  clear B0 hb0 hb1
  go_wp2_with fail
  refine (paccepted_nil x r n _).mono ?_
  rintro e w2 ⟨rfl, hb2⟩
  have HB2 := HB1.trans (hb2.mono HB1.size)
  clear m0 m1 hb2 HB1 B1
  go_wp2_with fail
  refine (pvalue_nil _).mono ?_
  rintro e w3 ⟨rfl, rfl⟩
  go_wp2_with fail
  refine (pchosen_nil _).mono ?_
  rintro e w3 ⟨rfl, rfl⟩
  have HB2 := Lib.hid HB2
  have K1 := Lib.hid (fun (W : World) => pballot_nil W)
  have K2 := Lib.hid (fun (W : World) => works13_any W)
  have hq := eq_same 0 0
  go_wp2_with (with_reducible refine wpList_qw 40 rfl ?_)
  (refine qv1 39 (v := ?_) (by rfl) (by rfl) (fun ev hc hf h0 W hW => ?_) ?_; rotate_left; (focus (first | (go_simp; done) | (go_simp; with_reducible rfl))); rotate_left; simp only [Act.put, List.setIfInBounds_toArray, List.set_cons_zero, List.set_cons_succ])
  (refine qv1 40 (v := ?_) (by rfl) (by rfl) (fun ev hc hf h0 W hW => ?_) ?_; rotate_left; (focus (first | (go_simp; done) | (go_simp; with_reducible rfl))); rotate_left; simp only [Act.put, List.setIfInBounds_toArray, List.set_cons_zero, List.set_cons_succ])
  first
    | (refine qskip (by rfl) ?_; simp only [Act.put, List.setIfInBounds_toArray, List.set_cons_zero, List.set_cons_succ])
    | (refine qv1 7 (v := ?_) (by rfl) (by rfl) (fun ev hc hf h0 W hW => ?_) ?_; rotate_left; (focus (first | (go_simp; done) | (go_simp; with_reducible rfl))); rotate_left; simp only [Act.put, List.setIfInBounds_toArray, List.set_cons_zero, List.set_cons_succ])
  first
    | (refine qskip (by rfl) ?_; simp only [Act.put, List.setIfInBounds_toArray, List.set_cons_zero, List.set_cons_succ])
    | (refine qv1 42 (v := ?_) (by rfl) (by rfl) (fun ev hc hf h0 W hW => ?_) ?_; rotate_left; (focus (first | (go_simp; done) | (go_simp; with_reducible rfl))); rotate_left; simp only [Act.put, List.setIfInBounds_toArray, List.set_cons_zero, List.set_cons_succ])
  (refine qv2 41 43 (v := ?_) (by rfl) (by rfl) (by rfl) (fun ev hc hf h0 h1 W hW => ?_) ?_; rotate_left; (focus (first | (go_simp; done) | (go_simp; with_reducible rfl))); rotate_left; simp only [Act.put, List.setIfInBounds_toArray, List.set_cons_zero, List.set_cons_succ])
  (refine qv1 44 (v := ?_) (by rfl) (by rfl) (fun ev hc hf h0 W hW => ?_) ?_; rotate_left; (focus (first | (go_simp; done) | (go_simp; with_reducible rfl))); rotate_left; simp only [Act.put, List.setIfInBounds_toArray, List.set_cons_zero, List.set_cons_succ])
  first
    | (refine qskip (by rfl) ?_; simp only [Act.put, List.setIfInBounds_toArray, List.set_cons_zero, List.set_cons_succ])
    | (refine qv1 8 (v := ?_) (by rfl) (by rfl) (fun ev hc hf h0 W hW => ?_) ?_; rotate_left; (focus (first | (go_simp; done) | (go_simp; with_reducible rfl))); rotate_left; simp only [Act.put, List.setIfInBounds_toArray, List.set_cons_zero, List.set_cons_succ])
  first
    | (refine qskip (by rfl) ?_; simp only [Act.put, List.setIfInBounds_toArray, List.set_cons_zero, List.set_cons_succ])
    | (refine qv1 46 (v := ?_) (by rfl) (by rfl) (fun ev hc hf h0 W hW => ?_) ?_; rotate_left; (focus (first | (go_simp; done) | (go_simp; with_reducible rfl))); rotate_left; simp only [Act.put, List.setIfInBounds_toArray, List.set_cons_zero, List.set_cons_succ])
  (refine qv2 45 47 (v := ?_) (by rfl) (by rfl) (by rfl) (fun ev hc hf h0 h1 W hW => ?_) ?_; rotate_left; (focus (first | (go_simp; done) | (go_simp; with_reducible rfl))); rotate_left; simp only [Act.put, List.setIfInBounds_toArray, List.set_cons_zero, List.set_cons_succ])
  (refine qv1 48 (v := ?_) (by rfl) (by rfl) (fun ev hc hf h0 W hW => ?_) ?_; rotate_left; (focus (first | (go_simp; done) | (go_simp; with_reducible rfl))); rotate_left; simp only [Act.put, List.setIfInBounds_toArray, List.set_cons_zero, List.set_cons_succ])
  first
    | (refine qskip (by rfl) ?_; simp only [Act.put, List.setIfInBounds_toArray, List.set_cons_zero, List.set_cons_succ])
    | (refine qv1 9 (v := ?_) (by rfl) (by rfl) (fun ev hc hf h0 W hW => ?_) ?_; rotate_left; (focus (first | (go_simp; done) | (go_simp; with_reducible rfl))); rotate_left; simp only [Act.put, List.setIfInBounds_toArray, List.set_cons_zero, List.set_cons_succ])
  first
    | (refine qskip (by rfl) ?_; simp only [Act.put, List.setIfInBounds_toArray, List.set_cons_zero, List.set_cons_succ])
    | (refine qv1 50 (v := ?_) (by rfl) (by rfl) (fun ev hc hf h0 W hW => ?_) ?_; rotate_left; (focus (first | (go_simp; done) | (go_simp; with_reducible rfl))); rotate_left; simp only [Act.put, List.setIfInBounds_toArray, List.set_cons_zero, List.set_cons_succ])
  (refine qv2 49 51 (v := ?_) (by rfl) (by rfl) (by rfl) (fun ev hc hf h0 h1 W hW => ?_) ?_; rotate_left; (focus (first | (go_simp; done) | (go_simp; with_reducible rfl))); rotate_left; simp only [Act.put, List.setIfInBounds_toArray, List.set_cons_zero, List.set_cons_succ])
  (refine qv1 52 (v := ?_) (by rfl) (by rfl) (fun ev hc hf h0 W hW => ?_) ?_; rotate_left; (focus (first | (go_simp; done) | (go_simp; with_reducible rfl))); rotate_left; simp only [Act.put, List.setIfInBounds_toArray, List.set_cons_zero, List.set_cons_succ])
  first
    | (refine qskip (by rfl) ?_; simp only [Act.put, List.setIfInBounds_toArray, List.set_cons_zero, List.set_cons_succ])
    | (refine qv1 10 (v := ?_) (by rfl) (by rfl) (fun ev hc hf h0 W hW => ?_) ?_; rotate_left; (focus (first | (go_simp; done) | (go_simp; with_reducible rfl))); rotate_left; simp only [Act.put, List.setIfInBounds_toArray, List.set_cons_zero, List.set_cons_succ])
  first
    | (refine qskip (by rfl) ?_; simp only [Act.put, List.setIfInBounds_toArray, List.set_cons_zero, List.set_cons_succ])
    | (refine qv1 54 (v := ?_) (by rfl) (by rfl) (fun ev hc hf h0 W hW => ?_) ?_; rotate_left; (focus (first | (go_simp; done) | (go_simp; with_reducible rfl))); rotate_left; simp only [Act.put, List.setIfInBounds_toArray, List.set_cons_zero, List.set_cons_succ])
  (refine qv2 53 55 (v := ?_) (by rfl) (by rfl) (by rfl) (fun ev hc hf h0 h1 W hW => ?_) ?_; rotate_left; (focus (first | (go_simp; done) | (go_simp; with_reducible rfl))); rotate_left; simp only [Act.put, List.setIfInBounds_toArray, List.set_cons_zero, List.set_cons_succ])
  (refine qv1 56 (v := ?_) (by rfl) (by rfl) (fun ev hc hf h0 W hW => ?_) ?_; rotate_left; (focus (first | (go_simp; done) | (go_simp; with_reducible rfl))); rotate_left; simp only [Act.put, List.setIfInBounds_toArray, List.set_cons_zero, List.set_cons_succ])
  first
    | (refine qskip (by rfl) ?_; simp only [Act.put, List.setIfInBounds_toArray, List.set_cons_zero, List.set_cons_succ])
    | (refine qv1 11 (v := ?_) (by rfl) (by rfl) (fun ev hc hf h0 W hW => ?_) ?_; rotate_left; (focus (first | (go_simp; done) | (go_simp; with_reducible rfl))); rotate_left; simp only [Act.put, List.setIfInBounds_toArray, List.set_cons_zero, List.set_cons_succ])
  first
    | (refine qskip (by rfl) ?_; simp only [Act.put, List.setIfInBounds_toArray, List.set_cons_zero, List.set_cons_succ])
    | (refine qv1 58 (v := ?_) (by rfl) (by rfl) (fun ev hc hf h0 W hW => ?_) ?_; rotate_left; (focus (first | (go_simp; done) | (go_simp; with_reducible rfl))); rotate_left; simp only [Act.put, List.setIfInBounds_toArray, List.set_cons_zero, List.set_cons_succ])
  (refine qv2 57 59 (v := ?_) (by rfl) (by rfl) (by rfl) (fun ev hc hf h0 h1 W hW => ?_) ?_; rotate_left; (focus (first | (go_simp; done) | (go_simp; with_reducible rfl))); rotate_left; simp only [Act.put, List.setIfInBounds_toArray, List.set_cons_zero, List.set_cons_succ])
  (refine qv1 60 (v := ?_) (by rfl) (by rfl) (fun ev hc hf h0 W hW => ?_) ?_; rotate_left; (focus (first | (go_simp; done) | (go_simp; with_reducible rfl))); rotate_left; simp only [Act.put, List.setIfInBounds_toArray, List.set_cons_zero, List.set_cons_succ])
  first
    | (refine qskip (by rfl) ?_; simp only [Act.put, List.setIfInBounds_toArray, List.set_cons_zero, List.set_cons_succ])
    | (refine qv1 12 (v := ?_) (by rfl) (by rfl) (fun ev hc hf h0 W hW => ?_) ?_; rotate_left; (focus (first | (go_simp; done) | (go_simp; with_reducible rfl))); rotate_left; simp only [Act.put, List.setIfInBounds_toArray, List.set_cons_zero, List.set_cons_succ])
  first
    | (refine qskip (by rfl) ?_; simp only [Act.put, List.setIfInBounds_toArray, List.set_cons_zero, List.set_cons_succ])
    | (refine qv1 62 (v := ?_) (by rfl) (by rfl) (fun ev hc hf h0 W hW => ?_) ?_; rotate_left; (focus (first | (go_simp; done) | (go_simp; with_reducible rfl))); rotate_left; simp only [Act.put, List.setIfInBounds_toArray, List.set_cons_zero, List.set_cons_succ])
  (refine qv2 61 63 (v := ?_) (by rfl) (by rfl) (by rfl) (fun ev hc hf h0 h1 W hW => ?_) ?_; rotate_left; (focus (first | (go_simp; done) | (go_simp; with_reducible rfl))); rotate_left; simp only [Act.put, List.setIfInBounds_toArray, List.set_cons_zero, List.set_cons_succ])
  (refine qv1 64 (v := ?_) (by rfl) (by rfl) (fun ev hc hf h0 W hW => ?_) ?_; rotate_left; (focus (first | (go_simp; done) | (go_simp; with_reducible rfl))); rotate_left; simp only [Act.put, List.setIfInBounds_toArray, List.set_cons_zero, List.set_cons_succ])
  first
    | (refine qskip (by rfl) ?_; simp only [Act.put, List.setIfInBounds_toArray, List.set_cons_zero, List.set_cons_succ])
    | (refine qv1 13 (v := ?_) (by rfl) (by rfl) (fun ev hc hf h0 W hW => ?_) ?_; rotate_left; (focus (first | (go_simp; done) | (go_simp; with_reducible rfl))); rotate_left; simp only [Act.put, List.setIfInBounds_toArray, List.set_cons_zero, List.set_cons_succ])
  first
    | (refine qskip (by rfl) ?_; simp only [Act.put, List.setIfInBounds_toArray, List.set_cons_zero, List.set_cons_succ])
    | (refine qv1 66 (v := ?_) (by rfl) (by rfl) (fun ev hc hf h0 W hW => ?_) ?_; rotate_left; (focus (first | (go_simp; done) | (go_simp; with_reducible rfl))); rotate_left; simp only [Act.put, List.setIfInBounds_toArray, List.set_cons_zero, List.set_cons_succ])
  (refine qv2 65 67 (v := ?_) (by rfl) (by rfl) (by rfl) (fun ev hc hf h0 h1 W hW => ?_) ?_; rotate_left; (focus (first | (go_simp; done) | (go_simp; with_reducible rfl))); rotate_left; simp only [Act.put, List.setIfInBounds_toArray, List.set_cons_zero, List.set_cons_succ])
  (refine qv1 68 (v := ?_) (by rfl) (by rfl) (fun ev hc hf h0 W hW => ?_) ?_; rotate_left; (focus (first | (go_simp; done) | (go_simp; with_reducible rfl))); rotate_left; simp only [Act.put, List.setIfInBounds_toArray, List.set_cons_zero, List.set_cons_succ])
  first
    | (refine qskip (by rfl) ?_; simp only [Act.put, List.setIfInBounds_toArray, List.set_cons_zero, List.set_cons_succ])
    | (refine qv1 5 (v := ?_) (by rfl) (by rfl) (fun ev hc hf h0 W hW => ?_) ?_; rotate_left; (focus (first | (go_simp; done) | (go_simp; with_reducible rfl))); rotate_left; simp only [Act.put, List.setIfInBounds_toArray, List.set_cons_zero, List.set_cons_succ])
  first
    | (refine qskip (by rfl) ?_; simp only [Act.put, List.setIfInBounds_toArray, List.set_cons_zero, List.set_cons_succ])
    | (refine qc1 70 _ _ _ (by rfl) (by rfl) (fun ev hc hf h0 W hW => ?_) (fun W hW => q_calls hW (K1.out W)) ?_; (focus (go_simp; done)); simp only [Act.put, List.setIfInBounds_toArray, List.set_cons_zero, List.set_cons_succ])
  first
    | (refine qskip (by rfl) ?_; simp only [Act.put, List.setIfInBounds_toArray, List.set_cons_zero, List.set_cons_succ])
    | (refine qv0  (v := ?_) (by rfl) (fun ev hc hf  W hW => ?_) ?_; rotate_left; (focus (first | (go_simp; done) | (go_simp; with_reducible rfl))); rotate_left; simp only [Act.put, List.setIfInBounds_toArray, List.set_cons_zero, List.set_cons_succ])
  first
    | (refine qskip (by rfl) ?_; simp only [Act.put, List.setIfInBounds_toArray, List.set_cons_zero, List.set_cons_succ])
    | (refine qv2 71 72 (v := ?_) (by rfl) (by rfl) (by rfl) (fun ev hc hf h0 h1 W hW => ?_) ?_; rotate_left; (focus (first | (go_simp; done) | (go_simp; with_reducible rfl))); rotate_left; simp only [Act.put, List.setIfInBounds_toArray, List.set_cons_zero, List.set_cons_succ])
  (refine qv2 69 73 (v := ?_) (by rfl) (by rfl) (by rfl) (fun ev hc hf h0 h1 W hW => ?_) ?_; rotate_left; (focus (first | (go_simp; done) | (go_simp; with_reducible rfl))); rotate_left; simp only [Act.put, List.setIfInBounds_toArray, List.set_cons_zero, List.set_cons_succ])
  (refine qv1 74 (v := ?_) (by rfl) (by rfl) (fun ev hc hf h0 W hW => ?_) ?_; rotate_left; (focus (first | (go_simp; done) | (go_simp; with_reducible rfl))); rotate_left; simp only [Act.put, List.setIfInBounds_toArray, List.set_cons_zero, List.set_cons_succ])
  first
    | (refine qskip (by rfl) ?_; simp only [Act.put, List.setIfInBounds_toArray, List.set_cons_zero, List.set_cons_succ])
    | (refine qc0  _ _ _ (by rfl) (fun ev hc hf  W hW => ?_) (fun W hW => q_calls hW (K2.out W)) ?_; (focus (go_simp; done)); simp only [Act.put, List.setIfInBounds_toArray, List.set_cons_zero, List.set_cons_succ])
  (refine qv2 75 76 (v := ?_) (by rfl) (by rfl) (by rfl) (fun ev hc hf h0 h1 W hW => ?_) ?_; rotate_left; (focus (first | (go_simp; done) | (go_simp; with_reducible rfl))); rotate_left; simp only [Act.put, List.setIfInBounds_toArray, List.set_cons_zero, List.set_cons_succ])
  (refine qv1 77 (v := ?_) (by rfl) (by rfl) (fun ev hc hf h0 W hW => ?_) ?_; rotate_left; (focus (first | (go_simp; done) | (go_simp; with_reducible rfl))); rotate_left; simp only [Act.put, List.setIfInBounds_toArray, List.set_cons_zero, List.set_cons_succ])
  refine qnil ?_
  intro w9 hW9
  go_wp2_with fail
  go_ret
  exact ⟨rfl, HB2.out.trans (hW9.mono HB2.out.size)⟩

end Go.Proofs.Ytlgljcfkoakogaa
