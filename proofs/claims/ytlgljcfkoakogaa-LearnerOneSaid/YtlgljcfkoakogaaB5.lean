import Derived.Test.YtlgljcfkoakogaaB4
namespace Go.Proofs.Ytlgljcfkoakogaa
open Go.RowKit
set_option linter.unusedSimpArgs false
set_option linter.unusedVariables false


theorem wk1 : prep Acc.zero 1 0 = (true, Acc.zero, 0, ⟨1, 0, false, 0, 0, ⟨#[]⟩⟩) := by rfl
theorem wk2 : acpt ⟨1, 0, false, 0, 0, ⟨#[]⟩⟩ 1 0 ⟨#[97]⟩ = (true, 0, ⟨1, 0, true, 1, 0, ⟨#[97]⟩⟩) := by rfl
theorem wk3 : prep ⟨1, 0, true, 1, 0, ⟨#[97]⟩⟩ 2 1 = (true, ⟨1, 0, true, 1, 0, ⟨#[97]⟩⟩, 0, ⟨2, 1, true, 1, 0, ⟨#[97]⟩⟩) := by rfl
theorem wk4 : acpt ⟨2, 1, true, 1, 0, ⟨#[97]⟩⟩ 1 0 ⟨#[98]⟩ = (false, 0, ⟨2, 1, true, 1, 0, ⟨#[97]⟩⟩) := by rfl

set_option maxRecDepth 100000 in
set_option maxHeartbeats 6400000 in
theorem works12_any (w : World) : Calls Try.prog 28 #[] w fun e w' => e = .returned (.bool true) ∧ Below w.heap.size w w' := by
  go_enter Try.func28, Try.ntmps28
  go_wp2_with fail
  refine (accNew_any _).mono ?_; rintro e w1 ⟨rfl, rfl⟩
  go_wp2_with fail
  have ka := ((Bk.new w Acc.zero.cells 116).alloc (Obj.cells #[Value.int IntKind.u64 1, Value.int IntKind.i64 0] 24)).alloc (Obj.cells #[Value.int IntKind.u64 2, Value.int IntKind.i64 1] 24)
  have k1 := (Bk.new (w.alloc (Obj.cells Acc.zero.cells 116)) #[Value.int IntKind.u64 1, Value.int IntKind.i64 0] 24).alloc (Obj.cells #[Value.int IntKind.u64 2, Value.int IntKind.i64 1] 24)
  have k2 := Bk.new ((w.alloc (Obj.cells Acc.zero.cells 116)).alloc (Obj.cells #[Value.int IntKind.u64 1, Value.int IntKind.i64 0] 24)) #[Value.int IntKind.u64 2, Value.int IntKind.i64 1] 24
  rw [World.size_alloc] at k1 k2
  rw [World.size_alloc] at k2
  have HB : Below w.heap.size w (((w.alloc (Obj.cells Acc.zero.cells 116)).alloc (Obj.cells #[Value.int IntKind.u64 1, Value.int IntKind.i64 0] 24)).alloc (Obj.cells #[Value.int IntKind.u64 2, Value.int IntKind.i64 1] 24)) := (((Below.refl _ _).alloc (Nat.le_refl _) _).alloc (by simp) _).alloc (by simp; omega) _
  refine (prepare_any w.heap.size Acc.zero 1 0 _ ka).mono ?_
  rintro e w2 ⟨rfl, ka, hg⟩
  rw [wk1] at ka
  rw [wk1]
  simp only [Acc.vote, voteV, Acc.zero]
  have k1 := k1.grown hg (by intro e; injection e; omega)
  have k2 := k2.grown hg (by intro e; injection e; omega)
  have HB := bel_grown HB hg HB.size (Nat.le_refl _)
  clear hg
  have a0 : w2.cell? ⟨w.heap.size + 1, 0, none⟩ = _ := k1.cell 0
  have a1 : w2.cell? ⟨w.heap.size + 1, 1, none⟩ = _ := k1.cell 1
  simp at a0 a1
  have z2 := k2.lt
  have y0 : w.heap.size + 1 < w2.heap.size := by omega
  go_wp2_with fail
  have k5 := Bk.new w2 #[Value.bool false, Value.int IntKind.u64 0, Value.int IntKind.i64 0, Value.string { data := #[] }] 46
  have ka := ka.alloc (Obj.cells #[Value.bool false, Value.int IntKind.u64 0, Value.int IntKind.i64 0, Value.string { data := #[] }] 46)
  have k1 := k1.alloc (Obj.cells #[Value.bool false, Value.int IntKind.u64 0, Value.int IntKind.i64 0, Value.string { data := #[] }] 46)
  have k2 := k2.alloc (Obj.cells #[Value.bool false, Value.int IntKind.u64 0, Value.int IntKind.i64 0, Value.string { data := #[] }] 46)
  have HB := HB.alloc HB.size (Obj.cells #[Value.bool false, Value.int IntKind.u64 0, Value.int IntKind.i64 0, Value.string { data := #[] }] 46)
  clear a0 a1
  refine (accept_any w.heap.size _ 1 0 ⟨#[97]⟩ _ ka (by decide)).mono ?_
  rintro e w3 ⟨rfl, ka, hg⟩
  rw [wk2] at ka
  rw [wk2]
  have k1 := k1.grown hg (by intro e; injection e; omega)
  have k2 := k2.grown hg (by intro e; injection e; omega)
  have k5 := k5.grown hg (by intro e; injection e; omega)
  have HB := bel_grown HB hg HB.size (Nat.le_refl _)
  clear hg
  have a0 : w3.cell? ⟨w.heap.size + 1 + 1, 0, none⟩ = _ := k2.cell 0
  have a1 : w3.cell? ⟨w.heap.size + 1 + 1, 1, none⟩ = _ := k2.cell 1
  simp at a0 a1
  go_wp2_with fail
  refine (prepare_any w.heap.size _ 2 1 _ ka).mono ?_
  rintro e w4 ⟨rfl, ka, hg⟩
  rw [wk3] at ka
  rw [wk3]
  simp only [Acc.vote, voteV, Acc.zero]
  have k1 := k1.grown hg (by intro e; injection e; omega)
  have k2 := k2.grown hg (by intro e; injection e; omega)
  have k5 := k5.grown hg (by intro e; injection e; omega)
  have HB := bel_grown HB hg HB.size (Nat.le_refl _)
  have z5 := k5.lt
  clear hg a0 a1
  have a0 : w4.cell? ⟨w.heap.size + 1, 0, none⟩ = _ := k1.cell 0
  have a1 : w4.cell? ⟨w.heap.size + 1, 1, none⟩ = _ := k1.cell 1
  simp at a0 a1
  have y1 : w.heap.size + 1 < w4.heap.size := k1.lt
  go_wp2_with fail
  have k6 := Bk.new w4 #[Value.bool true, Value.int IntKind.u64 1, Value.int IntKind.i64 0, Value.string { data := #[97] }] 46
  have ka := ka.alloc (Obj.cells #[Value.bool true, Value.int IntKind.u64 1, Value.int IntKind.i64 0, Value.string { data := #[97] }] 46)
  have k1 := k1.alloc (Obj.cells #[Value.bool true, Value.int IntKind.u64 1, Value.int IntKind.i64 0, Value.string { data := #[97] }] 46)
  have k2 := k2.alloc (Obj.cells #[Value.bool true, Value.int IntKind.u64 1, Value.int IntKind.i64 0, Value.string { data := #[97] }] 46)
  have k5 := k5.alloc (Obj.cells #[Value.bool true, Value.int IntKind.u64 1, Value.int IntKind.i64 0, Value.string { data := #[97] }] 46)
  have HB := HB.alloc HB.size (Obj.cells #[Value.bool true, Value.int IntKind.u64 1, Value.int IntKind.i64 0, Value.string { data := #[97] }] 46)
  clear a0 a1
  refine (accept_any w.heap.size _ 1 0 ⟨#[98]⟩ _ ka (by decide)).mono ?_
  rintro e w5 ⟨rfl, ka, hg⟩
  rw [wk4] at ka
  rw [wk4]
  have k1 := k1.grown hg (by intro e; injection e; omega)
  have k2 := k2.grown hg (by intro e; injection e; omega)
  have k5 := k5.grown hg (by intro e; injection e; omega)
  have k6 := k6.grown hg (by intro e; injection e; omega)
  have HB := bel_grown HB hg HB.size (Nat.le_refl _)
  clear hg
  have HS : ∀ W, Bel w5 W → W.cell? ⟨w.heap.size + 1, 0, none⟩ = some (.int .u64 1) ∧ W.cell? ⟨w.heap.size + 1, 1, none⟩ = some (.int .i64 0) ∧ W.cell? ⟨w.heap.size + 1 + 1, 0, none⟩ = some (.int .u64 2) ∧ W.cell? ⟨w.heap.size + 1 + 1, 1, none⟩ = some (.int .i64 1) ∧
      W.cell? ⟨w2.heap.size, 0, none⟩ = some (.bool false) ∧ W.cell? ⟨w2.heap.size, 1, none⟩ = some (.int .u64 0) ∧ W.cell? ⟨w2.heap.size, 2, none⟩ = some (.int .i64 0) ∧ W.cell? ⟨w2.heap.size, 3, none⟩ = some (.string ⟨#[]⟩) ∧
      W.cell? ⟨w4.heap.size, 0, none⟩ = some (.bool true) ∧ W.cell? ⟨w4.heap.size, 1, none⟩ = some (.int .u64 1) ∧ W.cell? ⟨w4.heap.size, 2, none⟩ = some (.int .i64 0) ∧ W.cell? ⟨w4.heap.size, 3, none⟩ = some (.string ⟨#[97]⟩) :=
    fun W hW => ⟨(k1.bel hW).cell 0, (k1.bel hW).cell 1, (k2.bel hW).cell 0, (k2.bel hW).cell 1, (k5.bel hW).cell 0, (k5.bel hW).cell 1, (k5.bel hW).cell 2, (k5.bel hW).cell 3, (k6.bel hW).cell 0, (k6.bel hW).cell 1, (k6.bel hW).cell 2, (k6.bel hW).cell 3⟩
  have K1 : Hid (∀ W, Bel w5 W → Calls Try.prog 31 #[.pointer (some ⟨w.heap.size, 0, none⟩)] W fun e W' => e = .returned (.agg #[.int .u64 2, .int .i64 1]) ∧ Below W.heap.size W W') := Lib.hid (fun W hW => promised_any w.heap.size _ W (ka.bel hW))
  have K2 : Hid (∀ W, Bel w5 W → Calls Try.prog 32 #[.pointer (some ⟨w.heap.size, 0, none⟩)] W fun e W' => e = .returned (.agg #[.bool true, .int .u64 1, .int .i64 0, .string ⟨#[97]⟩]) ∧ Below W.heap.size W W') := Lib.hid (fun W hW => vote_any w.heap.size _ W (ka.bel hW))
  clear k1 k2 k5 k6 ka z2 z5 y0 y1
  go_wp2_with fail
  refine wp_bel (by kernel_rfl) ?_
  repeat (first
    | (refine q_skip (by rfl) ?_; simp only [Act.put, List.setIfInBounds_toArray, List.set_cons_zero, List.set_cons_succ])
    | (refine q_val (v := ?_) (by rfl) (fun W hW => ?_) ?_; rotate_left; (focus (obtain ⟨c0, c1, c2, c3, c4, c5, c6, c7, c8, c9, c10, c11⟩ := HS W hW; first | (go_simp; done) | (go_simp; with_reducible rfl))); rotate_left; simp only [Act.put, List.setIfInBounds_toArray, List.set_cons_zero, List.set_cons_succ])
    | (refine q_call _ _ _ (by rfl) (fun W hW => ?_) (fun W hW => q_calls hW (K1.out W hW)) ?_; (focus (obtain ⟨c0, c1, c2, c3, c4, c5, c6, c7, c8, c9, c10, c11⟩ := HS W hW; go_simp; done)); simp only [Act.put, List.setIfInBounds_toArray, List.set_cons_zero, List.set_cons_succ])
    | (refine q_call _ _ _ (by rfl) (fun W hW => ?_) (fun W hW => q_calls hW (K2.out W hW)) ?_; (focus (obtain ⟨c0, c1, c2, c3, c4, c5, c6, c7, c8, c9, c10, c11⟩ := HS W hW; go_simp; done)); simp only [Act.put, List.setIfInBounds_toArray, List.set_cons_zero, List.set_cons_succ]))
  refine wpQuiet_nil ?_
  intro w6 hW6
  go_wp2
  go_ret
  exact ⟨rfl, HB.trans (Below.mono hW6 HB.size)⟩

end Go.Proofs.Ytlgljcfkoakogaa
