import Derived.Test.YtlgljcfkoakogaaB5
namespace Go.Proofs.Ytlgljcfkoakogaa
open Go.RowKit
set_option linter.unusedSimpArgs false
set_option linter.unusedVariables false


set_option maxRecDepth 100000 in
set_option maxHeartbeats 3200000 in
theorem none_walk (r n : Int) (s : ByteArray) (w : World) (hs : s.size ≤ 140737488351232) :
    Calls Try.prog 7 #[.agg #[.int .u64 r, .int .i64 n], .string s] w fun e w' => e = .returned (.bool true) ∧ Below w.heap.size w w' := by
  by_cases hl : 1024 < s.size
  · have hl' : (1024 : Int) < (s.size : Int) := by omega
    clear hl
    go_enter Try.func7, Try.ntmps7
    go_wp2_with (go_at_call 28; refine (works12_any _).mono ?_; rintro e w' ⟨rfl, hbw⟩)
    go_ret
    exact ⟨rfl, ((Below.refl _ _).alloc (Nat.le_refl _) _).trans (hbw.mono (by simp))⟩
  · have hl' : ¬ (1024 : Int) < (s.size : Int) := by omega
    clear hl
    go_enter Try.func7, Try.ntmps7
    go_wp2_with fail
    refine (prepare_nil _ _ _).mono ?_
    rintro e w1 ⟨rfl, hb1⟩
    simp only [Acc.vote, voteV, Acc.zero]
    have k1 := (Bk.new w #[.int .u64 r, .int .i64 n] 24).bel hb1
    have HB := ((Below.refl w.heap.size w).alloc (Nat.le_refl _) (.cells #[.int .u64 r, .int .i64 n] 24)).trans (hb1.mono (by simp))
    have a0 : w1.cell? ⟨w.heap.size, 0, none⟩ = _ := k1.cell 0
    have a1 : w1.cell? ⟨w.heap.size, 1, none⟩ = _ := k1.cell 1
    simp at a0 a1
    have y0 : w.heap.size < w1.heap.size := k1.lt
    clear hb1
    go_wp2_with fail
    refine (accept_nil _ _ _ _).mono ?_
    rintro e w2 ⟨rfl, hb2⟩
    have k2 := (Bk.new w1 #[Value.bool false, Value.int IntKind.u64 0, Value.int IntKind.i64 0, Value.string { data := #[] }] 46).bel hb2
    have HB := (HB.alloc HB.size (Obj.cells #[Value.bool false, Value.int IntKind.u64 0, Value.int IntKind.i64 0, Value.string { data := #[] }] 46)).trans (hb2.mono (by have := HB.size; simp; omega))
    have HS : ∀ W, Bel w2 W → W.cell? ⟨w1.heap.size, 0, none⟩ = some (.bool false) ∧ W.cell? ⟨w1.heap.size, 1, none⟩ = some (.int .u64 0) ∧ W.cell? ⟨w1.heap.size, 2, none⟩ = some (.int .i64 0) ∧ W.cell? ⟨w1.heap.size, 3, none⟩ = some (.string ⟨#[]⟩) :=
      fun W hW => ⟨(k2.bel hW).cell 0, (k2.bel hW).cell 1, (k2.bel hW).cell 2, (k2.bel hW).cell 3⟩
    have K1 := Lib.hid (fun (W : World) => promised_nil W)
    have K2 : Hid (∀ W, Calls Try.prog 32 #[.pointer none] W fun e w' => e = .returned (.agg #[.bool false, .int .u64 0, .int .i64 0, .string ⟨#[]⟩]) ∧ Below W.heap.size W w') := Lib.hid (fun (W : World) => vote_nil W)
    have K3 := Lib.hid (fun (W : World) => works12_any W)
    clear k1 k2 a0 a1 y0 hb2
    go_wp2_with (with_reducible refine wpList_bel 30 rfl ?_)
    repeat (first
      | (refine q_skip (by rfl) ?_; simp only [Act.put, List.setIfInBounds_toArray, List.set_cons_zero, List.set_cons_succ])
      | (refine q_val (v := ?_) (by rfl) (fun W hW => ?_) ?_; rotate_left; (focus (obtain ⟨c0, c1, c2, c3⟩ := HS W hW; first | (go_simp; done) | (go_simp; with_reducible rfl))); rotate_left; simp only [Act.put, List.setIfInBounds_toArray, List.set_cons_zero, List.set_cons_succ])
      | (refine q_call _ _ _ (by rfl) (fun W hW => ?_) (fun W hW => q_calls hW (K1.out W)) ?_; (focus (obtain ⟨c0, c1, c2, c3⟩ := HS W hW; go_simp; done)); simp only [Act.put, List.setIfInBounds_toArray, List.set_cons_zero, List.set_cons_succ])
      | (refine q_call _ _ _ (by rfl) (fun W hW => ?_) (fun W hW => q_calls hW (K2.out W)) ?_; (focus (obtain ⟨c0, c1, c2, c3⟩ := HS W hW; go_simp; done)); simp only [Act.put, List.setIfInBounds_toArray, List.set_cons_zero, List.set_cons_succ])
      | (refine q_call _ _ _ (by rfl) (fun W hW => ?_) (fun W hW => q_calls hW (K3.out W)) ?_; (focus (obtain ⟨c0, c1, c2, c3⟩ := HS W hW; go_simp; done)); simp only [Act.put, List.setIfInBounds_toArray, List.set_cons_zero, List.set_cons_succ]))
    refine wpQuiet_nil ?_
    intro w6 hW6

    go_wp2
    go_ret
    exact ⟨rfl, HB.trans (Below.mono hW6 HB.size)⟩

theorem noneWalk (r n : Int) (s : ByteArray) (w : World) (_ : (Lit.int .u64 r).wf = true) (_ : (Lit.int .i64 n).wf = true) (hs : s.size ≤ 140737488351232) :
    Calls Try.prog 7 #[.agg #[.int .u64 r, .int .i64 n], .string s] w fun e w' => e = .returned (.bool true) ∧ Below w.heap.size w w' := none_walk r n s w hs

end Go.Proofs.Ytlgljcfkoakogaa
