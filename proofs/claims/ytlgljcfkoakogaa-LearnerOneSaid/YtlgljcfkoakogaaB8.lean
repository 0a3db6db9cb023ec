import Derived.Test.YtlgljcfkoakogaaB7
import Derived.Test.YtlgljcfkoakogaaA11
import Derived.Test.YtlgljcfkoakogaaA12
namespace Go.Proofs.Ytlgljcfkoakogaa
open Go.RowKit
set_option linter.unusedSimpArgs false
set_option linter.unusedVariables false


theorem above_lt {r n pr pn : Int} (h : cmpB r n pr pn < 0) : aboveB pr pn r n = true := (above_sym r n pr pn).2 (by have := cmpB_vals r n pr pn; omega)
theorem above_nlt {r n pr pn : Int} (h : ¬ cmpB r n pr pn < 0) : aboveB pr pn r n = false := by
  cases h1 : aboveB pr pn r n
  · rfl
  · have := (above_sym r n pr pn).1 h1; omega
/-- What the document's Prepare and Accept answer: the same as the acceptor's. -/
def RPrep (g : Nat) (a : Acc) (r n : Int) (w : World) (e : Ending) (w' : World) : Prop :=
  e = .returned (.tuple #[.bool (prep a r n).1, (prep a r n).2.1.vote, .int .i64 (prep a r n).2.2.1]) ∧ Bk w' g (prep a r n).2.2.2.cells 63 ∧ w.grownBy w' (some g)
theorem RPrep.mk {g : Nat} {a : Acc} {r n : Int} {w w' : World} {b : Bool} {v a' : Acc} {x : Int} (h : prep a r n = (b, v, x, a')) (hB : Bk w' g a'.cells 63) (hg : w.grownBy w' (some g)) :
    RPrep g a r n w (.returned (.tuple #[.bool b, v.vote, .int .i64 x])) w' := by
  unfold RPrep; rw [h]; exact ⟨rfl, hB, hg⟩
def RAcpt (g : Nat) (a : Acc) (r n : Int) (s : ByteArray) (w : World) (e : Ending) (w' : World) : Prop :=
  e = .returned (.tuple #[.bool (acpt a r n s).1, .int .i64 (acpt a r n s).2.1]) ∧ Bk w' g (acpt a r n s).2.2.cells 63 ∧ w.grownBy w' (some g)
theorem RAcpt.mk {g : Nat} {a : Acc} {r n : Int} {s : ByteArray} {w w' : World} {b : Bool} {a' : Acc} {x : Int} (h : acpt a r n s = (b, x, a')) (hB : Bk w' g a'.cells 63) (hg : w.grownBy w' (some g)) :
    RAcpt g a r n s w (.returned (.tuple #[.bool b, .int .i64 x])) w' := by
  unfold RAcpt; rw [h]; exact ⟨rfl, hB, hg⟩

set_option maxHeartbeats 3200000 in
theorem refPrepare_any (g : Nat) (a : Acc) (r n : Int) (w : World) (h : Bk w g a.cells 63) :
    Calls Try.prog 38 #[.pointer (some ⟨g, 0, none⟩), .agg #[.int .u64 r, .int .i64 n]] w (RPrep g a r n w) := by
  have hg := h.lt
  go_enter Try.func38, Try.ntmps38
  go_wp2_with fail
  have k1 := (Bk.new w #[Value.int IntKind.u64 r, Value.int IntKind.i64 n] 24).alloc (Obj.cells #[Value.bool false, Value.int IntKind.u64 0, Value.int IntKind.i64 0, Value.string { data := #[] }] 46)
  have k2 := Bk.new (w.alloc (Obj.cells #[Value.int IntKind.u64 r, Value.int IntKind.i64 n] 24)) #[Value.bool false, Value.int IntKind.u64 0, Value.int IntKind.i64 0, Value.string { data := #[] }] 46
  rw [World.size_alloc] at k2
  have k3 := (h.alloc (Obj.cells #[Value.int IntKind.u64 r, Value.int IntKind.i64 n] 24)).alloc (Obj.cells #[Value.bool false, Value.int IntKind.u64 0, Value.int IntKind.i64 0, Value.string { data := #[] }] 46)
  have hb0 : Below w.heap.size w ((w.alloc (Obj.cells #[Value.int IntKind.u64 r, Value.int IntKind.i64 n] 24)).alloc (Obj.cells #[Value.bool false, Value.int IntKind.u64 0, Value.int IntKind.i64 0, Value.string { data := #[] }] 46)) := ((Below.refl _ _).alloc (Nat.le_refl _) _).alloc (by simp) _
  refine (refNamed_any _ _ _).mono ?_; rintro e w1 ⟨rfl, hb1⟩
  replace k1 := k1.bel hb1
  replace k2 := k2.bel hb1
  replace k3 := k3.bel hb1
  have HB1 := hb0.trans (hb1.mono hb0.size)
  clear hb0 hb1 h
  have z1 : w.heap.size + 1 < w1.heap.size := k2.lt
  cases hm : namedB r n
  · have HE := Lib.hid (show prep a r n = (false, Acc.zero, 2, a) by unfold prep; rw [hm]; rfl)
    obtain ⟨e0, e1, e2, e3, f0, f1, f2, f3⟩ := k2.vote
    go_wp2
    refine bodyPost_ret (v := .tuple #[.bool false, Acc.zero.vote, .int .i64 2]) (by simp [results, Try.results38, go_sem, e0, e1, e2, e3, Acc.zero, Acc.vote, voteV]) rfl (RPrep.mk HE.out ?_ ?_)
    · exact (((k3.far (by dsimp only; omega) _).far (by dsimp only; omega) _).far (by dsimp only; omega) _).far (by dsimp only; omega) _
    · exact grown_setNew (grown_setNew (grown_setNew (grown_setNew (grown_bel HB1) (by dsimp only; omega) _) (by dsimp only; omega) _) (by dsimp only; omega) _) (by dsimp only; omega) _
  · by_cases hlt : cmpB r n a.pr a.pn < 0
    · have HE := Lib.hid (show prep a r n = (false, Acc.zero, 0, a) by unfold prep; rw [hm, if_pos rfl, if_pos hlt])
      have K1 := Lib.hid (fun W => above_v true a.pr a.pn r n (above_lt hlt) W)
      clear hlt
      have HS : ∀ W, Bel w1 W → W.cell? ⟨g, 0, none⟩ = some (.int .u64 a.pr) ∧ W.cell? ⟨g, 1, none⟩ = some (.int .i64 a.pn) ∧ W.cell? ⟨w.heap.size, 0, none⟩ = some (.int .u64 r) ∧ W.cell? ⟨w.heap.size, 1, none⟩ = some (.int .i64 n) :=
        fun W hW => ⟨(k3.bel hW).cell 0, (k3.bel hW).cell 1, (k1.bel hW).cell 0, (k1.bel hW).cell 1⟩
      go_upto_region 3 with fail
      refine wp_qw (by kernel_rfl) ?_
      (refine qv1 0 (v := ?_) (by rfl) (by rfl) (fun ev hc hf h0 W hW => ?_) ?_; rotate_left; (focus (obtain ⟨c0, c1, c2, c3⟩ := HS W hW; first | (go_simp; done) | (go_simp; with_reducible rfl))); rotate_left; simp only [Act.put, List.setIfInBounds_toArray, List.set_cons_zero, List.set_cons_succ])
      (refine qv1 11 (v := ?_) (by rfl) (by rfl) (fun ev hc hf h0 W hW => ?_) ?_; rotate_left; (focus (obtain ⟨c0, c1, c2, c3⟩ := HS W hW; first | (go_simp; done) | (go_simp; with_reducible rfl))); rotate_left; simp only [Act.put, List.setIfInBounds_toArray, List.set_cons_zero, List.set_cons_succ])
      (refine qv1 12 (v := ?_) (by rfl) (by rfl) (fun ev hc hf h0 W hW => ?_) ?_; rotate_left; (focus (obtain ⟨c0, c1, c2, c3⟩ := HS W hW; first | (go_simp; done) | (go_simp; with_reducible rfl))); rotate_left; simp only [Act.put, List.setIfInBounds_toArray, List.set_cons_zero, List.set_cons_succ])
      (refine qv1 13 (v := ?_) (by rfl) (by rfl) (fun ev hc hf h0 W hW => ?_) ?_; rotate_left; (focus (obtain ⟨c0, c1, c2, c3⟩ := HS W hW; first | (go_simp; done) | (go_simp; with_reducible rfl))); rotate_left; simp only [Act.put, List.setIfInBounds_toArray, List.set_cons_zero, List.set_cons_succ])
      (refine qv1 3 (v := ?_) (by rfl) (by rfl) (fun ev hc hf h0 W hW => ?_) ?_; rotate_left; (focus (obtain ⟨c0, c1, c2, c3⟩ := HS W hW; first | (go_simp; done) | (go_simp; with_reducible rfl))); rotate_left; simp only [Act.put, List.setIfInBounds_toArray, List.set_cons_zero, List.set_cons_succ])
      (refine qc2 14 15 _ _ _ (by rfl) (by rfl) (by rfl) (fun ev hc hf h0 h1 W hW => ?_) (fun W hW => q_calls hW (K1.out W)) ?_; (focus (obtain ⟨c0, c1, c2, c3⟩ := HS W hW; go_simp; done)); simp only [Act.put, List.setIfInBounds_toArray, List.set_cons_zero, List.set_cons_succ])
      refine qnil ?_
      intro w2 hW2
      have k22 := k2.bel hW2
      have k32 := k3.bel hW2
      have z2 := k22.lt
      have HB2 := HB1.trans (Below.mono hW2 HB1.size)
      clear k1 k2 k3 HB1 hW2 HS K1
      obtain ⟨e0, e1, e2, e3, f0, f1, f2, f3⟩ := k22.vote
      go_wp2
      refine bodyPost_ret (v := .tuple #[.bool false, Acc.zero.vote, .int .i64 0]) (by simp [results, Try.results38, go_sem, e0, e1, e2, e3, Acc.zero, Acc.vote, voteV]) rfl (RPrep.mk HE.out ?_ ?_)
      · exact (((k32.far (by dsimp only; omega) _).far (by dsimp only; omega) _).far (by dsimp only; omega) _).far (by dsimp only; omega) _
      · exact grown_setNew (grown_setNew (grown_setNew (grown_setNew (grown_bel HB2) (by dsimp only; omega) _) (by dsimp only; omega) _) (by dsimp only; omega) _) (by dsimp only; omega) _
    · have HE := Lib.hid (show prep a r n = (true, a, 0, a.promise r n) by unfold prep; rw [hm, if_pos rfl, if_neg hlt])
      have K1 := Lib.hid (fun W => above_v false a.pr a.pn r n (above_nlt hlt) W)
      clear hlt
      have HS : ∀ W, Bel w1 W → W.cell? ⟨g, 0, none⟩ = some (.int .u64 a.pr) ∧ W.cell? ⟨g, 1, none⟩ = some (.int .i64 a.pn) ∧ W.cell? ⟨w.heap.size, 0, none⟩ = some (.int .u64 r) ∧ W.cell? ⟨w.heap.size, 1, none⟩ = some (.int .i64 n) :=
        fun W hW => ⟨(k3.bel hW).cell 0, (k3.bel hW).cell 1, (k1.bel hW).cell 0, (k1.bel hW).cell 1⟩
      go_upto_region 3 with fail
      refine wp_qw (by kernel_rfl) ?_
      (refine qv1 0 (v := ?_) (by rfl) (by rfl) (fun ev hc hf h0 W hW => ?_) ?_; rotate_left; (focus (obtain ⟨c0, c1, c2, c3⟩ := HS W hW; first | (go_simp; done) | (go_simp; with_reducible rfl))); rotate_left; simp only [Act.put, List.setIfInBounds_toArray, List.set_cons_zero, List.set_cons_succ])
      (refine qv1 11 (v := ?_) (by rfl) (by rfl) (fun ev hc hf h0 W hW => ?_) ?_; rotate_left; (focus (obtain ⟨c0, c1, c2, c3⟩ := HS W hW; first | (go_simp; done) | (go_simp; with_reducible rfl))); rotate_left; simp only [Act.put, List.setIfInBounds_toArray, List.set_cons_zero, List.set_cons_succ])
      (refine qv1 12 (v := ?_) (by rfl) (by rfl) (fun ev hc hf h0 W hW => ?_) ?_; rotate_left; (focus (obtain ⟨c0, c1, c2, c3⟩ := HS W hW; first | (go_simp; done) | (go_simp; with_reducible rfl))); rotate_left; simp only [Act.put, List.setIfInBounds_toArray, List.set_cons_zero, List.set_cons_succ])
      (refine qv1 13 (v := ?_) (by rfl) (by rfl) (fun ev hc hf h0 W hW => ?_) ?_; rotate_left; (focus (obtain ⟨c0, c1, c2, c3⟩ := HS W hW; first | (go_simp; done) | (go_simp; with_reducible rfl))); rotate_left; simp only [Act.put, List.setIfInBounds_toArray, List.set_cons_zero, List.set_cons_succ])
      (refine qv1 3 (v := ?_) (by rfl) (by rfl) (fun ev hc hf h0 W hW => ?_) ?_; rotate_left; (focus (obtain ⟨c0, c1, c2, c3⟩ := HS W hW; first | (go_simp; done) | (go_simp; with_reducible rfl))); rotate_left; simp only [Act.put, List.setIfInBounds_toArray, List.set_cons_zero, List.set_cons_succ])
      (refine qc2 14 15 _ _ _ (by rfl) (by rfl) (by rfl) (fun ev hc hf h0 h1 W hW => ?_) (fun W hW => q_calls hW (K1.out W)) ?_; (focus (obtain ⟨c0, c1, c2, c3⟩ := HS W hW; go_simp; done)); simp only [Act.put, List.setIfInBounds_toArray, List.set_cons_zero, List.set_cons_succ])
      refine qnil ?_
      intro w2 hW2
      have k12 := k1.bel hW2
      have k22 := k2.bel hW2
      have k32 := k3.bel hW2
      have z2 := k22.lt
      have HB2 := HB1.trans (Below.mono hW2 HB1.size)
      clear k1 k2 k3 HB1 hW2 HS K1
      obtain ⟨e0, e1, e2, e3, f0, f1, f2, f3⟩ := k22.vote
      obtain ⟨c0, c1, c2, c3, c4, c5⟩ := k32.acc
      have g0 := k32.free 0
      have g1 := k32.free 1
      have d0 : w2.cell? ⟨w.heap.size, 0, none⟩ = _ := k12.cell 0
      have d1 : w2.cell? ⟨w.heap.size, 1, none⟩ = _ := k12.cell 1
      simp at d0 d1
      have hne : w.heap.size + 1 ≠ g := by omega
      have hne' : g ≠ w.heap.size + 1 := by omega
      go_wp2
      go_region
      go_wp2
      refine bodyPost_ret (v := .tuple #[.bool true, a.vote, .int .i64 0]) (by simp [results, Try.results38, go_sem, e0, e1, e2, e3, Acc.vote, voteV]) rfl (RPrep.mk HE.out ?_ ?_)
      · exact ((((((k32.set 0 _).set 1 _).far (by dsimp only; omega) _).far (by dsimp only; omega) _).far (by dsimp only; omega) _).far (by dsimp only; omega) _).drew
      · exact grown_drew (grown_setNew (grown_setNew (grown_setNew (grown_setNew (grown_set (grown_set (grown_bel HB2) 0 _) 1 _) (by dsimp only; omega) _) (by dsimp only; omega) _) (by dsimp only; omega) _) (by dsimp only; omega) _)

set_option maxHeartbeats 3200000 in
theorem refAccept_any (g : Nat) (a : Acc) (r n : Int) (s : ByteArray) (w : World) (h : Bk w g a.cells 63) (hs63 : s.size ≤ 9223372036854775807) :
    Calls Try.prog 37 #[.pointer (some ⟨g, 0, none⟩), .agg #[.int .u64 r, .int .i64 n], .string s] w (RAcpt g a r n s w) := by
  have hg := h.lt
  go_enter Try.func37, Try.ntmps37
  go_wp2_with fail
  have k1 := Bk.new w #[Value.int IntKind.u64 r, Value.int IntKind.i64 n] 24
  have k3 := h.alloc (Obj.cells #[Value.int IntKind.u64 r, Value.int IntKind.i64 n] 24)
  have hb0 : Below w.heap.size w (w.alloc (Obj.cells #[Value.int IntKind.u64 r, Value.int IntKind.i64 n] 24)) := (Below.refl _ _).alloc (Nat.le_refl _) _
  refine (refNamed_any _ _ _).mono ?_; rintro e w1 ⟨rfl, hb1⟩
  replace k1 := k1.bel hb1
  replace k3 := k3.bel hb1
  have HB1 := hb0.trans (hb1.mono hb0.size)
  clear hb0 hb1 h
  have z1 : w.heap.size < w1.heap.size := k1.lt
  cases hm : namedB r n
  · have HE := Lib.hid (show acpt a r n s = (false, 2, a) by unfold acpt; rw [hm]; rfl)
    go_wp2
    go_ret2
    exact RAcpt.mk HE.out k3 (grown_bel HB1)
  · by_cases hl : 8192 < s.size
    · have HE := Lib.hid (show acpt a r n s = (false, 4, a) by unfold acpt; rw [hm, if_pos rfl, if_pos hl])
      have hl' : (8192 : Int) < (s.size : Int) := by omega
      clear hl
      go_wp2
      go_ret2
      exact RAcpt.mk HE.out k3 (grown_bel HB1)
    · have hl' : ¬ (8192 : Int) < (s.size : Int) := by omega
      by_cases hlt : cmpB r n a.pr a.pn < 0
      · have HE := Lib.hid (show acpt a r n s = (false, 0, a) by unfold acpt; rw [hm, if_pos rfl, if_neg hl, if_pos hlt])
        have K1 := Lib.hid (fun W => above_v true a.pr a.pn r n (above_lt hlt) W)
        clear hlt hl
        have HS : ∀ W, Bel w1 W → W.cell? ⟨g, 0, none⟩ = some (.int .u64 a.pr) ∧ W.cell? ⟨g, 1, none⟩ = some (.int .i64 a.pn) ∧ W.cell? ⟨w.heap.size, 0, none⟩ = some (.int .u64 r) ∧ W.cell? ⟨w.heap.size, 1, none⟩ = some (.int .i64 n) :=
          fun W hW => ⟨(k3.bel hW).cell 0, (k3.bel hW).cell 1, (k1.bel hW).cell 0, (k1.bel hW).cell 1⟩
        go_upto_region 5 with fail
        refine wp_qw (by kernel_rfl) ?_
        (refine qv1 0 (v := ?_) (by rfl) (by rfl) (fun ev hc hf h0 W hW => ?_) ?_; rotate_left; (focus (obtain ⟨c0, c1, c2, c3⟩ := HS W hW; first | (go_simp; done) | (go_simp; with_reducible rfl))); rotate_left; simp only [Act.put, List.setIfInBounds_toArray, List.set_cons_zero, List.set_cons_succ])
        (refine qv1 14 (v := ?_) (by rfl) (by rfl) (fun ev hc hf h0 W hW => ?_) ?_; rotate_left; (focus (obtain ⟨c0, c1, c2, c3⟩ := HS W hW; first | (go_simp; done) | (go_simp; with_reducible rfl))); rotate_left; simp only [Act.put, List.setIfInBounds_toArray, List.set_cons_zero, List.set_cons_succ])
        (refine qv1 15 (v := ?_) (by rfl) (by rfl) (fun ev hc hf h0 W hW => ?_) ?_; rotate_left; (focus (obtain ⟨c0, c1, c2, c3⟩ := HS W hW; first | (go_simp; done) | (go_simp; with_reducible rfl))); rotate_left; simp only [Act.put, List.setIfInBounds_toArray, List.set_cons_zero, List.set_cons_succ])
        (refine qv1 16 (v := ?_) (by rfl) (by rfl) (fun ev hc hf h0 W hW => ?_) ?_; rotate_left; (focus (obtain ⟨c0, c1, c2, c3⟩ := HS W hW; first | (go_simp; done) | (go_simp; with_reducible rfl))); rotate_left; simp only [Act.put, List.setIfInBounds_toArray, List.set_cons_zero, List.set_cons_succ])
        (refine qv1 4 (v := ?_) (by rfl) (by rfl) (fun ev hc hf h0 W hW => ?_) ?_; rotate_left; (focus (obtain ⟨c0, c1, c2, c3⟩ := HS W hW; first | (go_simp; done) | (go_simp; with_reducible rfl))); rotate_left; simp only [Act.put, List.setIfInBounds_toArray, List.set_cons_zero, List.set_cons_succ])
        (refine qc2 17 18 _ _ _ (by rfl) (by rfl) (by rfl) (fun ev hc hf h0 h1 W hW => ?_) (fun W hW => q_calls hW (K1.out W)) ?_; (focus (obtain ⟨c0, c1, c2, c3⟩ := HS W hW; go_simp; done)); simp only [Act.put, List.setIfInBounds_toArray, List.set_cons_zero, List.set_cons_succ])
        refine qnil ?_
        intro w2 hW2
        have k32 := k3.bel hW2
        have HB2 := HB1.trans (Below.mono hW2 HB1.size)
        clear k1 k3 HB1 hW2 HS K1
        go_wp2
        go_ret2
        exact RAcpt.mk HE.out k32 (grown_bel HB2)
      · have HE := Lib.hid (show acpt a r n s = (true, 0, Acc.accept r n s) by unfold acpt; rw [hm, if_pos rfl, if_neg hl, if_neg hlt])
        have K1 := Lib.hid (fun W => above_v false a.pr a.pn r n (above_nlt hlt) W)
        clear hlt hl
        have HS : ∀ W, Bel w1 W → W.cell? ⟨g, 0, none⟩ = some (.int .u64 a.pr) ∧ W.cell? ⟨g, 1, none⟩ = some (.int .i64 a.pn) ∧ W.cell? ⟨w.heap.size, 0, none⟩ = some (.int .u64 r) ∧ W.cell? ⟨w.heap.size, 1, none⟩ = some (.int .i64 n) :=
          fun W hW => ⟨(k3.bel hW).cell 0, (k3.bel hW).cell 1, (k1.bel hW).cell 0, (k1.bel hW).cell 1⟩
        go_upto_region 5 with fail
        refine wp_qw (by kernel_rfl) ?_
        (refine qv1 0 (v := ?_) (by rfl) (by rfl) (fun ev hc hf h0 W hW => ?_) ?_; rotate_left; (focus (obtain ⟨c0, c1, c2, c3⟩ := HS W hW; first | (go_simp; done) | (go_simp; with_reducible rfl))); rotate_left; simp only [Act.put, List.setIfInBounds_toArray, List.set_cons_zero, List.set_cons_succ])
        (refine qv1 14 (v := ?_) (by rfl) (by rfl) (fun ev hc hf h0 W hW => ?_) ?_; rotate_left; (focus (obtain ⟨c0, c1, c2, c3⟩ := HS W hW; first | (go_simp; done) | (go_simp; with_reducible rfl))); rotate_left; simp only [Act.put, List.setIfInBounds_toArray, List.set_cons_zero, List.set_cons_succ])
        (refine qv1 15 (v := ?_) (by rfl) (by rfl) (fun ev hc hf h0 W hW => ?_) ?_; rotate_left; (focus (obtain ⟨c0, c1, c2, c3⟩ := HS W hW; first | (go_simp; done) | (go_simp; with_reducible rfl))); rotate_left; simp only [Act.put, List.setIfInBounds_toArray, List.set_cons_zero, List.set_cons_succ])
        (refine qv1 16 (v := ?_) (by rfl) (by rfl) (fun ev hc hf h0 W hW => ?_) ?_; rotate_left; (focus (obtain ⟨c0, c1, c2, c3⟩ := HS W hW; first | (go_simp; done) | (go_simp; with_reducible rfl))); rotate_left; simp only [Act.put, List.setIfInBounds_toArray, List.set_cons_zero, List.set_cons_succ])
        (refine qv1 4 (v := ?_) (by rfl) (by rfl) (fun ev hc hf h0 W hW => ?_) ?_; rotate_left; (focus (obtain ⟨c0, c1, c2, c3⟩ := HS W hW; first | (go_simp; done) | (go_simp; with_reducible rfl))); rotate_left; simp only [Act.put, List.setIfInBounds_toArray, List.set_cons_zero, List.set_cons_succ])
        (refine qc2 17 18 _ _ _ (by rfl) (by rfl) (by rfl) (fun ev hc hf h0 h1 W hW => ?_) (fun W hW => q_calls hW (K1.out W)) ?_; (focus (obtain ⟨c0, c1, c2, c3⟩ := HS W hW; go_simp; done)); simp only [Act.put, List.setIfInBounds_toArray, List.set_cons_zero, List.set_cons_succ])
        refine qnil ?_
        intro w2 hW2
        have k12 := k1.bel hW2
        have k32 := k3.bel hW2
        have HB2 := HB1.trans (Below.mono hW2 HB1.size)
        clear k1 k3 HB1 hW2 HS K1
        obtain ⟨c0, c1, c2, c3, c4, c5⟩ := k32.acc
        have g0 := k32.free 0
        have g1 := k32.free 1
        have g2 := k32.free 2
        have g3 := k32.free 3
        have g4 := k32.free 4
        have g5 := k32.free 5
        have d0 : w2.cell? ⟨w.heap.size, 0, none⟩ = _ := k12.cell 0
        have d1 : w2.cell? ⟨w.heap.size, 1, none⟩ = _ := k12.cell 1
        simp at d0 d1
        have hne : w.heap.size ≠ g := by omega
        have hne' : g ≠ w.heap.size := by omega
        go_wp2
        go_ret2
        exact RAcpt.mk HE.out ((((((k32.set 0 _).set 1 _).set 2 _).set 3 _).set 4 _).set 5 _) (grown_set (grown_set (grown_set (grown_set (grown_set (grown_set (grown_bel HB2) 0 _) 1 _) 2 _) 3 _) 4 _) 5 _)

end Go.Proofs.Ytlgljcfkoakogaa
