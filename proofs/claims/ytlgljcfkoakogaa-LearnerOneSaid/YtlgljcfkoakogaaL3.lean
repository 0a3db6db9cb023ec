import Derived.Test.YtlgljcfkoakogaaL2
namespace Go.Proofs.Ytlgljcfkoakogaa
open Go.RowKit
set_option linter.unusedSimpArgs false
set_option linter.unusedVariables false


open Go.Maps Go.Shelf
/-- What is not of F is as it was. -/
structure Kept (F : Nat → Prop) (W W' : World) : Prop where
  os : W'.os = W.os
  tape : W'.tape = W.tape
  output : W'.output = W.output
  size : W.heap.size ≤ W'.heap.size
  block : ∀ k, k < W.heap.size → ¬ F k → W'.heap[k]? = W.heap[k]?
theorem Kept.refl (F : Nat → Prop) (W : World) : Kept F W W := ⟨rfl, rfl, rfl, Nat.le_refl _, fun _ _ _ => rfl⟩
theorem Kept.trans {F : Nat → Prop} {a b c : World} (h : Kept F a b) (k : Kept F b c) : Kept F a c :=
  ⟨k.os.trans h.os, k.tape.trans h.tape, k.output.trans h.output, Nat.le_trans h.size k.size, fun i hi hF => (k.block i (Nat.lt_of_lt_of_le hi h.size) hF).trans (h.block i hi hF)⟩
theorem Kept.of_below {F : Nat → Prop} {a b : World} (h : Below a.heap.size a b) : Kept F a b := ⟨h.os, h.tape, h.output, h.size, fun k hk _ => h.block k hk⟩
theorem Kept.below {F : Nat → Prop} {B : Nat} {w a b : World} (h : Kept F a b) (hb : Below B w a) (hF : ∀ k, F k → B ≤ k) (hB : B ≤ a.heap.size) : Below B w b :=
  ⟨h.os.trans hb.os, h.tape.trans hb.tape, h.output.trans hb.output, Nat.le_trans hb.size h.size, fun k hk => (h.block k (by omega) (fun hf => by have := hF k hf; omega)).trans (hb.block k hk)⟩
theorem Kept.set {F : Nat → Prop} {a b : World} (h : Kept F a b) {g i : Nat} (hF : F g) (v : Value) : Kept F a (b.setCell ⟨g, i, none⟩ v) :=
  ⟨h.os, h.tape, h.output, by simpa [World.setCell] using h.size, fun k hk hn => (Below.heap_setCell b _ v k (fun e => hn (by rw [e]; exact hF))).trans (h.block k hk hn)⟩
/-- A learner: how many nodes; who has accepted what last; what is known. -/
structure Lrn where
  n : Nat
  f : Int → Option Sd
  known : Bool
  val : ByteArray
  nn : Nat
structure LrnAt (W : World) (g mb : Nat) (L : Lrn) : Prop where
  bk : Bk W g #[.int .i64 L.n, .map (some mb), .bool L.known, .string L.val] 120
  said : SaidIs W mb L.nn L.f
  pos : 1 ≤ L.n
  few : L.n ≤ 7
  keys : ∀ x c, L.f x = some c → 0 ≤ x ∧ x < L.n
section
variable {W W' : World} {g mb : Nat} {L : Lrn}
theorem LrnAt.keep (h : LrnAt W g mb L) (hb : Below W.heap.size W W') : LrnAt W' g mb L := ⟨h.bk.bel hb, h.said.kept (hb.block _ h.said.lt), h.pos, h.few, h.keys⟩
theorem LrnAt.ne (h : LrnAt W g mb L) : g ≠ mb := by
  intro e
  obtain ⟨D, ⟨es, c, hb, _⟩, _⟩ := h.said
  have := h.bk
  rw [e] at this
  have h2 := this.symm.trans hb
  cases h2
theorem LrnAt.cells (h : LrnAt W g mb L) : W.cell? ⟨g, 0, none⟩ = some (.int .i64 L.n) ∧ W.cell? ⟨g, 1, none⟩ = some (.map (some mb)) ∧ W.cell? ⟨g, 2, none⟩ = some (.bool L.known) ∧ W.cell? ⟨g, 3, none⟩ = some (.string L.val) ∧ g < W.heap.size :=
  ⟨h.bk.cell 0, h.bk.cell 1, h.bk.cell 2, h.bk.cell 3, h.bk.lt⟩
end
theorem str_inj {a b : ByteArray} (h : a.toList = b.toList) : a = b := by
  apply ByteArray.ext
  apply Array.toList_inj.1
  simpa [ByteArray.toList_eq] using h
theorem str_ne {a b : ByteArray} (h : ¬ a = b) : (a.toList == b.toList) = false := by
  simp only [beq_eq_false_iff_ne, ne_eq]
  exact fun e => h (str_inj e)
def lrnNew (n : Nat) : Lrn := ⟨n, fun _ => none, false, ⟨#[]⟩, 0⟩
set_option maxRecDepth 100000
set_option maxHeartbeats 1600000
theorem lnew_bad (n : Int) (h : n < 1 ∨ 7 < n) (W : World) : Calls Try.prog 41 #[.int .i64 n] W fun e W' => e = .returned (.tuple #[.pointer none, .int .i64 2]) ∧ W = W' := by
  rcases h with h | h
  · go_enter Try.func41, Try.ntmps41
    go_wp2_with fail
    exact bodyPost_ret (v := .tuple #[.pointer none, .int .i64 2]) (by simp [results, Try.results41, go_sem]) rfl ⟨rfl, rfl⟩
  · have h' : ¬ n < 1 := by omega
    go_enter Try.func41, Try.ntmps41
    go_wp2_with fail
    exact bodyPost_ret (v := .tuple #[.pointer none, .int .i64 2]) (by simp [results, Try.results41, go_sem]) rfl ⟨rfl, rfl⟩
theorem lnew_good (n : Nat) (h1 : 1 ≤ n) (h7 : n ≤ 7) (W : World) : Calls Try.prog 41 #[.int .i64 n] W fun e W' => e = .returned (.tuple #[.pointer (some ⟨W.heap.size + 1, 0, none⟩), .int .i64 0]) ∧ LrnAt W' (W.heap.size + 1) W.heap.size (lrnNew n) ∧ Below W.heap.size W W' := by
  have a1 : ¬ (n : Int) < 1 := by omega
  have a2 : ¬ (7 : Int) < n := by omega
  have hmm := @run_makeMap Try.prog
  go_enter Try.func41, Try.ntmps41
  go_wp2_with fail
  refine bodyPost_ret (v := .tuple #[.pointer (some ⟨W.heap.size + 1, 0, none⟩), .int .i64 0]) (by simp [results, Try.results41, go_sem]) rfl ⟨rfl, ⟨?_, ?_, h1, h7, fun x c h => by cases h⟩, ((Below.refl _ _).alloc (Nat.le_refl _) _).alloc (by simp) _⟩
  · have := Bk.new (W.alloc (.map #[] 0)) #[.int .i64 (n : Int), .map (some W.heap.size), .bool false, .string ⟨#[]⟩] 120
    rw [World.size_alloc] at this
    exact this
  · exact (SaidIs.made W).kept (((Below.refl _ _).alloc (Nat.le_refl _) _).block _ (by simp))
theorem lchosen_nil (W : World) : Calls Try.prog 47 #[.pointer none] W fun e W' => e = .returned (.tuple #[.string ⟨#[]⟩, .bool false]) ∧ W = W' := by
  go_enter Try.func47, Try.ntmps47
  go_wp2_with fail
  exact bodyPost_ret (v := .tuple #[.string ⟨#[]⟩, .bool false]) (by simp [results, Try.results47, go_sem]) rfl ⟨rfl, rfl⟩
theorem lchosen_any {W : World} {g mb : Nat} {L : Lrn} (h : LrnAt W g mb L) : Calls Try.prog 47 #[.pointer (some ⟨g, 0, none⟩)] W fun e W' => e = .returned (.tuple #[.string L.val, .bool L.known]) ∧ Below W.heap.size W W' := by
  obtain ⟨c0, c1, c2, c3, hz⟩ := h.cells
  have HS := Lib.hid (show ∀ w', Bel W w' → w'.cell? ⟨g, 2, none⟩ = some (.bool L.known) ∧ w'.cell? ⟨g, 3, none⟩ = some (.string L.val) from fun w' hw => ⟨Bel.cell hw c2, Bel.cell hw c3⟩)
  generalize L.val = lv at HS c3 ⊢
  generalize L.known = lk at HS c2 ⊢
  clear h c0 c1 c2 c3
  go_enter Try.func47, Try.ntmps47
  go_upto_region 3 with fail
  refine wp_qw (by kernel_rfl) ?_
  (refine qv1 0 (v := ?_) (by rfl) (by rfl) (fun ev hc hf h0 W hW => ?_) ?_; rotate_left; (focus (obtain ⟨e2, e3⟩ := HS W hW; first | (go_simp; done) | (go_simp; with_reducible rfl))); rotate_left; simp only [Act.put, List.setIfInBounds_toArray, List.set_cons_zero, List.set_cons_succ])
  (refine qv1 6 (v := ?_) (by rfl) (by rfl) (fun ev hc hf h0 W hW => ?_) ?_; rotate_left; (focus (obtain ⟨e2, e3⟩ := HS W hW; first | (go_simp; done) | (go_simp; with_reducible rfl))); rotate_left; simp only [Act.put, List.setIfInBounds_toArray, List.set_cons_zero, List.set_cons_succ])
  (refine qv1 7 (v := ?_) (by rfl) (by rfl) (fun ev hc hf h0 W hW => ?_) ?_; rotate_left; (focus (obtain ⟨e2, e3⟩ := HS W hW; first | (go_simp; done) | (go_simp; with_reducible rfl))); rotate_left; simp only [Act.put, List.setIfInBounds_toArray, List.set_cons_zero, List.set_cons_succ])
  (refine qv1 8 (v := ?_) (by rfl) (by rfl) (fun ev hc hf h0 W hW => ?_) ?_; rotate_left; (focus (obtain ⟨e2, e3⟩ := HS W hW; first | (go_simp; done) | (go_simp; with_reducible rfl))); rotate_left; simp only [Act.put, List.setIfInBounds_toArray, List.set_cons_zero, List.set_cons_succ])
  (refine qv1 0 (v := ?_) (by rfl) (by rfl) (fun ev hc hf h0 W hW => ?_) ?_; rotate_left; (focus (obtain ⟨e2, e3⟩ := HS W hW; first | (go_simp; done) | (go_simp; with_reducible rfl))); rotate_left; simp only [Act.put, List.setIfInBounds_toArray, List.set_cons_zero, List.set_cons_succ])
  (refine qv1 10 (v := ?_) (by rfl) (by rfl) (fun ev hc hf h0 W hW => ?_) ?_; rotate_left; (focus (obtain ⟨e2, e3⟩ := HS W hW; first | (go_simp; done) | (go_simp; with_reducible rfl))); rotate_left; simp only [Act.put, List.setIfInBounds_toArray, List.set_cons_zero, List.set_cons_succ])
  (refine qv1 11 (v := ?_) (by rfl) (by rfl) (fun ev hc hf h0 W hW => ?_) ?_; rotate_left; (focus (obtain ⟨e2, e3⟩ := HS W hW; first | (go_simp; done) | (go_simp; with_reducible rfl))); rotate_left; simp only [Act.put, List.setIfInBounds_toArray, List.set_cons_zero, List.set_cons_succ])
  (refine qv1 12 (v := ?_) (by rfl) (by rfl) (fun ev hc hf h0 W hW => ?_) ?_; rotate_left; (focus (obtain ⟨e2, e3⟩ := HS W hW; first | (go_simp; done) | (go_simp; with_reducible rfl))); rotate_left; simp only [Act.put, List.setIfInBounds_toArray, List.set_cons_zero, List.set_cons_succ])
  (refine qv1 9 (v := ?_) (by rfl) (by rfl) (fun ev hc hf h0 W hW => ?_) ?_; rotate_left; (focus (obtain ⟨e2, e3⟩ := HS W hW; first | (go_simp; done) | (go_simp; with_reducible rfl))); rotate_left; simp only [Act.put, List.setIfInBounds_toArray, List.set_cons_zero, List.set_cons_succ])
  (refine qv1 13 (v := ?_) (by rfl) (by rfl) (fun ev hc hf h0 W hW => ?_) ?_; rotate_left; (focus (obtain ⟨e2, e3⟩ := HS W hW; first | (go_simp; done) | (go_simp; with_reducible rfl))); rotate_left; simp only [Act.put, List.setIfInBounds_toArray, List.set_cons_zero, List.set_cons_succ])
  refine qnil ?_
  intro w9 hW9
  go_wp2_with fail
  exact bodyPost_ret (v := .tuple #[.string lv, .bool lk]) (by simp [results, Try.results47, go_sem]) rfl ⟨rfl, hW9⟩
theorem ltold_nil (v : ByteArray) (W : World) : Calls Try.prog 43 #[.pointer none, .string v] W fun e W' => e = .returned (.tuple #[.bool false, .int .i64 1]) ∧ W = W' := by
  go_enter Try.func43, Try.ntmps43
  go_wp2_with fail
  exact bodyPost_ret (v := .tuple #[.bool false, .int .i64 1]) (by simp [results, Try.results43, go_sem]) rfl ⟨rfl, rfl⟩
/-- Told. -/
noncomputable def lTold (L : Lrn) (v : ByteArray) : Bool × Int × Lrn :=
  open Classical in
  if 8192 < v.size then (false, 4, L) else if L.known = true then (if L.val = v then (false, 0, L) else (false, 150, L)) else (true, 0, { L with known := true, val := v })
theorem ltold_any {W : World} {g mb : Nat} {L : Lrn} (v : ByteArray) (h : LrnAt W g mb L) : Calls Try.prog 43 #[.pointer (some ⟨g, 0, none⟩), .string v] W fun e W' =>
    e = .returned (.tuple #[.bool (lTold L v).1, .int .i64 (lTold L v).2.1]) ∧ LrnAt W' g mb (lTold L v).2.2 ∧ Kept (fun k => k = g) W W' := by
  obtain ⟨c0, c1, c2, c3, hz⟩ := h.cells
  have H := Lib.hid h
  by_cases hl : (8192 : Int) < (v.size : Int)
  · rw [show lTold L v = (false, 4, L) by unfold lTold; rw [if_pos (by omega)]]
    clear h c0 c1 c2 c3
    go_enter Try.func43, Try.ntmps43
    go_wp2_with fail
    exact bodyPost_ret (v := .tuple #[.bool false, .int .i64 4]) (by simp [results, Try.results43, go_sem]) rfl ⟨rfl, H.out, Kept.refl _ _⟩
  · by_cases hk : L.known = true
    · by_cases he : L.val = v
      · rw [show lTold L v = (false, 0, L) by unfold lTold; rw [if_neg (by omega), if_pos hk, if_pos he]]
        rw [hk] at c2
        rw [he] at c3
        clear h c0 c1 hk he
        go_enter Try.func43, Try.ntmps43
        go_wp2_with fail
        exact bodyPost_ret (v := .tuple #[.bool false, .int .i64 0]) (by simp [results, Try.results43, go_sem]) rfl ⟨rfl, H.out, Kept.refl _ _⟩
      · rw [show lTold L v = (false, 150, L) by unfold lTold; rw [if_neg (by omega), if_pos hk, if_neg he]]
        rw [hk] at c2
        clear h c0 c1 hk
        generalize L.val = lv at c3 he
        have he1 : (lv.toList == v.toList) = false := str_ne he
        clear he
        go_enter Try.func43, Try.ntmps43
        go_wp2_with fail
        exact bodyPost_ret (v := .tuple #[.bool false, .int .i64 150]) (by simp [results, Try.results43, go_sem]) rfl ⟨rfl, H.out, Kept.refl _ _⟩
    · have hk' : L.known = false := by simpa using hk
      rw [show lTold L v = (true, 0, { L with known := true, val := v }) by unfold lTold; rw [if_neg (by omega), if_neg hk]]
      rw [hk'] at c2
      have f2 := h.bk.free 2
      have f3 := h.bk.free 3
      have hb := (h.bk.set 2 (.bool true)).set 3 (.string v)
      have HB := Lib.hid hb
      clear h c0 c1 hk hk' hb
      go_enter Try.func43, Try.ntmps43
      go_wp2_with fail
      refine bodyPost_ret (v := .tuple #[.bool true, .int .i64 0]) (by simp [results, Try.results43, go_sem]) rfl ⟨rfl, ⟨?_, ?_, H.out.pos, H.out.few, H.out.keys⟩, ((Kept.refl (fun k => k = g) W).set (F := fun k => k = g) (g := g) rfl _).set (F := fun k => k = g) (g := g) rfl _⟩
      · simpa using HB.out
      · exact H.out.said.kept ((Below.heap_setCell _ _ _ _ H.out.ne.symm).trans (Below.heap_setCell _ _ _ _ H.out.ne.symm))

end Go.Proofs.Ytlgljcfkoakogaa
