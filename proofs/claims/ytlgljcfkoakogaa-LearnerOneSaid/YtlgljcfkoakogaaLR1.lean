import Derived.Test.YtlgljcfkoakogaaL7
namespace Go.Proofs.Ytlgljcfkoakogaa
open Go.RowKit
set_option linter.unusedSimpArgs false
set_option linter.unusedVariables false


open Go.Maps Go.Shelf
/-- The document's learner in block g, its rows in block q. -/
structure RefAt (W : World) (g q : Nat) (L : Lrn) : Prop where
  bk : Bk W g #[.int .i64 L.n, .slice (some ⟨q, 0, none⟩) L.n L.n, .bool L.known, .string L.val] 80
  row : ∀ i : Nat, i < L.n → W.cell? ⟨q, i * 4, none⟩ = some (.bool (L.f i).isSome) ∧ W.cell? ⟨q, i * 4 + 1, none⟩ = some (.int .u64 ((L.f i).getD (0, 0, ⟨#[]⟩)).1) ∧ W.cell? ⟨q, i * 4 + 2, none⟩ = some (.int .i64 ((L.f i).getD (0, 0, ⟨#[]⟩)).2.1) ∧
    W.cell? ⟨q, i * 4 + 3, none⟩ = some (.string ((L.f i).getD (0, 0, ⟨#[]⟩)).2.2)
  fr : ∀ o, W.frozen? ⟨q, o, none⟩ = false
  lt : q < W.heap.size
  ne : g ≠ q
  pos : 1 ≤ L.n
  few : L.n ≤ 7
section
variable {W W' : World} {g q m : Nat} {L : Lrn}
theorem RefAt.of (h : RefAt W g q L) (hg : W'.heap[g]? = W.heap[g]?) (hq : W'.heap[q]? = W.heap[q]?) : RefAt W' g q L := by
  refine ⟨hg.trans h.bk, fun i hi => ?_, fun o => ?_, ?_, h.ne, h.pos, h.few⟩
  · have := h.row i hi
    simp only [World.cell?, hq] at this ⊢
    exact this
  · have := h.fr o
    simp only [World.frozen?, hq] at this ⊢
    exact this
  · have h0 := h.lt
    rcases Nat.lt_or_ge q W'.heap.size with h1 | h1
    · exact h1
    · rw [Array.getElem?_eq_none h1, Array.getElem?_eq_getElem h0] at hq
      cases hq
theorem RefAt.keep (h : RefAt W g q L) (hb : Below W.heap.size W W') : RefAt W' g q L := h.of (hb.block _ h.bk.lt) (hb.block _ h.lt)
theorem RefAt.know (h : RefAt W g q L) (v : ByteArray) : RefAt ((W.setCell ⟨g, 2, none⟩ (.bool true)).setCell ⟨g, 3, none⟩ (.string v)) g q { L with known := true, val := v } := by
  have hq : ((W.setCell ⟨g, 2, none⟩ (.bool true)).setCell ⟨g, 3, none⟩ (.string v)).heap[q]? = W.heap[q]? := (far_block h.ne.symm _).trans (far_block h.ne.symm _)
  refine ⟨by simpa using (h.bk.set 2 (.bool true)).set 3 (.string v), fun i hi => ?_, fun o => ?_, by simpa [World.setCell] using h.lt, h.ne, h.pos, h.few⟩
  · have := h.row i hi
    simp only [World.cell?, hq] at this ⊢
    exact this
  · have := h.fr o
    simp only [World.frozen?, hq] at this ⊢
    exact this
theorem RefAt.cells (h : RefAt W g q L) : W.cell? ⟨g, 0, none⟩ = some (.int .i64 L.n) ∧ W.cell? ⟨g, 1, none⟩ = some (.slice (some ⟨q, 0, none⟩) L.n L.n) ∧ W.cell? ⟨g, 2, none⟩ = some (.bool L.known) ∧ W.cell? ⟨g, 3, none⟩ = some (.string L.val) ∧ g < W.heap.size :=
  ⟨h.bk.cell 0, h.bk.cell 1, h.bk.cell 2, h.bk.cell 3, h.bk.lt⟩
end
theorem Try.info46 : (Try.prog.info? 46).map (fun i => (i.zero, i.size, i.bytes)) = some (some (.agg #[.bool false, .int .u64 0, .int .i64 0, .string ⟨#[]⟩]), 4, 40) := by kernel_rfl
set_option maxRecDepth 100000
set_option maxHeartbeats 3200000
theorem row_lt4 {w : World} {base q : Nat} {e : TypeId} {size n c : Nat} {xs : List Value} (h : w.ownsRow base e size (.slice (some ⟨q, 0, none⟩) n c) n xs) : q < w.heap.size := (h.lt q rfl).2
theorem made4 (N i : Nat) (h : i < N) (a b c d : Value) (k : Nat) (hk : k < 4) : (madeCells #[a, b, c, d] (N * 4)).toList[i * 4 + k]? = #[a, b, c, d][k]? := by
  have hj : i * 4 + k < N * 4 := by omega
  have hm : (i * 4 + k) % 4 = k := by omega
  simp [madeCells, hj, hm]
  match k, hk with
  | 0, _ => rfl
  | 1, _ => rfl
  | 2, _ => rfl
  | 3, _ => rfl
theorem rnew_good (N : Nat) (h1 : 1 ≤ N) (h7 : N ≤ 7) (W : World) : Calls Try.prog 42 #[.int .i64 N] W fun e W' => ∃ g q, e = .returned (.pointer (some ⟨g, 0, none⟩)) ∧ RefAt W' g q (lrnNew N) ∧ W.heap.size ≤ g ∧ W.heap.size ≤ q ∧ Below W.heap.size W W' := by
  obtain ⟨i0, hi, iz0, iz1, iz2⟩ := info_parts Try.info46
  go_enter Try.func42, Try.ntmps42
  go_wp2_with (at_make; refine wpList_make_full _ rfl _ _ 78 rfl W.heap.size 46 i0 _ 4 Try.underlying78 hi iz0 iz1 _ _ _ _ N rfl rfl rfl rfl (by rw [iz2]; omega) (by unfold maxLen; omega) (Nat.le_refl _) ?_)
  intro w1 hown hgrow
  have hb : Below W.heap.size W w1 := (Below.refl _ _).grown hgrow (Nat.le_refl _) (fun k e => by cases e)
  have HO := Lib.hid hown
  clear hown hgrow
  go_wp2_with fail
  go_ret
  have hq := row_lt4 HO.out
  have hown := HO.out.alloc (.cells #[.int .i64 N, .slice (some ⟨W.heap.size, 0, none⟩) N N, .bool false, .string ⟨#[]⟩] 80)
  refine ⟨w1.heap.size, W.heap.size, rfl, ⟨Bk.new w1 _ 80, fun i hi' => ?_, fun o => hown.frozenAt o, by simp; omega, by omega, h1, h7⟩, by omega, Nat.le_refl _, hb.alloc hb.size _⟩
  have hi'' : i < N := hi'
  have e : ∀ k, k < 4 → _ := fun k hk => (hown.cellAt (i * 4 + k) (by omega)).trans (by
    have h9 := made4 N i hi'' (.bool false) (.int .u64 0) (.int .i64 0) (.string ⟨#[]⟩) k hk
    exact h9)
  exact ⟨e 0 (by omega), e 1 (by omega), e 2 (by omega), e 3 (by omega)⟩
theorem rtold_any {W : World} {g q : Nat} {L : Lrn} (v : ByteArray) (h : RefAt W g q L) : Calls Try.prog 44 #[.pointer (some ⟨g, 0, none⟩), .string v] W fun e W' =>
    e = .returned (.tuple #[.bool (lTold L v).1, .int .i64 (lTold L v).2.1]) ∧ RefAt W' g q (lTold L v).2.2 ∧ Kept (fun k => k = g) W W' := by
  obtain ⟨c0, c1, c2, c3, hz⟩ := h.cells
  have H := Lib.hid h
  by_cases hl : (8192 : Int) < (v.size : Int)
  · rw [show lTold L v = (false, 4, L) by unfold lTold; rw [if_pos (by omega)]]
    clear h c0 c1 c2 c3
    go_enter Try.func44, Try.ntmps44
    go_wp2_with fail
    exact bodyPost_ret (v := .tuple #[.bool false, .int .i64 4]) (by simp [results, Try.results44, go_sem]) rfl ⟨rfl, H.out, Kept.refl _ _⟩
  · by_cases hk : L.known = true
    · by_cases he : L.val = v
      · rw [show lTold L v = (false, 0, L) by unfold lTold; rw [if_neg (by omega), if_pos hk, if_pos he]]
        rw [hk] at c2
        rw [he] at c3
        clear h c0 c1 hk he
        go_enter Try.func44, Try.ntmps44
        go_wp2_with fail
        exact bodyPost_ret (v := .tuple #[.bool false, .int .i64 0]) (by simp [results, Try.results44, go_sem]) rfl ⟨rfl, H.out, Kept.refl _ _⟩
      · rw [show lTold L v = (false, 150, L) by unfold lTold; rw [if_neg (by omega), if_pos hk, if_neg he]]
        rw [hk] at c2
        clear h c0 c1 hk
        generalize L.val = lv at c3 he
        have he1 : (lv.toList == v.toList) = false := str_ne he
        clear he
        go_enter Try.func44, Try.ntmps44
        go_wp2_with fail
        exact bodyPost_ret (v := .tuple #[.bool false, .int .i64 150]) (by simp [results, Try.results44, go_sem]) rfl ⟨rfl, H.out, Kept.refl _ _⟩
    · have hk' : L.known = false := by simpa using hk
      rw [show lTold L v = (true, 0, { L with known := true, val := v }) by unfold lTold; rw [if_neg (by omega), if_neg hk]]
      rw [hk'] at c2
      have f2 := h.bk.free 2
      have f3 := h.bk.free 3
      have hb := (h.bk.set 2 (.bool true)).set 3 (.string v)
      have HB := Lib.hid hb
      clear h c0 c1 hk hk' hb
      go_enter Try.func44, Try.ntmps44
      go_wp2_with fail
      refine bodyPost_ret (v := .tuple #[.bool true, .int .i64 0]) (by simp [results, Try.results44, go_sem]) rfl ⟨rfl, ?_, ((Kept.refl (fun k => k = g) W).set (F := fun k => k = g) (g := g) rfl _).set (F := fun k => k = g) (g := g) rfl _⟩
      exact H.out.know v

end Go.Proofs.Ytlgljcfkoakogaa
