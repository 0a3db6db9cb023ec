import Derived.Test.YtlgljcfkoakogaaLR2
import Derived.Deep.DeepCutAuto
import Derived.OwnWalk
import Derived.Maps.AppendAt
namespace Go.Proofs.Ytlgljcfkoakogaa
open Go.RowKit
set_option linter.unusedSimpArgs false
set_option linter.unusedVariables false


open Go.Maps Go.Shelf
theorem eq_same (r n : Int) (w : World) : (binOp .eql 24 (.agg #[.int .u64 r, .int .i64 n]) (.agg #[.int .u64 r, .int .i64 n])).run Try.prog w = .ok (.bool true) w := by go_simp
theorem eq_other {a b r n : Int} (h : ¬ (a = r ∧ b = n)) (w : World) : (binOp .eql 24 (.agg #[.int .u64 a, .int .i64 b]) (.agg #[.int .u64 r, .int .i64 n])).run Try.prog w = .ok (.bool false) w := by
  by_cases hr : a = r
  · have hn : ¬ b = n := fun e => h ⟨hr, e⟩
    clear h
    go_simp
  · clear h
    go_simp
/-- Another node has accepted another value by the ballot. -/
def Bad (L : Lrn) (k : Nat) (r n : Int) (v : ByteArray) (j : Nat) : Prop := j ≠ k ∧ ∃ u, L.f (j : Int) = some (r, n, u) ∧ ¬ u = v
def NoBad (L : Lrn) (k : Nat) (r n : Int) (v : ByteArray) (m : Nat) : Prop := ∀ j, j < m → ¬ Bad L k r n v j
theorem NoBad.step {L : Lrn} {k m : Nat} {r n : Int} {v : ByteArray} (h : NoBad L k r n v m) (hm : ¬ Bad L k r n v m) : NoBad L k r n v (m + 1) := fun j hj => by
  rcases Nat.lt_or_ge j m with h1 | h1
  · exact h j h1
  · obtain rfl : j = m := by omega
    exact hm
theorem Bad.other {L : Lrn} {k j : Nat} {r n : Int} {v : ByteArray} (h : Bad L k r n v j) (hk : ∀ c, L.f (j : Int) = some c → (j : Int) < 7) : otherB L.f r n v = true := by
  obtain ⟨_, u, hu, hne⟩ := h
  exact otherB_iff.2 ⟨j, u, by have := hk _ hu; omega, hu, hne⟩
theorem NoBad.other {L : Lrn} {k : Nat} {r n : Int} {v : ByteArray} (h : NoBad L k r n v L.n) (hkeys : ∀ y c, L.f y = some c → 0 ≤ y ∧ y < L.n) (hpass : ∀ c, L.f k = some c → aboveB r n c.1 c.2.1 = true) : ¬ otherB L.f r n v = true := by
  rw [otherB_iff]
  rintro ⟨y, u, _, hu, hne⟩
  have hy := hkeys y _ hu
  obtain ⟨j, rfl⟩ : ∃ j : Nat, y = j := ⟨y.toNat, by omega⟩
  refine h j (by omega) ⟨?_, u, hu, hne⟩
  rintro rfl
  have h1 := (above_cmp r n r n).1 (hpass _ hu)
  have h2 := cmpB_sym r n r n
  omega
theorem cs_same {w : World} {q o : Nat} {x u : Value} (h : w.cell? ⟨q, o, none⟩ = some u) : (w.setCell ⟨q, o, none⟩ x).cell? ⟨q, o, none⟩ = some x := World.cell?_setCell_same' _ _ _ (by rw [h]; rfl)
theorem cs_ne {w : World} {q o o' : Nat} {x u : Value} (h : w.cell? ⟨q, o, none⟩ = some u) (hne : o' ≠ o) : (w.setCell ⟨q, o', none⟩ x).cell? ⟨q, o, none⟩ = some u := by
  rw [World.cell?_setCell_other (h := (by intro e; injection e with e1 e2; exact hne e2))]
  exact h
theorem RefAt.put {W : World} {g q : Nat} {L : Lrn} (h : RefAt W g q L) (k : Nat) (hk : k < L.n) (hkn : L.known = false) (r n : Int) (v : ByteArray) :
    RefAt ((((W.setCell ⟨q, k * 4, none⟩ (.bool true)).setCell ⟨q, k * 4 + 1, none⟩ (.int .u64 r)).setCell ⟨q, k * 4 + 2, none⟩ (.int .i64 n)).setCell ⟨q, k * 4 + 3, none⟩ (.string v)) g q ⟨L.n, putF L.f k (r, n, v), false, L.val, L.nn + 1⟩ := by
  have hbk := h.bk
  rw [hkn] at hbk
  refine ⟨(((hbk.far h.ne _).far h.ne _).far h.ne _).far h.ne _, fun i hi => ?_, fun o => ?_, by simpa [World.setCell] using h.lt, h.ne, h.pos, h.few⟩
  · obtain ⟨r0, r1, r2, r3⟩ := h.row i hi
    by_cases e : i = k
    · subst e
      have hf : putF L.f (i : Int) (r, n, v) (i : Int) = some (r, n, v) := by unfold putF; rw [if_pos rfl]
      dsimp only
      rw [hf]
      exact ⟨cs_ne (cs_ne (cs_ne (cs_same r0) (by omega)) (by omega)) (by omega), cs_ne (cs_ne (cs_same (cs_ne r1 (by omega))) (by omega)) (by omega), cs_ne (cs_same (cs_ne (cs_ne r2 (by omega)) (by omega))) (by omega), cs_same (cs_ne (cs_ne (cs_ne r3 (by omega)) (by omega)) (by omega))⟩
    · have hf : putF L.f (k : Int) (r, n, v) (i : Int) = L.f i := by unfold putF; rw [if_neg (by omega)]
      dsimp only
      rw [hf]
      exact ⟨cs_ne (cs_ne (cs_ne (cs_ne r0 (by omega)) (by omega)) (by omega)) (by omega), cs_ne (cs_ne (cs_ne (cs_ne r1 (by omega)) (by omega)) (by omega)) (by omega), cs_ne (cs_ne (cs_ne (cs_ne r2 (by omega)) (by omega)) (by omega)) (by omega), cs_ne (cs_ne (cs_ne (cs_ne r3 (by omega)) (by omega)) (by omega)) (by omega)⟩
  · rw [World.frozen?_setCell, World.frozen?_setCell, World.frozen?_setCell, World.frozen?_setCell]
    exact h.fr o
theorem Kept.of_belowW {F : Nat → Prop} {W w : World} (h : Below W.heap.size W w) : Kept F W w := Kept.of_below h
theorem RefAt.drew {W : World} {g q : Nat} {L : Lrn} (h : RefAt W g q L) : RefAt W.drew g q L := h.of rfl rfl
theorem Kept.drew {F : Nat → Prop} {a b : World} (h : Kept F a b) : Kept F a b.drew := ⟨h.os, h.tape, h.output, h.size, h.block⟩
theorem row_bel {w w' : World} {base : Nat} {e : TypeId} {size n : Nat} {v : Value} {xs : List Value} (h : w.ownsRow base e size v n xs) (hb : Bel w w') : w'.ownsRow base e size v n xs :=
  h.kept (grown_of_below hb) (by cases hv : v.ownBlock; exact .inl rfl; exact .inr (by simp))
theorem Kept.grown {F : Nat → Prop} {W a b : World} {row : Option Nat} (h : Kept F W a) (hg : a.grownBy b row) (hr : ∀ k, row = some k → W.heap.size ≤ k) : Kept F W b :=
  ⟨hg.os.trans h.os, hg.tape.trans h.tape, hg.output.trans h.output, Nat.le_trans h.size hg.size, fun k hk hF => (hg.block k (Nat.lt_of_lt_of_le hk h.size) (fun e => by have := hr k e.symm; omega)).trans (h.block k hk hF)⟩
/-- The voters among the first m. -/
def vs (f : Int → Option Sd) (r n : Int) (m : Nat) : List Int := ((List.range m).map Int.ofNat).filter fun y => votesB (f y) r n
theorem vs_succ (f : Int → Option Sd) (r n : Int) (m : Nat) : vs f r n (m + 1) = vs f r n m ++ (if votesB (f m) r n = true then [(m : Int)] else []) := by
  unfold vs
  rw [List.range_succ, List.map_append, List.filter_append]
  congr 1
  by_cases h : votesB (f m) r n = true
  · rw [if_pos h]; simp [h]
  · rw [if_neg h]
    have h' : votesB (f m) r n = false := by simpa using h
    simp [h']
theorem vs_le (f : Int → Option Sd) (r n : Int) (m : Nat) : (vs f r n m).length ≤ m := by
  unfold vs
  refine Nat.le_trans (List.length_filter_le _ _) (by simp)
theorem vs_quo {f : Int → Option Sd} {r n : Int} {N : Nat} (hN : N ≤ 7) (hk : ∀ y c, f y = some c → 0 ≤ y ∧ y < N) (z : Int) : quoB (vs f r n N) z = quoB (voters f r n) z := by
  apply quoB_congr
  intro y
  rw [voters_mem]
  unfold vs
  rw [List.mem_filter, votesB_iff, List.mem_map]
  constructor
  · rintro ⟨⟨j, hj, rfl⟩, u, hu⟩
    have := hk _ _ hu
    exact ⟨by omega, u, hu⟩
  · rintro ⟨_, u, hu⟩
    have := hk _ _ hu
    exact ⟨⟨y.toNat, List.mem_range.2 (by omega), by simp; omega⟩, u, hu⟩
section
variable {W : World} {g q : Nat} {L : Lrn} (k : Nat) (r n : Int) (v : ByteArray)
set_option maxRecDepth 100000
set_option maxHeartbeats 6400000
theorem racc_none (h : RefAt W g q L) (hk : k < L.n) (hm : namedB r n = true) (hl : ¬ (8192 : Int) < (v.size : Int)) (hkn : L.known = false) (hkeys : ∀ y c, L.f y = some c → 0 ≤ y ∧ y < L.n) (hc : L.f k = none) : Calls Try.prog 46 #[.pointer (some ⟨g, 0, none⟩), .int .i64 k, .agg #[.int .u64 r, .int .i64 n], .string v] W fun e W' =>
    e = .returned (.tuple #[.bool (lNew L k r n v).1, .int .i64 (lNew L k r n v).2.1]) ∧ RefAt W' g q (lNew L k r n v).2.2 ∧ Kept (fun k => k = g ∨ k = q) W W' := by
  obtain ⟨d0, d1, d2, d3, dz⟩ := (h.keep ((Below.refl W.heap.size W).alloc (Nat.le_refl _) (.cells #[.int .u64 r, .int .i64 n] 24))).cells
  have a0 : ¬ (k : Int) < 0 := by omega
  have a1 : ¬ (L.n : Int) ≤ (k : Int) := by omega
  go_enter Try.func46, Try.ntmps46
  go_wp2_with fail
  refine (refNamed_any r n _).mono ?_
  rintro e w1 ⟨rfl, hb1⟩
  have X1 := Lib.hid ((h.keep ((Below.refl W.heap.size W).alloc (Nat.le_refl _) (.cells #[.int .u64 r, .int .i64 n] 24))).keep hb1)
  have B1 := (Bk.new W #[.int .u64 r, .int .i64 n] 24).bel hb1
  have HB1 := ((Below.refl W.heap.size W).alloc (Nat.le_refl _) (.cells #[.int .u64 r, .int .i64 n] 24)).trans (hb1.mono (by simp))
  clear hb1 d0 d1 d2 d3 dz
  rw [hm]
  go_upto_region 5 with fail
  have HS := Lib.hid (show ∀ w', Bel w1 w' → w'.cell? ⟨W.heap.size, 0, none⟩ = some (.int .u64 r) ∧ w'.cell? ⟨W.heap.size, 1, none⟩ = some (.int .i64 n) ∧ w'.cell? ⟨g, 1, none⟩ = some (.slice (some ⟨q, 0, none⟩) L.n L.n) ∧ w'.cell? ⟨g, 2, none⟩ = some (.bool L.known) ∧
      w'.cell? ⟨q, k * 4, none⟩ = some (.bool (L.f k).isSome) ∧ w'.cell? ⟨q, k * 4 + 1, none⟩ = some (.int .u64 ((L.f k).getD (0, 0, ⟨#[]⟩)).1) ∧ w'.cell? ⟨q, k * 4 + 2, none⟩ = some (.int .i64 ((L.f k).getD (0, 0, ⟨#[]⟩)).2.1) from fun w' hw => by
    have hX := X1.out.keep hw
    have hr := hX.row k (by omega)
    exact ⟨(B1.bel hw).cell 0, (B1.bel hw).cell 1, hX.cells.2.1, hX.cells.2.2.1, hr.1, hr.2.1, hr.2.2.1⟩)
  rw [hkn, hc] at HS
  simp only [Option.isSome_none, Option.getD_none] at HS
  refine wp_qw (by kernel_rfl) ?_
  (refine qv1 0 (v := ?_) (by rfl) (by rfl) (fun ev hc hf h0 W hW => ?_) ?_; rotate_left; (focus (obtain ⟨e0, e1, e2, e3, e4, e5, e6⟩ := HS.out W hW; first | (go_simp; done) | (go_simp; with_reducible rfl))); rotate_left; simp only [Act.put, List.setIfInBounds_toArray, List.set_cons_zero, List.set_cons_succ])
  (refine qv1 31 (v := ?_) (by rfl) (by rfl) (fun ev hc hf h0 W hW => ?_) ?_; rotate_left; (focus (obtain ⟨e0, e1, e2, e3, e4, e5, e6⟩ := HS.out W hW; first | (go_simp; done) | (go_simp; with_reducible rfl))); rotate_left; simp only [Act.put, List.setIfInBounds_toArray, List.set_cons_zero, List.set_cons_succ])
  (refine qv1 32 (v := ?_) (by rfl) (by rfl) (fun ev hc hf h0 W hW => ?_) ?_; rotate_left; (focus (obtain ⟨e0, e1, e2, e3, e4, e5, e6⟩ := HS.out W hW; first | (go_simp; done) | (go_simp; with_reducible rfl))); rotate_left; simp only [Act.put, List.setIfInBounds_toArray, List.set_cons_zero, List.set_cons_succ])
  (refine qv1 33 (v := ?_) (by rfl) (by rfl) (fun ev hc hf h0 W hW => ?_) ?_; rotate_left; (focus (obtain ⟨e0, e1, e2, e3, e4, e5, e6⟩ := HS.out W hW; first | (go_simp; done) | (go_simp; with_reducible rfl))); rotate_left; simp only [Act.put, List.setIfInBounds_toArray, List.set_cons_zero, List.set_cons_succ])
  (refine qv1 34 (v := ?_) (by rfl) (by rfl) (fun ev hc hf h0 W hW => ?_) ?_; rotate_left; (focus (obtain ⟨e0, e1, e2, e3, e4, e5, e6⟩ := HS.out W hW; first | (go_simp; done) | (go_simp; with_reducible rfl))); rotate_left; simp only [Act.put, List.setIfInBounds_toArray, List.set_cons_zero, List.set_cons_succ])
  first
    | (refine qskip (by rfl) ?_; simp only [Act.put, List.setIfInBounds_toArray, List.set_cons_zero, List.set_cons_succ])
    | (refine qv1 0 (v := ?_) (by rfl) (by rfl) (fun ev hc hf h0 W hW => ?_) ?_; rotate_left; (focus (obtain ⟨e0, e1, e2, e3, e4, e5, e6⟩ := HS.out W hW; first | (go_simp; done) | (go_simp; with_reducible rfl))); rotate_left; simp only [Act.put, List.setIfInBounds_toArray, List.set_cons_zero, List.set_cons_succ])
  first
    | (refine qskip (by rfl) ?_; simp only [Act.put, List.setIfInBounds_toArray, List.set_cons_zero, List.set_cons_succ])
    | (refine qv1 36 (v := ?_) (by rfl) (by rfl) (fun ev hc hf h0 W hW => ?_) ?_; rotate_left; (focus (obtain ⟨e0, e1, e2, e3, e4, e5, e6⟩ := HS.out W hW; first | (go_simp; done) | (go_simp; with_reducible rfl))); rotate_left; simp only [Act.put, List.setIfInBounds_toArray, List.set_cons_zero, List.set_cons_succ])
  first
    | (refine qskip (by rfl) ?_; simp only [Act.put, List.setIfInBounds_toArray, List.set_cons_zero, List.set_cons_succ])
    | (refine qv1 37 (v := ?_) (by rfl) (by rfl) (fun ev hc hf h0 W hW => ?_) ?_; rotate_left; (focus (obtain ⟨e0, e1, e2, e3, e4, e5, e6⟩ := HS.out W hW; first | (go_simp; done) | (go_simp; with_reducible rfl))); rotate_left; simp only [Act.put, List.setIfInBounds_toArray, List.set_cons_zero, List.set_cons_succ])
  first
    | (refine qskip (by rfl) ?_; simp only [Act.put, List.setIfInBounds_toArray, List.set_cons_zero, List.set_cons_succ])
    | (refine qv1 38 (v := ?_) (by rfl) (by rfl) (fun ev hc hf h0 W hW => ?_) ?_; rotate_left; (focus (obtain ⟨e0, e1, e2, e3, e4, e5, e6⟩ := HS.out W hW; first | (go_simp; done) | (go_simp; with_reducible rfl))); rotate_left; simp only [Act.put, List.setIfInBounds_toArray, List.set_cons_zero, List.set_cons_succ])
  first
    | (refine qskip (by rfl) ?_; simp only [Act.put, List.setIfInBounds_toArray, List.set_cons_zero, List.set_cons_succ])
    | (refine qv1 1 (v := ?_) (by rfl) (by rfl) (fun ev hc hf h0 W hW => ?_) ?_; rotate_left; (focus (obtain ⟨e0, e1, e2, e3, e4, e5, e6⟩ := HS.out W hW; first | (go_simp; done) | (go_simp; with_reducible rfl))); rotate_left; simp only [Act.put, List.setIfInBounds_toArray, List.set_cons_zero, List.set_cons_succ])
  first
    | (refine qskip (by rfl) ?_; simp only [Act.put, List.setIfInBounds_toArray, List.set_cons_zero, List.set_cons_succ])
    | (refine qv2 39 40 (v := ?_) (by rfl) (by rfl) (by rfl) (fun ev hc hf h0 h1 W hW => ?_) ?_; rotate_left; (focus (obtain ⟨e0, e1, e2, e3, e4, e5, e6⟩ := HS.out W hW; first | (go_simp; done) | (go_simp; with_reducible rfl))); rotate_left; simp only [Act.put, List.setIfInBounds_toArray, List.set_cons_zero, List.set_cons_succ])
  first
    | (refine qskip (by rfl) ?_; simp only [Act.put, List.setIfInBounds_toArray, List.set_cons_zero, List.set_cons_succ])
    | (refine qv1 41 (v := ?_) (by rfl) (by rfl) (fun ev hc hf h0 W hW => ?_) ?_; rotate_left; (focus (obtain ⟨e0, e1, e2, e3, e4, e5, e6⟩ := HS.out W hW; first | (go_simp; done) | (go_simp; with_reducible rfl))); rotate_left; simp only [Act.put, List.setIfInBounds_toArray, List.set_cons_zero, List.set_cons_succ])
  first
    | (refine qskip (by rfl) ?_; simp only [Act.put, List.setIfInBounds_toArray, List.set_cons_zero, List.set_cons_succ])
    | (refine qv1 42 (v := ?_) (by rfl) (by rfl) (fun ev hc hf h0 W hW => ?_) ?_; rotate_left; (focus (obtain ⟨e0, e1, e2, e3, e4, e5, e6⟩ := HS.out W hW; first | (go_simp; done) | (go_simp; with_reducible rfl))); rotate_left; simp only [Act.put, List.setIfInBounds_toArray, List.set_cons_zero, List.set_cons_succ])
  first
    | (refine qskip (by rfl) ?_; simp only [Act.put, List.setIfInBounds_toArray, List.set_cons_zero, List.set_cons_succ])
    | (refine qv1 43 (v := ?_) (by rfl) (by rfl) (fun ev hc hf h0 W hW => ?_) ?_; rotate_left; (focus (obtain ⟨e0, e1, e2, e3, e4, e5, e6⟩ := HS.out W hW; first | (go_simp; done) | (go_simp; with_reducible rfl))); rotate_left; simp only [Act.put, List.setIfInBounds_toArray, List.set_cons_zero, List.set_cons_succ])
  first
    | (refine qskip (by rfl) ?_; simp only [Act.put, List.setIfInBounds_toArray, List.set_cons_zero, List.set_cons_succ])
    | (refine qv1 6 (v := ?_) (by rfl) (by rfl) (fun ev hc hf h0 W hW => ?_) ?_; rotate_left; (focus (obtain ⟨e0, e1, e2, e3, e4, e5, e6⟩ := HS.out W hW; first | (go_simp; done) | (go_simp; with_reducible rfl))); rotate_left; simp only [Act.put, List.setIfInBounds_toArray, List.set_cons_zero, List.set_cons_succ])
  first
    | (refine qskip (by rfl) ?_; simp only [Act.put, List.setIfInBounds_toArray, List.set_cons_zero, List.set_cons_succ])
    | (refine qv1 0 (v := ?_) (by rfl) (by rfl) (fun ev hc hf h0 W hW => ?_) ?_; rotate_left; (focus (obtain ⟨e0, e1, e2, e3, e4, e5, e6⟩ := HS.out W hW; first | (go_simp; done) | (go_simp; with_reducible rfl))); rotate_left; simp only [Act.put, List.setIfInBounds_toArray, List.set_cons_zero, List.set_cons_succ])
  first
    | (refine qskip (by rfl) ?_; simp only [Act.put, List.setIfInBounds_toArray, List.set_cons_zero, List.set_cons_succ])
    | (refine qv1 46 (v := ?_) (by rfl) (by rfl) (fun ev hc hf h0 W hW => ?_) ?_; rotate_left; (focus (obtain ⟨e0, e1, e2, e3, e4, e5, e6⟩ := HS.out W hW; first | (go_simp; done) | (go_simp; with_reducible rfl))); rotate_left; simp only [Act.put, List.setIfInBounds_toArray, List.set_cons_zero, List.set_cons_succ])
  first
    | (refine qskip (by rfl) ?_; simp only [Act.put, List.setIfInBounds_toArray, List.set_cons_zero, List.set_cons_succ])
    | (refine qv1 47 (v := ?_) (by rfl) (by rfl) (fun ev hc hf h0 W hW => ?_) ?_; rotate_left; (focus (obtain ⟨e0, e1, e2, e3, e4, e5, e6⟩ := HS.out W hW; first | (go_simp; done) | (go_simp; with_reducible rfl))); rotate_left; simp only [Act.put, List.setIfInBounds_toArray, List.set_cons_zero, List.set_cons_succ])
  first
    | (refine qskip (by rfl) ?_; simp only [Act.put, List.setIfInBounds_toArray, List.set_cons_zero, List.set_cons_succ])
    | (refine qv1 48 (v := ?_) (by rfl) (by rfl) (fun ev hc hf h0 W hW => ?_) ?_; rotate_left; (focus (obtain ⟨e0, e1, e2, e3, e4, e5, e6⟩ := HS.out W hW; first | (go_simp; done) | (go_simp; with_reducible rfl))); rotate_left; simp only [Act.put, List.setIfInBounds_toArray, List.set_cons_zero, List.set_cons_succ])
  first
    | (refine qskip (by rfl) ?_; simp only [Act.put, List.setIfInBounds_toArray, List.set_cons_zero, List.set_cons_succ])
    | (refine qv1 1 (v := ?_) (by rfl) (by rfl) (fun ev hc hf h0 W hW => ?_) ?_; rotate_left; (focus (obtain ⟨e0, e1, e2, e3, e4, e5, e6⟩ := HS.out W hW; first | (go_simp; done) | (go_simp; with_reducible rfl))); rotate_left; simp only [Act.put, List.setIfInBounds_toArray, List.set_cons_zero, List.set_cons_succ])
  first
    | (refine qskip (by rfl) ?_; simp only [Act.put, List.setIfInBounds_toArray, List.set_cons_zero, List.set_cons_succ])
    | (refine qv2 49 50 (v := ?_) (by rfl) (by rfl) (by rfl) (fun ev hc hf h0 h1 W hW => ?_) ?_; rotate_left; (focus (obtain ⟨e0, e1, e2, e3, e4, e5, e6⟩ := HS.out W hW; first | (go_simp; done) | (go_simp; with_reducible rfl))); rotate_left; simp only [Act.put, List.setIfInBounds_toArray, List.set_cons_zero, List.set_cons_succ])
  first
    | (refine qskip (by rfl) ?_; simp only [Act.put, List.setIfInBounds_toArray, List.set_cons_zero, List.set_cons_succ])
    | (refine qv1 51 (v := ?_) (by rfl) (by rfl) (fun ev hc hf h0 W hW => ?_) ?_; rotate_left; (focus (obtain ⟨e0, e1, e2, e3, e4, e5, e6⟩ := HS.out W hW; first | (go_simp; done) | (go_simp; with_reducible rfl))); rotate_left; simp only [Act.put, List.setIfInBounds_toArray, List.set_cons_zero, List.set_cons_succ])
  first
    | (refine qskip (by rfl) ?_; simp only [Act.put, List.setIfInBounds_toArray, List.set_cons_zero, List.set_cons_succ])
    | (refine qv1 52 (v := ?_) (by rfl) (by rfl) (fun ev hc hf h0 W hW => ?_) ?_; rotate_left; (focus (obtain ⟨e0, e1, e2, e3, e4, e5, e6⟩ := HS.out W hW; first | (go_simp; done) | (go_simp; with_reducible rfl))); rotate_left; simp only [Act.put, List.setIfInBounds_toArray, List.set_cons_zero, List.set_cons_succ])
  first
    | (refine qskip (by rfl) ?_; simp only [Act.put, List.setIfInBounds_toArray, List.set_cons_zero, List.set_cons_succ])
    | (refine qc2 45 53 _ _ _ (by rfl) (by rfl) (by rfl) (fun ev hc hf h0 h1 W hW => ?_) (fun W hW => q_calls hW (K0.out W)) ?_; (focus (obtain ⟨e0, e1, e2, e3, e4, e5, e6⟩ := HS.out W hW; go_simp; done)); simp only [Act.put, List.setIfInBounds_toArray, List.set_cons_zero, List.set_cons_succ])
  first
    | (refine qskip (by rfl) ?_; simp only [Act.put, List.setIfInBounds_toArray, List.set_cons_zero, List.set_cons_succ])
    | (refine qv1 54 (v := ?_) (by rfl) (by rfl) (fun ev hc hf h0 W hW => ?_) ?_; rotate_left; (focus (obtain ⟨e0, e1, e2, e3, e4, e5, e6⟩ := HS.out W hW; first | (go_simp; done) | (go_simp; with_reducible rfl))); rotate_left; simp only [Act.put, List.setIfInBounds_toArray, List.set_cons_zero, List.set_cons_succ])
  first
    | (refine qskip (by rfl) ?_; simp only [Act.put, List.setIfInBounds_toArray, List.set_cons_zero, List.set_cons_succ])
    | (refine qv2 44 55 (v := ?_) (by rfl) (by rfl) (by rfl) (fun ev hc hf h0 h1 W hW => ?_) ?_; rotate_left; (focus (obtain ⟨e0, e1, e2, e3, e4, e5, e6⟩ := HS.out W hW; first | (go_simp; done) | (go_simp; with_reducible rfl))); rotate_left; simp only [Act.put, List.setIfInBounds_toArray, List.set_cons_zero, List.set_cons_succ])
  (refine qv2 35 56 (v := ?_) (by rfl) (by rfl) (by rfl) (fun ev hc hf h0 h1 W hW => ?_) ?_; rotate_left; (focus (obtain ⟨e0, e1, e2, e3, e4, e5, e6⟩ := HS.out W hW; first | (go_simp; done) | (go_simp; with_reducible rfl))); rotate_left; simp only [Act.put, List.setIfInBounds_toArray, List.set_cons_zero, List.set_cons_succ])
  refine qnil ?_
  intro w2 hW2
  have X2 := Lib.hid (X1.out.keep hW2)
  have B2 := B1.bel hW2
  have HB2 := HB1.trans (hW2.mono HB1.size)
  clear HS X1 B1 HB1 hW2
  obtain ⟨x0, x1, x2, x3, xz⟩ := X2.out.cells
  go_wp2_with fail
  go_loopw [10] (fun i wr => ∃ m : Nat, m ≤ L.n ∧ i = .int .i64 m ∧ Hid (NoBad L k r n v m) ∧ Hid (RefAt wr g q L) ∧ Bk wr W.heap.size #[.int .u64 r, .int .i64 n] 24 ∧ Below W.heap.size W wr) (fun i _ => L.n + 1 - (intOf i).toNat)
  case atStart => exact ⟨0, by omega, rfl, Lib.hid (fun j hj => by omega), X2, B2, HB2⟩
  case round =>
    obtain ⟨m, hml, rfl, HNB, X, B, HB⟩ := hrel
    clear X2 B2 HB2 x0 x1 x2 x3 xz
    obtain ⟨x0, x1, x2, x3, xz⟩ := X.out.cells
    have hmi : (m : Int) ≤ (L.n : Int) := by omega
    by_cases hmn : m < L.n
    · have hne : (m : Int) < (L.n : Int) := by omega
      have hf7 := X.out.few
      by_cases hmk : m = k
      · subst hmk
        have HBM := (show ¬ Bad L m r n v m from fun h => h.1 rfl)
        have HS := Lib.hid (show ∀ w', Bel wr w' → w'.cell? ⟨W.heap.size, 0, none⟩ = some (.int .u64 r) ∧ w'.cell? ⟨W.heap.size, 1, none⟩ = some (.int .i64 n) ∧ w'.cell? ⟨g, 1, none⟩ = some (.slice (some ⟨q, 0, none⟩) L.n L.n) ∧
            w'.cell? ⟨q, m * 4, none⟩ = some (.bool (L.f m).isSome) ∧ w'.cell? ⟨q, m * 4 + 1, none⟩ = some (.int .u64 ((L.f m).getD (0, 0, ⟨#[]⟩)).1) ∧ w'.cell? ⟨q, m * 4 + 2, none⟩ = some (.int .i64 ((L.f m).getD (0, 0, ⟨#[]⟩)).2.1) ∧ w'.cell? ⟨q, m * 4 + 3, none⟩ = some (.string ((L.f m).getD (0, 0, ⟨#[]⟩)).2.2) from fun w' hw => by
          have hX := X.out.keep hw
          have hr := hX.row m (by omega)
          exact ⟨(B.bel hw).cell 0, (B.bel hw).cell 1, hX.cells.2.1, hr.1, hr.2.1, hr.2.2.1, hr.2.2.2⟩)
        go_upto_region 10 with fail
        refine wp_qw (by kernel_rfl) ?_
        (refine qv1 10 (v := ?_) (by rfl) (by rfl) (fun ev hc hf h0 W hW => ?_) ?_; rotate_left; (focus (obtain ⟨e0, e1, e2, e3, e4, e5, e6⟩ := HS.out W hW; first | (go_simp; done) | (go_simp; with_reducible rfl))); rotate_left; simp only [Act.put, List.setIfInBounds_toArray, List.set_cons_zero, List.set_cons_succ])
        (refine qv1 1 (v := ?_) (by rfl) (by rfl) (fun ev hc hf h0 W hW => ?_) ?_; rotate_left; (focus (obtain ⟨e0, e1, e2, e3, e4, e5, e6⟩ := HS.out W hW; first | (go_simp; done) | (go_simp; with_reducible rfl))); rotate_left; simp only [Act.put, List.setIfInBounds_toArray, List.set_cons_zero, List.set_cons_succ])
        (refine qv2 66 67 (v := ?_) (by rfl) (by rfl) (by rfl) (fun ev hc hf h0 h1 W hW => ?_) ?_; rotate_left; (focus (obtain ⟨e0, e1, e2, e3, e4, e5, e6⟩ := HS.out W hW; first | (go_simp; done) | (go_simp; with_reducible rfl))); rotate_left; simp only [Act.put, List.setIfInBounds_toArray, List.set_cons_zero, List.set_cons_succ])
        (refine qv1 68 (v := ?_) (by rfl) (by rfl) (fun ev hc hf h0 W hW => ?_) ?_; rotate_left; (focus (obtain ⟨e0, e1, e2, e3, e4, e5, e6⟩ := HS.out W hW; first | (go_simp; done) | (go_simp; with_reducible rfl))); rotate_left; simp only [Act.put, List.setIfInBounds_toArray, List.set_cons_zero, List.set_cons_succ])
        first
          | (refine qskip (by rfl) ?_; simp only [Act.put, List.setIfInBounds_toArray, List.set_cons_zero, List.set_cons_succ])
          | (refine qv1 0 (v := ?_) (by rfl) (by rfl) (fun ev hc hf h0 W hW => ?_) ?_; rotate_left; (focus (obtain ⟨e0, e1, e2, e3, e4, e5, e6⟩ := HS.out W hW; first | (go_simp; done) | (go_simp; with_reducible rfl))); rotate_left; simp only [Act.put, List.setIfInBounds_toArray, List.set_cons_zero, List.set_cons_succ])
        first
          | (refine qskip (by rfl) ?_; simp only [Act.put, List.setIfInBounds_toArray, List.set_cons_zero, List.set_cons_succ])
          | (refine qv1 70 (v := ?_) (by rfl) (by rfl) (fun ev hc hf h0 W hW => ?_) ?_; rotate_left; (focus (obtain ⟨e0, e1, e2, e3, e4, e5, e6⟩ := HS.out W hW; first | (go_simp; done) | (go_simp; with_reducible rfl))); rotate_left; simp only [Act.put, List.setIfInBounds_toArray, List.set_cons_zero, List.set_cons_succ])
        first
          | (refine qskip (by rfl) ?_; simp only [Act.put, List.setIfInBounds_toArray, List.set_cons_zero, List.set_cons_succ])
          | (refine qv1 71 (v := ?_) (by rfl) (by rfl) (fun ev hc hf h0 W hW => ?_) ?_; rotate_left; (focus (obtain ⟨e0, e1, e2, e3, e4, e5, e6⟩ := HS.out W hW; first | (go_simp; done) | (go_simp; with_reducible rfl))); rotate_left; simp only [Act.put, List.setIfInBounds_toArray, List.set_cons_zero, List.set_cons_succ])
        first
          | (refine qskip (by rfl) ?_; simp only [Act.put, List.setIfInBounds_toArray, List.set_cons_zero, List.set_cons_succ])
          | (refine qv1 72 (v := ?_) (by rfl) (by rfl) (fun ev hc hf h0 W hW => ?_) ?_; rotate_left; (focus (obtain ⟨e0, e1, e2, e3, e4, e5, e6⟩ := HS.out W hW; first | (go_simp; done) | (go_simp; with_reducible rfl))); rotate_left; simp only [Act.put, List.setIfInBounds_toArray, List.set_cons_zero, List.set_cons_succ])
        first
          | (refine qskip (by rfl) ?_; simp only [Act.put, List.setIfInBounds_toArray, List.set_cons_zero, List.set_cons_succ])
          | (refine qv1 10 (v := ?_) (by rfl) (by rfl) (fun ev hc hf h0 W hW => ?_) ?_; rotate_left; (focus (obtain ⟨e0, e1, e2, e3, e4, e5, e6⟩ := HS.out W hW; first | (go_simp; done) | (go_simp; with_reducible rfl))); rotate_left; simp only [Act.put, List.setIfInBounds_toArray, List.set_cons_zero, List.set_cons_succ])
        first
          | (refine qskip (by rfl) ?_; simp only [Act.put, List.setIfInBounds_toArray, List.set_cons_zero, List.set_cons_succ])
          | (refine qv2 73 74 (v := ?_) (by rfl) (by rfl) (by rfl) (fun ev hc hf h0 h1 W hW => ?_) ?_; rotate_left; (focus (obtain ⟨e0, e1, e2, e3, e4, e5, e6⟩ := HS.out W hW; first | (go_simp; done) | (go_simp; with_reducible rfl))); rotate_left; simp only [Act.put, List.setIfInBounds_toArray, List.set_cons_zero, List.set_cons_succ])
        first
          | (refine qskip (by rfl) ?_; simp only [Act.put, List.setIfInBounds_toArray, List.set_cons_zero, List.set_cons_succ])
          | (refine qv1 75 (v := ?_) (by rfl) (by rfl) (fun ev hc hf h0 W hW => ?_) ?_; rotate_left; (focus (obtain ⟨e0, e1, e2, e3, e4, e5, e6⟩ := HS.out W hW; first | (go_simp; done) | (go_simp; with_reducible rfl))); rotate_left; simp only [Act.put, List.setIfInBounds_toArray, List.set_cons_zero, List.set_cons_succ])
        first
          | (refine qskip (by rfl) ?_; simp only [Act.put, List.setIfInBounds_toArray, List.set_cons_zero, List.set_cons_succ])
          | (refine qv1 76 (v := ?_) (by rfl) (by rfl) (fun ev hc hf h0 W hW => ?_) ?_; rotate_left; (focus (obtain ⟨e0, e1, e2, e3, e4, e5, e6⟩ := HS.out W hW; first | (go_simp; done) | (go_simp; with_reducible rfl))); rotate_left; simp only [Act.put, List.setIfInBounds_toArray, List.set_cons_zero, List.set_cons_succ])
        (refine qv2 69 77 (v := ?_) (by rfl) (by rfl) (by rfl) (fun ev hc hf h0 h1 W hW => ?_) ?_; rotate_left; (focus (obtain ⟨e0, e1, e2, e3, e4, e5, e6⟩ := HS.out W hW; first | (go_simp; done) | (go_simp; with_reducible rfl))); rotate_left; simp only [Act.put, List.setIfInBounds_toArray, List.set_cons_zero, List.set_cons_succ])
        (refine qv1 78 (v := ?_) (by rfl) (by rfl) (fun ev hc hf h0 W hW => ?_) ?_; rotate_left; (focus (obtain ⟨e0, e1, e2, e3, e4, e5, e6⟩ := HS.out W hW; first | (go_simp; done) | (go_simp; with_reducible rfl))); rotate_left; simp only [Act.put, List.setIfInBounds_toArray, List.set_cons_zero, List.set_cons_succ])
        first
          | (refine qskip (by rfl) ?_; simp only [Act.put, List.setIfInBounds_toArray, List.set_cons_zero, List.set_cons_succ])
          | (refine qv1 0 (v := ?_) (by rfl) (by rfl) (fun ev hc hf h0 W hW => ?_) ?_; rotate_left; (focus (obtain ⟨e0, e1, e2, e3, e4, e5, e6⟩ := HS.out W hW; first | (go_simp; done) | (go_simp; with_reducible rfl))); rotate_left; simp only [Act.put, List.setIfInBounds_toArray, List.set_cons_zero, List.set_cons_succ])
        first
          | (refine qskip (by rfl) ?_; simp only [Act.put, List.setIfInBounds_toArray, List.set_cons_zero, List.set_cons_succ])
          | (refine qv1 80 (v := ?_) (by rfl) (by rfl) (fun ev hc hf h0 W hW => ?_) ?_; rotate_left; (focus (obtain ⟨e0, e1, e2, e3, e4, e5, e6⟩ := HS.out W hW; first | (go_simp; done) | (go_simp; with_reducible rfl))); rotate_left; simp only [Act.put, List.setIfInBounds_toArray, List.set_cons_zero, List.set_cons_succ])
        first
          | (refine qskip (by rfl) ?_; simp only [Act.put, List.setIfInBounds_toArray, List.set_cons_zero, List.set_cons_succ])
          | (refine qv1 81 (v := ?_) (by rfl) (by rfl) (fun ev hc hf h0 W hW => ?_) ?_; rotate_left; (focus (obtain ⟨e0, e1, e2, e3, e4, e5, e6⟩ := HS.out W hW; first | (go_simp; done) | (go_simp; with_reducible rfl))); rotate_left; simp only [Act.put, List.setIfInBounds_toArray, List.set_cons_zero, List.set_cons_succ])
        first
          | (refine qskip (by rfl) ?_; simp only [Act.put, List.setIfInBounds_toArray, List.set_cons_zero, List.set_cons_succ])
          | (refine qv1 82 (v := ?_) (by rfl) (by rfl) (fun ev hc hf h0 W hW => ?_) ?_; rotate_left; (focus (obtain ⟨e0, e1, e2, e3, e4, e5, e6⟩ := HS.out W hW; first | (go_simp; done) | (go_simp; with_reducible rfl))); rotate_left; simp only [Act.put, List.setIfInBounds_toArray, List.set_cons_zero, List.set_cons_succ])
        first
          | (refine qskip (by rfl) ?_; simp only [Act.put, List.setIfInBounds_toArray, List.set_cons_zero, List.set_cons_succ])
          | (refine qv1 10 (v := ?_) (by rfl) (by rfl) (fun ev hc hf h0 W hW => ?_) ?_; rotate_left; (focus (obtain ⟨e0, e1, e2, e3, e4, e5, e6⟩ := HS.out W hW; first | (go_simp; done) | (go_simp; with_reducible rfl))); rotate_left; simp only [Act.put, List.setIfInBounds_toArray, List.set_cons_zero, List.set_cons_succ])
        first
          | (refine qskip (by rfl) ?_; simp only [Act.put, List.setIfInBounds_toArray, List.set_cons_zero, List.set_cons_succ])
          | (refine qv2 83 84 (v := ?_) (by rfl) (by rfl) (by rfl) (fun ev hc hf h0 h1 W hW => ?_) ?_; rotate_left; (focus (obtain ⟨e0, e1, e2, e3, e4, e5, e6⟩ := HS.out W hW; first | (go_simp; done) | (go_simp; with_reducible rfl))); rotate_left; simp only [Act.put, List.setIfInBounds_toArray, List.set_cons_zero, List.set_cons_succ])
        first
          | (refine qskip (by rfl) ?_; simp only [Act.put, List.setIfInBounds_toArray, List.set_cons_zero, List.set_cons_succ])
          | (refine qv1 85 (v := ?_) (by rfl) (by rfl) (fun ev hc hf h0 W hW => ?_) ?_; rotate_left; (focus (obtain ⟨e0, e1, e2, e3, e4, e5, e6⟩ := HS.out W hW; first | (go_simp; done) | (go_simp; with_reducible rfl))); rotate_left; simp only [Act.put, List.setIfInBounds_toArray, List.set_cons_zero, List.set_cons_succ])
        first
          | (refine qskip (by rfl) ?_; simp only [Act.put, List.setIfInBounds_toArray, List.set_cons_zero, List.set_cons_succ])
          | (refine qv1 86 (v := ?_) (by rfl) (by rfl) (fun ev hc hf h0 W hW => ?_) ?_; rotate_left; (focus (obtain ⟨e0, e1, e2, e3, e4, e5, e6⟩ := HS.out W hW; first | (go_simp; done) | (go_simp; with_reducible rfl))); rotate_left; simp only [Act.put, List.setIfInBounds_toArray, List.set_cons_zero, List.set_cons_succ])
        first
          | (refine qskip (by rfl) ?_; simp only [Act.put, List.setIfInBounds_toArray, List.set_cons_zero, List.set_cons_succ])
          | (refine qv1 6 (v := ?_) (by rfl) (by rfl) (fun ev hc hf h0 W hW => ?_) ?_; rotate_left; (focus (obtain ⟨e0, e1, e2, e3, e4, e5, e6⟩ := HS.out W hW; first | (go_simp; done) | (go_simp; with_reducible rfl))); rotate_left; simp only [Act.put, List.setIfInBounds_toArray, List.set_cons_zero, List.set_cons_succ])
        first
          | (refine qskip (by rfl) ?_; simp only [Act.put, List.setIfInBounds_toArray, List.set_cons_zero, List.set_cons_succ])
          | (refine qv2 87 88 (v := ?_) (by rfl) (by rfl) (by rfl) (fun ev hc hf h0 h1 W hW => ?_) ?_; rotate_left; (focus (obtain ⟨e0, e1, e2, e3, e4, e5, e6⟩ := HS.out W hW; first | (go_simp; done) | (go_simp; with_reducible rfl))); rotate_left; simp only [Act.put, List.setIfInBounds_toArray, List.set_cons_zero, List.set_cons_succ])
        (refine qv2 79 89 (v := ?_) (by rfl) (by rfl) (by rfl) (fun ev hc hf h0 h1 W hW => ?_) ?_; rotate_left; (focus (obtain ⟨e0, e1, e2, e3, e4, e5, e6⟩ := HS.out W hW; first | (go_simp; done) | (go_simp; with_reducible rfl))); rotate_left; simp only [Act.put, List.setIfInBounds_toArray, List.set_cons_zero, List.set_cons_succ])
        (refine qv1 90 (v := ?_) (by rfl) (by rfl) (fun ev hc hf h0 W hW => ?_) ?_; rotate_left; (focus (obtain ⟨e0, e1, e2, e3, e4, e5, e6⟩ := HS.out W hW; first | (go_simp; done) | (go_simp; with_reducible rfl))); rotate_left; simp only [Act.put, List.setIfInBounds_toArray, List.set_cons_zero, List.set_cons_succ])
        first
          | (refine qskip (by rfl) ?_; simp only [Act.put, List.setIfInBounds_toArray, List.set_cons_zero, List.set_cons_succ])
          | (refine qv1 0 (v := ?_) (by rfl) (by rfl) (fun ev hc hf h0 W hW => ?_) ?_; rotate_left; (focus (obtain ⟨e0, e1, e2, e3, e4, e5, e6⟩ := HS.out W hW; first | (go_simp; done) | (go_simp; with_reducible rfl))); rotate_left; simp only [Act.put, List.setIfInBounds_toArray, List.set_cons_zero, List.set_cons_succ])
        first
          | (refine qskip (by rfl) ?_; simp only [Act.put, List.setIfInBounds_toArray, List.set_cons_zero, List.set_cons_succ])
          | (refine qv1 92 (v := ?_) (by rfl) (by rfl) (fun ev hc hf h0 W hW => ?_) ?_; rotate_left; (focus (obtain ⟨e0, e1, e2, e3, e4, e5, e6⟩ := HS.out W hW; first | (go_simp; done) | (go_simp; with_reducible rfl))); rotate_left; simp only [Act.put, List.setIfInBounds_toArray, List.set_cons_zero, List.set_cons_succ])
        first
          | (refine qskip (by rfl) ?_; simp only [Act.put, List.setIfInBounds_toArray, List.set_cons_zero, List.set_cons_succ])
          | (refine qv1 93 (v := ?_) (by rfl) (by rfl) (fun ev hc hf h0 W hW => ?_) ?_; rotate_left; (focus (obtain ⟨e0, e1, e2, e3, e4, e5, e6⟩ := HS.out W hW; first | (go_simp; done) | (go_simp; with_reducible rfl))); rotate_left; simp only [Act.put, List.setIfInBounds_toArray, List.set_cons_zero, List.set_cons_succ])
        first
          | (refine qskip (by rfl) ?_; simp only [Act.put, List.setIfInBounds_toArray, List.set_cons_zero, List.set_cons_succ])
          | (refine qv1 94 (v := ?_) (by rfl) (by rfl) (fun ev hc hf h0 W hW => ?_) ?_; rotate_left; (focus (obtain ⟨e0, e1, e2, e3, e4, e5, e6⟩ := HS.out W hW; first | (go_simp; done) | (go_simp; with_reducible rfl))); rotate_left; simp only [Act.put, List.setIfInBounds_toArray, List.set_cons_zero, List.set_cons_succ])
        first
          | (refine qskip (by rfl) ?_; simp only [Act.put, List.setIfInBounds_toArray, List.set_cons_zero, List.set_cons_succ])
          | (refine qv1 10 (v := ?_) (by rfl) (by rfl) (fun ev hc hf h0 W hW => ?_) ?_; rotate_left; (focus (obtain ⟨e0, e1, e2, e3, e4, e5, e6⟩ := HS.out W hW; first | (go_simp; done) | (go_simp; with_reducible rfl))); rotate_left; simp only [Act.put, List.setIfInBounds_toArray, List.set_cons_zero, List.set_cons_succ])
        first
          | (refine qskip (by rfl) ?_; simp only [Act.put, List.setIfInBounds_toArray, List.set_cons_zero, List.set_cons_succ])
          | (refine qv2 95 96 (v := ?_) (by rfl) (by rfl) (by rfl) (fun ev hc hf h0 h1 W hW => ?_) ?_; rotate_left; (focus (obtain ⟨e0, e1, e2, e3, e4, e5, e6⟩ := HS.out W hW; first | (go_simp; done) | (go_simp; with_reducible rfl))); rotate_left; simp only [Act.put, List.setIfInBounds_toArray, List.set_cons_zero, List.set_cons_succ])
        first
          | (refine qskip (by rfl) ?_; simp only [Act.put, List.setIfInBounds_toArray, List.set_cons_zero, List.set_cons_succ])
          | (refine qv1 97 (v := ?_) (by rfl) (by rfl) (fun ev hc hf h0 W hW => ?_) ?_; rotate_left; (focus (obtain ⟨e0, e1, e2, e3, e4, e5, e6⟩ := HS.out W hW; first | (go_simp; done) | (go_simp; with_reducible rfl))); rotate_left; simp only [Act.put, List.setIfInBounds_toArray, List.set_cons_zero, List.set_cons_succ])
        first
          | (refine qskip (by rfl) ?_; simp only [Act.put, List.setIfInBounds_toArray, List.set_cons_zero, List.set_cons_succ])
          | (refine qv1 98 (v := ?_) (by rfl) (by rfl) (fun ev hc hf h0 W hW => ?_) ?_; rotate_left; (focus (obtain ⟨e0, e1, e2, e3, e4, e5, e6⟩ := HS.out W hW; first | (go_simp; done) | (go_simp; with_reducible rfl))); rotate_left; simp only [Act.put, List.setIfInBounds_toArray, List.set_cons_zero, List.set_cons_succ])
        first
          | (refine qskip (by rfl) ?_; simp only [Act.put, List.setIfInBounds_toArray, List.set_cons_zero, List.set_cons_succ])
          | (refine qv1 3 (v := ?_) (by rfl) (by rfl) (fun ev hc hf h0 W hW => ?_) ?_; rotate_left; (focus (obtain ⟨e0, e1, e2, e3, e4, e5, e6⟩ := HS.out W hW; first | (go_simp; done) | (go_simp; with_reducible rfl))); rotate_left; simp only [Act.put, List.setIfInBounds_toArray, List.set_cons_zero, List.set_cons_succ])
        first
          | (refine qskip (by rfl) ?_; simp only [Act.put, List.setIfInBounds_toArray, List.set_cons_zero, List.set_cons_succ])
          | (refine qv2 99 100 (v := ?_) (by rfl) (by rfl) (by rfl) (fun ev hc hf h0 h1 W hW => ?_) ?_; rotate_left; (focus (obtain ⟨e0, e1, e2, e3, e4, e5, e6⟩ := HS.out W hW; first | (go_simp; done) | (go_simp; with_reducible rfl))); rotate_left; simp only [Act.put, List.setIfInBounds_toArray, List.set_cons_zero, List.set_cons_succ])
        (refine qv2 91 101 (v := ?_) (by rfl) (by rfl) (by rfl) (fun ev hc hf h0 h1 W hW => ?_) ?_; rotate_left; (focus (obtain ⟨e0, e1, e2, e3, e4, e5, e6⟩ := HS.out W hW; first | (go_simp; done) | (go_simp; with_reducible rfl))); rotate_left; simp only [Act.put, List.setIfInBounds_toArray, List.set_cons_zero, List.set_cons_succ])
        refine qnil ?_
        intro w5 hW5
        go_wp2_with fail
        go_roundw
        case rel => exact ⟨m + 1, by omega, by go_num, Lib.hid (HNB.out.step HBM), Lib.hid (X.out.keep hW5), B.bel hW5, HB.trans (hW5.mono HB.size)⟩
        case measure => simp [intOf]; omega
      · have hmi : ¬ (m : Int) = (k : Int) := by omega
        have hmb : ((m : Int) != (k : Int)) = true := by rw [bne_iff_ne]; exact hmi
        cases hf : L.f (m : Int) with
        | none =>
          have HBM := (show ¬ Bad L k r n v m from fun h => by obtain ⟨_, u, hu, _⟩ := h; rw [hf] at hu; cases hu)
          have HS := Lib.hid (show ∀ w', Bel wr w' → w'.cell? ⟨W.heap.size, 0, none⟩ = some (.int .u64 r) ∧ w'.cell? ⟨W.heap.size, 1, none⟩ = some (.int .i64 n) ∧ w'.cell? ⟨g, 1, none⟩ = some (.slice (some ⟨q, 0, none⟩) L.n L.n) ∧
              w'.cell? ⟨q, m * 4, none⟩ = some (.bool (L.f m).isSome) ∧ w'.cell? ⟨q, m * 4 + 1, none⟩ = some (.int .u64 ((L.f m).getD (0, 0, ⟨#[]⟩)).1) ∧ w'.cell? ⟨q, m * 4 + 2, none⟩ = some (.int .i64 ((L.f m).getD (0, 0, ⟨#[]⟩)).2.1) ∧ w'.cell? ⟨q, m * 4 + 3, none⟩ = some (.string ((L.f m).getD (0, 0, ⟨#[]⟩)).2.2) from fun w' hw => by
            have hX := X.out.keep hw
            have hr := hX.row m (by omega)
            exact ⟨(B.bel hw).cell 0, (B.bel hw).cell 1, hX.cells.2.1, hr.1, hr.2.1, hr.2.2.1, hr.2.2.2⟩)
          rw [hf] at HS
          simp only [Option.isSome_none, Option.getD_none] at HS
          go_upto_region 10 with fail
          refine wp_qw (by kernel_rfl) ?_
          (refine qv1 10 (v := ?_) (by rfl) (by rfl) (fun ev hc hf h0 W hW => ?_) ?_; rotate_left; (focus (obtain ⟨e0, e1, e2, e3, e4, e5, e6⟩ := HS.out W hW; first | (go_simp; done) | (go_simp; with_reducible rfl))); rotate_left; simp only [Act.put, List.setIfInBounds_toArray, List.set_cons_zero, List.set_cons_succ])
          (refine qv1 1 (v := ?_) (by rfl) (by rfl) (fun ev hc hf h0 W hW => ?_) ?_; rotate_left; (focus (obtain ⟨e0, e1, e2, e3, e4, e5, e6⟩ := HS.out W hW; first | (go_simp; done) | (go_simp; with_reducible rfl))); rotate_left; simp only [Act.put, List.setIfInBounds_toArray, List.set_cons_zero, List.set_cons_succ])
          (refine qv2 66 67 (v := ?_) (by rfl) (by rfl) (by rfl) (fun ev hc hf h0 h1 W hW => ?_) ?_; rotate_left; (focus (obtain ⟨e0, e1, e2, e3, e4, e5, e6⟩ := HS.out W hW; first | (go_simp; done) | (go_simp; with_reducible rfl))); rotate_left; simp only [Act.put, List.setIfInBounds_toArray, List.set_cons_zero, List.set_cons_succ])
          (refine qv1 68 (v := ?_) (by rfl) (by rfl) (fun ev hc hf h0 W hW => ?_) ?_; rotate_left; (focus (obtain ⟨e0, e1, e2, e3, e4, e5, e6⟩ := HS.out W hW; first | (go_simp; done) | (go_simp; with_reducible rfl))); rotate_left; simp only [Act.put, List.setIfInBounds_toArray, List.set_cons_zero, List.set_cons_succ])
          first
            | (refine qskip (by rfl) ?_; simp only [Act.put, List.setIfInBounds_toArray, List.set_cons_zero, List.set_cons_succ])
            | (refine qv1 0 (v := ?_) (by rfl) (by rfl) (fun ev hc hf h0 W hW => ?_) ?_; rotate_left; (focus (obtain ⟨e0, e1, e2, e3, e4, e5, e6⟩ := HS.out W hW; first | (go_simp; done) | (go_simp; with_reducible rfl))); rotate_left; simp only [Act.put, List.setIfInBounds_toArray, List.set_cons_zero, List.set_cons_succ])
          first
            | (refine qskip (by rfl) ?_; simp only [Act.put, List.setIfInBounds_toArray, List.set_cons_zero, List.set_cons_succ])
            | (refine qv1 70 (v := ?_) (by rfl) (by rfl) (fun ev hc hf h0 W hW => ?_) ?_; rotate_left; (focus (obtain ⟨e0, e1, e2, e3, e4, e5, e6⟩ := HS.out W hW; first | (go_simp; done) | (go_simp; with_reducible rfl))); rotate_left; simp only [Act.put, List.setIfInBounds_toArray, List.set_cons_zero, List.set_cons_succ])
          first
            | (refine qskip (by rfl) ?_; simp only [Act.put, List.setIfInBounds_toArray, List.set_cons_zero, List.set_cons_succ])
            | (refine qv1 71 (v := ?_) (by rfl) (by rfl) (fun ev hc hf h0 W hW => ?_) ?_; rotate_left; (focus (obtain ⟨e0, e1, e2, e3, e4, e5, e6⟩ := HS.out W hW; first | (go_simp; done) | (go_simp; with_reducible rfl))); rotate_left; simp only [Act.put, List.setIfInBounds_toArray, List.set_cons_zero, List.set_cons_succ])
          first
            | (refine qskip (by rfl) ?_; simp only [Act.put, List.setIfInBounds_toArray, List.set_cons_zero, List.set_cons_succ])
            | (refine qv1 72 (v := ?_) (by rfl) (by rfl) (fun ev hc hf h0 W hW => ?_) ?_; rotate_left; (focus (obtain ⟨e0, e1, e2, e3, e4, e5, e6⟩ := HS.out W hW; first | (go_simp; done) | (go_simp; with_reducible rfl))); rotate_left; simp only [Act.put, List.setIfInBounds_toArray, List.set_cons_zero, List.set_cons_succ])
          first
            | (refine qskip (by rfl) ?_; simp only [Act.put, List.setIfInBounds_toArray, List.set_cons_zero, List.set_cons_succ])
            | (refine qv1 10 (v := ?_) (by rfl) (by rfl) (fun ev hc hf h0 W hW => ?_) ?_; rotate_left; (focus (obtain ⟨e0, e1, e2, e3, e4, e5, e6⟩ := HS.out W hW; first | (go_simp; done) | (go_simp; with_reducible rfl))); rotate_left; simp only [Act.put, List.setIfInBounds_toArray, List.set_cons_zero, List.set_cons_succ])
          first
            | (refine qskip (by rfl) ?_; simp only [Act.put, List.setIfInBounds_toArray, List.set_cons_zero, List.set_cons_succ])
            | (refine qv2 73 74 (v := ?_) (by rfl) (by rfl) (by rfl) (fun ev hc hf h0 h1 W hW => ?_) ?_; rotate_left; (focus (obtain ⟨e0, e1, e2, e3, e4, e5, e6⟩ := HS.out W hW; first | (go_simp; done) | (go_simp; with_reducible rfl))); rotate_left; simp only [Act.put, List.setIfInBounds_toArray, List.set_cons_zero, List.set_cons_succ])
          first
            | (refine qskip (by rfl) ?_; simp only [Act.put, List.setIfInBounds_toArray, List.set_cons_zero, List.set_cons_succ])
            | (refine qv1 75 (v := ?_) (by rfl) (by rfl) (fun ev hc hf h0 W hW => ?_) ?_; rotate_left; (focus (obtain ⟨e0, e1, e2, e3, e4, e5, e6⟩ := HS.out W hW; first | (go_simp; done) | (go_simp; with_reducible rfl))); rotate_left; simp only [Act.put, List.setIfInBounds_toArray, List.set_cons_zero, List.set_cons_succ])
          first
            | (refine qskip (by rfl) ?_; simp only [Act.put, List.setIfInBounds_toArray, List.set_cons_zero, List.set_cons_succ])
            | (refine qv1 76 (v := ?_) (by rfl) (by rfl) (fun ev hc hf h0 W hW => ?_) ?_; rotate_left; (focus (obtain ⟨e0, e1, e2, e3, e4, e5, e6⟩ := HS.out W hW; first | (go_simp; done) | (go_simp; with_reducible rfl))); rotate_left; simp only [Act.put, List.setIfInBounds_toArray, List.set_cons_zero, List.set_cons_succ])
          (refine qv2 69 77 (v := ?_) (by rfl) (by rfl) (by rfl) (fun ev hc hf h0 h1 W hW => ?_) ?_; rotate_left; (focus (obtain ⟨e0, e1, e2, e3, e4, e5, e6⟩ := HS.out W hW; first | (go_simp; done) | (go_simp; with_reducible rfl))); rotate_left; simp only [Act.put, List.setIfInBounds_toArray, List.set_cons_zero, List.set_cons_succ])
          (refine qv1 78 (v := ?_) (by rfl) (by rfl) (fun ev hc hf h0 W hW => ?_) ?_; rotate_left; (focus (obtain ⟨e0, e1, e2, e3, e4, e5, e6⟩ := HS.out W hW; first | (go_simp; done) | (go_simp; with_reducible rfl))); rotate_left; simp only [Act.put, List.setIfInBounds_toArray, List.set_cons_zero, List.set_cons_succ])
          first
            | (refine qskip (by rfl) ?_; simp only [Act.put, List.setIfInBounds_toArray, List.set_cons_zero, List.set_cons_succ])
            | (refine qv1 0 (v := ?_) (by rfl) (by rfl) (fun ev hc hf h0 W hW => ?_) ?_; rotate_left; (focus (obtain ⟨e0, e1, e2, e3, e4, e5, e6⟩ := HS.out W hW; first | (go_simp; done) | (go_simp; with_reducible rfl))); rotate_left; simp only [Act.put, List.setIfInBounds_toArray, List.set_cons_zero, List.set_cons_succ])
          first
            | (refine qskip (by rfl) ?_; simp only [Act.put, List.setIfInBounds_toArray, List.set_cons_zero, List.set_cons_succ])
            | (refine qv1 80 (v := ?_) (by rfl) (by rfl) (fun ev hc hf h0 W hW => ?_) ?_; rotate_left; (focus (obtain ⟨e0, e1, e2, e3, e4, e5, e6⟩ := HS.out W hW; first | (go_simp; done) | (go_simp; with_reducible rfl))); rotate_left; simp only [Act.put, List.setIfInBounds_toArray, List.set_cons_zero, List.set_cons_succ])
          first
            | (refine qskip (by rfl) ?_; simp only [Act.put, List.setIfInBounds_toArray, List.set_cons_zero, List.set_cons_succ])
            | (refine qv1 81 (v := ?_) (by rfl) (by rfl) (fun ev hc hf h0 W hW => ?_) ?_; rotate_left; (focus (obtain ⟨e0, e1, e2, e3, e4, e5, e6⟩ := HS.out W hW; first | (go_simp; done) | (go_simp; with_reducible rfl))); rotate_left; simp only [Act.put, List.setIfInBounds_toArray, List.set_cons_zero, List.set_cons_succ])
          first
            | (refine qskip (by rfl) ?_; simp only [Act.put, List.setIfInBounds_toArray, List.set_cons_zero, List.set_cons_succ])
            | (refine qv1 82 (v := ?_) (by rfl) (by rfl) (fun ev hc hf h0 W hW => ?_) ?_; rotate_left; (focus (obtain ⟨e0, e1, e2, e3, e4, e5, e6⟩ := HS.out W hW; first | (go_simp; done) | (go_simp; with_reducible rfl))); rotate_left; simp only [Act.put, List.setIfInBounds_toArray, List.set_cons_zero, List.set_cons_succ])
          first
            | (refine qskip (by rfl) ?_; simp only [Act.put, List.setIfInBounds_toArray, List.set_cons_zero, List.set_cons_succ])
            | (refine qv1 10 (v := ?_) (by rfl) (by rfl) (fun ev hc hf h0 W hW => ?_) ?_; rotate_left; (focus (obtain ⟨e0, e1, e2, e3, e4, e5, e6⟩ := HS.out W hW; first | (go_simp; done) | (go_simp; with_reducible rfl))); rotate_left; simp only [Act.put, List.setIfInBounds_toArray, List.set_cons_zero, List.set_cons_succ])
          first
            | (refine qskip (by rfl) ?_; simp only [Act.put, List.setIfInBounds_toArray, List.set_cons_zero, List.set_cons_succ])
            | (refine qv2 83 84 (v := ?_) (by rfl) (by rfl) (by rfl) (fun ev hc hf h0 h1 W hW => ?_) ?_; rotate_left; (focus (obtain ⟨e0, e1, e2, e3, e4, e5, e6⟩ := HS.out W hW; first | (go_simp; done) | (go_simp; with_reducible rfl))); rotate_left; simp only [Act.put, List.setIfInBounds_toArray, List.set_cons_zero, List.set_cons_succ])
          first
            | (refine qskip (by rfl) ?_; simp only [Act.put, List.setIfInBounds_toArray, List.set_cons_zero, List.set_cons_succ])
            | (refine qv1 85 (v := ?_) (by rfl) (by rfl) (fun ev hc hf h0 W hW => ?_) ?_; rotate_left; (focus (obtain ⟨e0, e1, e2, e3, e4, e5, e6⟩ := HS.out W hW; first | (go_simp; done) | (go_simp; with_reducible rfl))); rotate_left; simp only [Act.put, List.setIfInBounds_toArray, List.set_cons_zero, List.set_cons_succ])
          first
            | (refine qskip (by rfl) ?_; simp only [Act.put, List.setIfInBounds_toArray, List.set_cons_zero, List.set_cons_succ])
            | (refine qv1 86 (v := ?_) (by rfl) (by rfl) (fun ev hc hf h0 W hW => ?_) ?_; rotate_left; (focus (obtain ⟨e0, e1, e2, e3, e4, e5, e6⟩ := HS.out W hW; first | (go_simp; done) | (go_simp; with_reducible rfl))); rotate_left; simp only [Act.put, List.setIfInBounds_toArray, List.set_cons_zero, List.set_cons_succ])
          first
            | (refine qskip (by rfl) ?_; simp only [Act.put, List.setIfInBounds_toArray, List.set_cons_zero, List.set_cons_succ])
            | (refine qv1 6 (v := ?_) (by rfl) (by rfl) (fun ev hc hf h0 W hW => ?_) ?_; rotate_left; (focus (obtain ⟨e0, e1, e2, e3, e4, e5, e6⟩ := HS.out W hW; first | (go_simp; done) | (go_simp; with_reducible rfl))); rotate_left; simp only [Act.put, List.setIfInBounds_toArray, List.set_cons_zero, List.set_cons_succ])
          first
            | (refine qskip (by rfl) ?_; simp only [Act.put, List.setIfInBounds_toArray, List.set_cons_zero, List.set_cons_succ])
            | (refine qv2 87 88 (v := ?_) (by rfl) (by rfl) (by rfl) (fun ev hc hf h0 h1 W hW => ?_) ?_; rotate_left; (focus (obtain ⟨e0, e1, e2, e3, e4, e5, e6⟩ := HS.out W hW; first | (go_simp; done) | (go_simp; with_reducible rfl))); rotate_left; simp only [Act.put, List.setIfInBounds_toArray, List.set_cons_zero, List.set_cons_succ])
          (refine qv2 79 89 (v := ?_) (by rfl) (by rfl) (by rfl) (fun ev hc hf h0 h1 W hW => ?_) ?_; rotate_left; (focus (obtain ⟨e0, e1, e2, e3, e4, e5, e6⟩ := HS.out W hW; first | (go_simp; done) | (go_simp; with_reducible rfl))); rotate_left; simp only [Act.put, List.setIfInBounds_toArray, List.set_cons_zero, List.set_cons_succ])
          (refine qv1 90 (v := ?_) (by rfl) (by rfl) (fun ev hc hf h0 W hW => ?_) ?_; rotate_left; (focus (obtain ⟨e0, e1, e2, e3, e4, e5, e6⟩ := HS.out W hW; first | (go_simp; done) | (go_simp; with_reducible rfl))); rotate_left; simp only [Act.put, List.setIfInBounds_toArray, List.set_cons_zero, List.set_cons_succ])
          first
            | (refine qskip (by rfl) ?_; simp only [Act.put, List.setIfInBounds_toArray, List.set_cons_zero, List.set_cons_succ])
            | (refine qv1 0 (v := ?_) (by rfl) (by rfl) (fun ev hc hf h0 W hW => ?_) ?_; rotate_left; (focus (obtain ⟨e0, e1, e2, e3, e4, e5, e6⟩ := HS.out W hW; first | (go_simp; done) | (go_simp; with_reducible rfl))); rotate_left; simp only [Act.put, List.setIfInBounds_toArray, List.set_cons_zero, List.set_cons_succ])
          first
            | (refine qskip (by rfl) ?_; simp only [Act.put, List.setIfInBounds_toArray, List.set_cons_zero, List.set_cons_succ])
            | (refine qv1 92 (v := ?_) (by rfl) (by rfl) (fun ev hc hf h0 W hW => ?_) ?_; rotate_left; (focus (obtain ⟨e0, e1, e2, e3, e4, e5, e6⟩ := HS.out W hW; first | (go_simp; done) | (go_simp; with_reducible rfl))); rotate_left; simp only [Act.put, List.setIfInBounds_toArray, List.set_cons_zero, List.set_cons_succ])
          first
            | (refine qskip (by rfl) ?_; simp only [Act.put, List.setIfInBounds_toArray, List.set_cons_zero, List.set_cons_succ])
            | (refine qv1 93 (v := ?_) (by rfl) (by rfl) (fun ev hc hf h0 W hW => ?_) ?_; rotate_left; (focus (obtain ⟨e0, e1, e2, e3, e4, e5, e6⟩ := HS.out W hW; first | (go_simp; done) | (go_simp; with_reducible rfl))); rotate_left; simp only [Act.put, List.setIfInBounds_toArray, List.set_cons_zero, List.set_cons_succ])
          first
            | (refine qskip (by rfl) ?_; simp only [Act.put, List.setIfInBounds_toArray, List.set_cons_zero, List.set_cons_succ])
            | (refine qv1 94 (v := ?_) (by rfl) (by rfl) (fun ev hc hf h0 W hW => ?_) ?_; rotate_left; (focus (obtain ⟨e0, e1, e2, e3, e4, e5, e6⟩ := HS.out W hW; first | (go_simp; done) | (go_simp; with_reducible rfl))); rotate_left; simp only [Act.put, List.setIfInBounds_toArray, List.set_cons_zero, List.set_cons_succ])
          first
            | (refine qskip (by rfl) ?_; simp only [Act.put, List.setIfInBounds_toArray, List.set_cons_zero, List.set_cons_succ])
            | (refine qv1 10 (v := ?_) (by rfl) (by rfl) (fun ev hc hf h0 W hW => ?_) ?_; rotate_left; (focus (obtain ⟨e0, e1, e2, e3, e4, e5, e6⟩ := HS.out W hW; first | (go_simp; done) | (go_simp; with_reducible rfl))); rotate_left; simp only [Act.put, List.setIfInBounds_toArray, List.set_cons_zero, List.set_cons_succ])
          first
            | (refine qskip (by rfl) ?_; simp only [Act.put, List.setIfInBounds_toArray, List.set_cons_zero, List.set_cons_succ])
            | (refine qv2 95 96 (v := ?_) (by rfl) (by rfl) (by rfl) (fun ev hc hf h0 h1 W hW => ?_) ?_; rotate_left; (focus (obtain ⟨e0, e1, e2, e3, e4, e5, e6⟩ := HS.out W hW; first | (go_simp; done) | (go_simp; with_reducible rfl))); rotate_left; simp only [Act.put, List.setIfInBounds_toArray, List.set_cons_zero, List.set_cons_succ])
          first
            | (refine qskip (by rfl) ?_; simp only [Act.put, List.setIfInBounds_toArray, List.set_cons_zero, List.set_cons_succ])
            | (refine qv1 97 (v := ?_) (by rfl) (by rfl) (fun ev hc hf h0 W hW => ?_) ?_; rotate_left; (focus (obtain ⟨e0, e1, e2, e3, e4, e5, e6⟩ := HS.out W hW; first | (go_simp; done) | (go_simp; with_reducible rfl))); rotate_left; simp only [Act.put, List.setIfInBounds_toArray, List.set_cons_zero, List.set_cons_succ])
          first
            | (refine qskip (by rfl) ?_; simp only [Act.put, List.setIfInBounds_toArray, List.set_cons_zero, List.set_cons_succ])
            | (refine qv1 98 (v := ?_) (by rfl) (by rfl) (fun ev hc hf h0 W hW => ?_) ?_; rotate_left; (focus (obtain ⟨e0, e1, e2, e3, e4, e5, e6⟩ := HS.out W hW; first | (go_simp; done) | (go_simp; with_reducible rfl))); rotate_left; simp only [Act.put, List.setIfInBounds_toArray, List.set_cons_zero, List.set_cons_succ])
          first
            | (refine qskip (by rfl) ?_; simp only [Act.put, List.setIfInBounds_toArray, List.set_cons_zero, List.set_cons_succ])
            | (refine qv1 3 (v := ?_) (by rfl) (by rfl) (fun ev hc hf h0 W hW => ?_) ?_; rotate_left; (focus (obtain ⟨e0, e1, e2, e3, e4, e5, e6⟩ := HS.out W hW; first | (go_simp; done) | (go_simp; with_reducible rfl))); rotate_left; simp only [Act.put, List.setIfInBounds_toArray, List.set_cons_zero, List.set_cons_succ])
          first
            | (refine qskip (by rfl) ?_; simp only [Act.put, List.setIfInBounds_toArray, List.set_cons_zero, List.set_cons_succ])
            | (refine qv2 99 100 (v := ?_) (by rfl) (by rfl) (by rfl) (fun ev hc hf h0 h1 W hW => ?_) ?_; rotate_left; (focus (obtain ⟨e0, e1, e2, e3, e4, e5, e6⟩ := HS.out W hW; first | (go_simp; done) | (go_simp; with_reducible rfl))); rotate_left; simp only [Act.put, List.setIfInBounds_toArray, List.set_cons_zero, List.set_cons_succ])
          (refine qv2 91 101 (v := ?_) (by rfl) (by rfl) (by rfl) (fun ev hc hf h0 h1 W hW => ?_) ?_; rotate_left; (focus (obtain ⟨e0, e1, e2, e3, e4, e5, e6⟩ := HS.out W hW; first | (go_simp; done) | (go_simp; with_reducible rfl))); rotate_left; simp only [Act.put, List.setIfInBounds_toArray, List.set_cons_zero, List.set_cons_succ])
          refine qnil ?_
          intro w5 hW5
          go_wp2_with fail
          go_roundw
          case rel => exact ⟨m + 1, by omega, by go_num, Lib.hid (HNB.out.step HBM), Lib.hid (X.out.keep hW5), B.bel hW5, HB.trans (hW5.mono HB.size)⟩
          case measure => simp [intOf]; omega
        | some c =>
          obtain ⟨a, b, u⟩ := c
          by_cases hab : a = r ∧ b = n
          · obtain ⟨rfl, rfl⟩ := hab
            have hq := eq_same a b
            by_cases huv : u = v
            · subst huv
              have HBM := (show ¬ Bad L k a b u m from fun h => by obtain ⟨_, u', hu, hne⟩ := h; rw [hf] at hu; injection hu with hu; injection hu with _ hu; injection hu with _ hu; exact hne hu.symm)
              have HS := Lib.hid (show ∀ w', Bel wr w' → w'.cell? ⟨W.heap.size, 0, none⟩ = some (.int .u64 a) ∧ w'.cell? ⟨W.heap.size, 1, none⟩ = some (.int .i64 b) ∧ w'.cell? ⟨g, 1, none⟩ = some (.slice (some ⟨q, 0, none⟩) L.n L.n) ∧
                  w'.cell? ⟨q, m * 4, none⟩ = some (.bool (L.f m).isSome) ∧ w'.cell? ⟨q, m * 4 + 1, none⟩ = some (.int .u64 ((L.f m).getD (0, 0, ⟨#[]⟩)).1) ∧ w'.cell? ⟨q, m * 4 + 2, none⟩ = some (.int .i64 ((L.f m).getD (0, 0, ⟨#[]⟩)).2.1) ∧ w'.cell? ⟨q, m * 4 + 3, none⟩ = some (.string ((L.f m).getD (0, 0, ⟨#[]⟩)).2.2) from fun w' hw => by
                have hX := X.out.keep hw
                have hr := hX.row m (by omega)
                exact ⟨(B.bel hw).cell 0, (B.bel hw).cell 1, hX.cells.2.1, hr.1, hr.2.1, hr.2.2.1, hr.2.2.2⟩)
              rw [hf] at HS
              simp only [Option.isSome_some, Option.getD_some] at HS
              go_upto_region 10 with fail
              refine wp_qw (by kernel_rfl) ?_
              (refine qv1 10 (v := ?_) (by rfl) (by rfl) (fun ev hc hf h0 W hW => ?_) ?_; rotate_left; (focus (obtain ⟨e0, e1, e2, e3, e4, e5, e6⟩ := HS.out W hW; first | (go_simp; done) | (go_simp; with_reducible rfl))); rotate_left; simp only [Act.put, List.setIfInBounds_toArray, List.set_cons_zero, List.set_cons_succ])
              (refine qv1 1 (v := ?_) (by rfl) (by rfl) (fun ev hc hf h0 W hW => ?_) ?_; rotate_left; (focus (obtain ⟨e0, e1, e2, e3, e4, e5, e6⟩ := HS.out W hW; first | (go_simp; done) | (go_simp; with_reducible rfl))); rotate_left; simp only [Act.put, List.setIfInBounds_toArray, List.set_cons_zero, List.set_cons_succ])
              (refine qv2 66 67 (v := ?_) (by rfl) (by rfl) (by rfl) (fun ev hc hf h0 h1 W hW => ?_) ?_; rotate_left; (focus (obtain ⟨e0, e1, e2, e3, e4, e5, e6⟩ := HS.out W hW; first | (go_simp; done) | (go_simp; with_reducible rfl))); rotate_left; simp only [Act.put, List.setIfInBounds_toArray, List.set_cons_zero, List.set_cons_succ])
              (refine qv1 68 (v := ?_) (by rfl) (by rfl) (fun ev hc hf h0 W hW => ?_) ?_; rotate_left; (focus (obtain ⟨e0, e1, e2, e3, e4, e5, e6⟩ := HS.out W hW; first | (go_simp; done) | (go_simp; with_reducible rfl))); rotate_left; simp only [Act.put, List.setIfInBounds_toArray, List.set_cons_zero, List.set_cons_succ])
              first
                | (refine qskip (by rfl) ?_; simp only [Act.put, List.setIfInBounds_toArray, List.set_cons_zero, List.set_cons_succ])
                | (refine qv1 0 (v := ?_) (by rfl) (by rfl) (fun ev hc hf h0 W hW => ?_) ?_; rotate_left; (focus (obtain ⟨e0, e1, e2, e3, e4, e5, e6⟩ := HS.out W hW; first | (go_simp; done) | (go_simp; with_reducible rfl))); rotate_left; simp only [Act.put, List.setIfInBounds_toArray, List.set_cons_zero, List.set_cons_succ])
              first
                | (refine qskip (by rfl) ?_; simp only [Act.put, List.setIfInBounds_toArray, List.set_cons_zero, List.set_cons_succ])
                | (refine qv1 70 (v := ?_) (by rfl) (by rfl) (fun ev hc hf h0 W hW => ?_) ?_; rotate_left; (focus (obtain ⟨e0, e1, e2, e3, e4, e5, e6⟩ := HS.out W hW; first | (go_simp; done) | (go_simp; with_reducible rfl))); rotate_left; simp only [Act.put, List.setIfInBounds_toArray, List.set_cons_zero, List.set_cons_succ])
              first
                | (refine qskip (by rfl) ?_; simp only [Act.put, List.setIfInBounds_toArray, List.set_cons_zero, List.set_cons_succ])
                | (refine qv1 71 (v := ?_) (by rfl) (by rfl) (fun ev hc hf h0 W hW => ?_) ?_; rotate_left; (focus (obtain ⟨e0, e1, e2, e3, e4, e5, e6⟩ := HS.out W hW; first | (go_simp; done) | (go_simp; with_reducible rfl))); rotate_left; simp only [Act.put, List.setIfInBounds_toArray, List.set_cons_zero, List.set_cons_succ])
              first
                | (refine qskip (by rfl) ?_; simp only [Act.put, List.setIfInBounds_toArray, List.set_cons_zero, List.set_cons_succ])
                | (refine qv1 72 (v := ?_) (by rfl) (by rfl) (fun ev hc hf h0 W hW => ?_) ?_; rotate_left; (focus (obtain ⟨e0, e1, e2, e3, e4, e5, e6⟩ := HS.out W hW; first | (go_simp; done) | (go_simp; with_reducible rfl))); rotate_left; simp only [Act.put, List.setIfInBounds_toArray, List.set_cons_zero, List.set_cons_succ])
              first
                | (refine qskip (by rfl) ?_; simp only [Act.put, List.setIfInBounds_toArray, List.set_cons_zero, List.set_cons_succ])
                | (refine qv1 10 (v := ?_) (by rfl) (by rfl) (fun ev hc hf h0 W hW => ?_) ?_; rotate_left; (focus (obtain ⟨e0, e1, e2, e3, e4, e5, e6⟩ := HS.out W hW; first | (go_simp; done) | (go_simp; with_reducible rfl))); rotate_left; simp only [Act.put, List.setIfInBounds_toArray, List.set_cons_zero, List.set_cons_succ])
              first
                | (refine qskip (by rfl) ?_; simp only [Act.put, List.setIfInBounds_toArray, List.set_cons_zero, List.set_cons_succ])
                | (refine qv2 73 74 (v := ?_) (by rfl) (by rfl) (by rfl) (fun ev hc hf h0 h1 W hW => ?_) ?_; rotate_left; (focus (obtain ⟨e0, e1, e2, e3, e4, e5, e6⟩ := HS.out W hW; first | (go_simp; done) | (go_simp; with_reducible rfl))); rotate_left; simp only [Act.put, List.setIfInBounds_toArray, List.set_cons_zero, List.set_cons_succ])
              first
                | (refine qskip (by rfl) ?_; simp only [Act.put, List.setIfInBounds_toArray, List.set_cons_zero, List.set_cons_succ])
                | (refine qv1 75 (v := ?_) (by rfl) (by rfl) (fun ev hc hf h0 W hW => ?_) ?_; rotate_left; (focus (obtain ⟨e0, e1, e2, e3, e4, e5, e6⟩ := HS.out W hW; first | (go_simp; done) | (go_simp; with_reducible rfl))); rotate_left; simp only [Act.put, List.setIfInBounds_toArray, List.set_cons_zero, List.set_cons_succ])
              first
                | (refine qskip (by rfl) ?_; simp only [Act.put, List.setIfInBounds_toArray, List.set_cons_zero, List.set_cons_succ])
                | (refine qv1 76 (v := ?_) (by rfl) (by rfl) (fun ev hc hf h0 W hW => ?_) ?_; rotate_left; (focus (obtain ⟨e0, e1, e2, e3, e4, e5, e6⟩ := HS.out W hW; first | (go_simp; done) | (go_simp; with_reducible rfl))); rotate_left; simp only [Act.put, List.setIfInBounds_toArray, List.set_cons_zero, List.set_cons_succ])
              (refine qv2 69 77 (v := ?_) (by rfl) (by rfl) (by rfl) (fun ev hc hf h0 h1 W hW => ?_) ?_; rotate_left; (focus (obtain ⟨e0, e1, e2, e3, e4, e5, e6⟩ := HS.out W hW; first | (go_simp; done) | (go_simp; with_reducible rfl))); rotate_left; simp only [Act.put, List.setIfInBounds_toArray, List.set_cons_zero, List.set_cons_succ])
              (refine qv1 78 (v := ?_) (by rfl) (by rfl) (fun ev hc hf h0 W hW => ?_) ?_; rotate_left; (focus (obtain ⟨e0, e1, e2, e3, e4, e5, e6⟩ := HS.out W hW; first | (go_simp; done) | (go_simp; with_reducible rfl))); rotate_left; simp only [Act.put, List.setIfInBounds_toArray, List.set_cons_zero, List.set_cons_succ])
              first
                | (refine qskip (by rfl) ?_; simp only [Act.put, List.setIfInBounds_toArray, List.set_cons_zero, List.set_cons_succ])
                | (refine qv1 0 (v := ?_) (by rfl) (by rfl) (fun ev hc hf h0 W hW => ?_) ?_; rotate_left; (focus (obtain ⟨e0, e1, e2, e3, e4, e5, e6⟩ := HS.out W hW; first | (go_simp; done) | (go_simp; with_reducible rfl))); rotate_left; simp only [Act.put, List.setIfInBounds_toArray, List.set_cons_zero, List.set_cons_succ])
              first
                | (refine qskip (by rfl) ?_; simp only [Act.put, List.setIfInBounds_toArray, List.set_cons_zero, List.set_cons_succ])
                | (refine qv1 80 (v := ?_) (by rfl) (by rfl) (fun ev hc hf h0 W hW => ?_) ?_; rotate_left; (focus (obtain ⟨e0, e1, e2, e3, e4, e5, e6⟩ := HS.out W hW; first | (go_simp; done) | (go_simp; with_reducible rfl))); rotate_left; simp only [Act.put, List.setIfInBounds_toArray, List.set_cons_zero, List.set_cons_succ])
              first
                | (refine qskip (by rfl) ?_; simp only [Act.put, List.setIfInBounds_toArray, List.set_cons_zero, List.set_cons_succ])
                | (refine qv1 81 (v := ?_) (by rfl) (by rfl) (fun ev hc hf h0 W hW => ?_) ?_; rotate_left; (focus (obtain ⟨e0, e1, e2, e3, e4, e5, e6⟩ := HS.out W hW; first | (go_simp; done) | (go_simp; with_reducible rfl))); rotate_left; simp only [Act.put, List.setIfInBounds_toArray, List.set_cons_zero, List.set_cons_succ])
              first
                | (refine qskip (by rfl) ?_; simp only [Act.put, List.setIfInBounds_toArray, List.set_cons_zero, List.set_cons_succ])
                | (refine qv1 82 (v := ?_) (by rfl) (by rfl) (fun ev hc hf h0 W hW => ?_) ?_; rotate_left; (focus (obtain ⟨e0, e1, e2, e3, e4, e5, e6⟩ := HS.out W hW; first | (go_simp; done) | (go_simp; with_reducible rfl))); rotate_left; simp only [Act.put, List.setIfInBounds_toArray, List.set_cons_zero, List.set_cons_succ])
              first
                | (refine qskip (by rfl) ?_; simp only [Act.put, List.setIfInBounds_toArray, List.set_cons_zero, List.set_cons_succ])
                | (refine qv1 10 (v := ?_) (by rfl) (by rfl) (fun ev hc hf h0 W hW => ?_) ?_; rotate_left; (focus (obtain ⟨e0, e1, e2, e3, e4, e5, e6⟩ := HS.out W hW; first | (go_simp; done) | (go_simp; with_reducible rfl))); rotate_left; simp only [Act.put, List.setIfInBounds_toArray, List.set_cons_zero, List.set_cons_succ])
              first
                | (refine qskip (by rfl) ?_; simp only [Act.put, List.setIfInBounds_toArray, List.set_cons_zero, List.set_cons_succ])
                | (refine qv2 83 84 (v := ?_) (by rfl) (by rfl) (by rfl) (fun ev hc hf h0 h1 W hW => ?_) ?_; rotate_left; (focus (obtain ⟨e0, e1, e2, e3, e4, e5, e6⟩ := HS.out W hW; first | (go_simp; done) | (go_simp; with_reducible rfl))); rotate_left; simp only [Act.put, List.setIfInBounds_toArray, List.set_cons_zero, List.set_cons_succ])
              first
                | (refine qskip (by rfl) ?_; simp only [Act.put, List.setIfInBounds_toArray, List.set_cons_zero, List.set_cons_succ])
                | (refine qv1 85 (v := ?_) (by rfl) (by rfl) (fun ev hc hf h0 W hW => ?_) ?_; rotate_left; (focus (obtain ⟨e0, e1, e2, e3, e4, e5, e6⟩ := HS.out W hW; first | (go_simp; done) | (go_simp; with_reducible rfl))); rotate_left; simp only [Act.put, List.setIfInBounds_toArray, List.set_cons_zero, List.set_cons_succ])
              first
                | (refine qskip (by rfl) ?_; simp only [Act.put, List.setIfInBounds_toArray, List.set_cons_zero, List.set_cons_succ])
                | (refine qv1 86 (v := ?_) (by rfl) (by rfl) (fun ev hc hf h0 W hW => ?_) ?_; rotate_left; (focus (obtain ⟨e0, e1, e2, e3, e4, e5, e6⟩ := HS.out W hW; first | (go_simp; done) | (go_simp; with_reducible rfl))); rotate_left; simp only [Act.put, List.setIfInBounds_toArray, List.set_cons_zero, List.set_cons_succ])
              first
                | (refine qskip (by rfl) ?_; simp only [Act.put, List.setIfInBounds_toArray, List.set_cons_zero, List.set_cons_succ])
                | (refine qv1 6 (v := ?_) (by rfl) (by rfl) (fun ev hc hf h0 W hW => ?_) ?_; rotate_left; (focus (obtain ⟨e0, e1, e2, e3, e4, e5, e6⟩ := HS.out W hW; first | (go_simp; done) | (go_simp; with_reducible rfl))); rotate_left; simp only [Act.put, List.setIfInBounds_toArray, List.set_cons_zero, List.set_cons_succ])
              first
                | (refine qskip (by rfl) ?_; simp only [Act.put, List.setIfInBounds_toArray, List.set_cons_zero, List.set_cons_succ])
                | (refine qv2 87 88 (v := ?_) (by rfl) (by rfl) (by rfl) (fun ev hc hf h0 h1 W hW => ?_) ?_; rotate_left; (focus (obtain ⟨e0, e1, e2, e3, e4, e5, e6⟩ := HS.out W hW; first | (go_simp; done) | (go_simp; with_reducible rfl))); rotate_left; simp only [Act.put, List.setIfInBounds_toArray, List.set_cons_zero, List.set_cons_succ])
              (refine qv2 79 89 (v := ?_) (by rfl) (by rfl) (by rfl) (fun ev hc hf h0 h1 W hW => ?_) ?_; rotate_left; (focus (obtain ⟨e0, e1, e2, e3, e4, e5, e6⟩ := HS.out W hW; first | (go_simp; done) | (go_simp; with_reducible rfl))); rotate_left; simp only [Act.put, List.setIfInBounds_toArray, List.set_cons_zero, List.set_cons_succ])
              (refine qv1 90 (v := ?_) (by rfl) (by rfl) (fun ev hc hf h0 W hW => ?_) ?_; rotate_left; (focus (obtain ⟨e0, e1, e2, e3, e4, e5, e6⟩ := HS.out W hW; first | (go_simp; done) | (go_simp; with_reducible rfl))); rotate_left; simp only [Act.put, List.setIfInBounds_toArray, List.set_cons_zero, List.set_cons_succ])
              first
                | (refine qskip (by rfl) ?_; simp only [Act.put, List.setIfInBounds_toArray, List.set_cons_zero, List.set_cons_succ])
                | (refine qv1 0 (v := ?_) (by rfl) (by rfl) (fun ev hc hf h0 W hW => ?_) ?_; rotate_left; (focus (obtain ⟨e0, e1, e2, e3, e4, e5, e6⟩ := HS.out W hW; first | (go_simp; done) | (go_simp; with_reducible rfl))); rotate_left; simp only [Act.put, List.setIfInBounds_toArray, List.set_cons_zero, List.set_cons_succ])
              first
                | (refine qskip (by rfl) ?_; simp only [Act.put, List.setIfInBounds_toArray, List.set_cons_zero, List.set_cons_succ])
                | (refine qv1 92 (v := ?_) (by rfl) (by rfl) (fun ev hc hf h0 W hW => ?_) ?_; rotate_left; (focus (obtain ⟨e0, e1, e2, e3, e4, e5, e6⟩ := HS.out W hW; first | (go_simp; done) | (go_simp; with_reducible rfl))); rotate_left; simp only [Act.put, List.setIfInBounds_toArray, List.set_cons_zero, List.set_cons_succ])
              first
                | (refine qskip (by rfl) ?_; simp only [Act.put, List.setIfInBounds_toArray, List.set_cons_zero, List.set_cons_succ])
                | (refine qv1 93 (v := ?_) (by rfl) (by rfl) (fun ev hc hf h0 W hW => ?_) ?_; rotate_left; (focus (obtain ⟨e0, e1, e2, e3, e4, e5, e6⟩ := HS.out W hW; first | (go_simp; done) | (go_simp; with_reducible rfl))); rotate_left; simp only [Act.put, List.setIfInBounds_toArray, List.set_cons_zero, List.set_cons_succ])
              first
                | (refine qskip (by rfl) ?_; simp only [Act.put, List.setIfInBounds_toArray, List.set_cons_zero, List.set_cons_succ])
                | (refine qv1 94 (v := ?_) (by rfl) (by rfl) (fun ev hc hf h0 W hW => ?_) ?_; rotate_left; (focus (obtain ⟨e0, e1, e2, e3, e4, e5, e6⟩ := HS.out W hW; first | (go_simp; done) | (go_simp; with_reducible rfl))); rotate_left; simp only [Act.put, List.setIfInBounds_toArray, List.set_cons_zero, List.set_cons_succ])
              first
                | (refine qskip (by rfl) ?_; simp only [Act.put, List.setIfInBounds_toArray, List.set_cons_zero, List.set_cons_succ])
                | (refine qv1 10 (v := ?_) (by rfl) (by rfl) (fun ev hc hf h0 W hW => ?_) ?_; rotate_left; (focus (obtain ⟨e0, e1, e2, e3, e4, e5, e6⟩ := HS.out W hW; first | (go_simp; done) | (go_simp; with_reducible rfl))); rotate_left; simp only [Act.put, List.setIfInBounds_toArray, List.set_cons_zero, List.set_cons_succ])
              first
                | (refine qskip (by rfl) ?_; simp only [Act.put, List.setIfInBounds_toArray, List.set_cons_zero, List.set_cons_succ])
                | (refine qv2 95 96 (v := ?_) (by rfl) (by rfl) (by rfl) (fun ev hc hf h0 h1 W hW => ?_) ?_; rotate_left; (focus (obtain ⟨e0, e1, e2, e3, e4, e5, e6⟩ := HS.out W hW; first | (go_simp; done) | (go_simp; with_reducible rfl))); rotate_left; simp only [Act.put, List.setIfInBounds_toArray, List.set_cons_zero, List.set_cons_succ])
              first
                | (refine qskip (by rfl) ?_; simp only [Act.put, List.setIfInBounds_toArray, List.set_cons_zero, List.set_cons_succ])
                | (refine qv1 97 (v := ?_) (by rfl) (by rfl) (fun ev hc hf h0 W hW => ?_) ?_; rotate_left; (focus (obtain ⟨e0, e1, e2, e3, e4, e5, e6⟩ := HS.out W hW; first | (go_simp; done) | (go_simp; with_reducible rfl))); rotate_left; simp only [Act.put, List.setIfInBounds_toArray, List.set_cons_zero, List.set_cons_succ])
              first
                | (refine qskip (by rfl) ?_; simp only [Act.put, List.setIfInBounds_toArray, List.set_cons_zero, List.set_cons_succ])
                | (refine qv1 98 (v := ?_) (by rfl) (by rfl) (fun ev hc hf h0 W hW => ?_) ?_; rotate_left; (focus (obtain ⟨e0, e1, e2, e3, e4, e5, e6⟩ := HS.out W hW; first | (go_simp; done) | (go_simp; with_reducible rfl))); rotate_left; simp only [Act.put, List.setIfInBounds_toArray, List.set_cons_zero, List.set_cons_succ])
              first
                | (refine qskip (by rfl) ?_; simp only [Act.put, List.setIfInBounds_toArray, List.set_cons_zero, List.set_cons_succ])
                | (refine qv1 3 (v := ?_) (by rfl) (by rfl) (fun ev hc hf h0 W hW => ?_) ?_; rotate_left; (focus (obtain ⟨e0, e1, e2, e3, e4, e5, e6⟩ := HS.out W hW; first | (go_simp; done) | (go_simp; with_reducible rfl))); rotate_left; simp only [Act.put, List.setIfInBounds_toArray, List.set_cons_zero, List.set_cons_succ])
              first
                | (refine qskip (by rfl) ?_; simp only [Act.put, List.setIfInBounds_toArray, List.set_cons_zero, List.set_cons_succ])
                | (refine qv2 99 100 (v := ?_) (by rfl) (by rfl) (by rfl) (fun ev hc hf h0 h1 W hW => ?_) ?_; rotate_left; (focus (obtain ⟨e0, e1, e2, e3, e4, e5, e6⟩ := HS.out W hW; first | (go_simp; done) | (go_simp; with_reducible rfl))); rotate_left; simp only [Act.put, List.setIfInBounds_toArray, List.set_cons_zero, List.set_cons_succ])
              (refine qv2 91 101 (v := ?_) (by rfl) (by rfl) (by rfl) (fun ev hc hf h0 h1 W hW => ?_) ?_; rotate_left; (focus (obtain ⟨e0, e1, e2, e3, e4, e5, e6⟩ := HS.out W hW; first | (go_simp; done) | (go_simp; with_reducible rfl))); rotate_left; simp only [Act.put, List.setIfInBounds_toArray, List.set_cons_zero, List.set_cons_succ])
              refine qnil ?_
              intro w5 hW5
              go_wp2_with fail
              go_roundw
              case rel => exact ⟨m + 1, by omega, by go_num, Lib.hid (HNB.out.step HBM), Lib.hid (X.out.keep hW5), B.bel hW5, HB.trans (hW5.mono HB.size)⟩
              case measure => simp [intOf]; omega
            · have hs := str_ne huv
              have HBM := (show Bad L k a b v m from ⟨hmk, u, hf, huv⟩)
              have HS := Lib.hid (show ∀ w', Bel wr w' → w'.cell? ⟨W.heap.size, 0, none⟩ = some (.int .u64 a) ∧ w'.cell? ⟨W.heap.size, 1, none⟩ = some (.int .i64 b) ∧ w'.cell? ⟨g, 1, none⟩ = some (.slice (some ⟨q, 0, none⟩) L.n L.n) ∧
                  w'.cell? ⟨q, m * 4, none⟩ = some (.bool (L.f m).isSome) ∧ w'.cell? ⟨q, m * 4 + 1, none⟩ = some (.int .u64 ((L.f m).getD (0, 0, ⟨#[]⟩)).1) ∧ w'.cell? ⟨q, m * 4 + 2, none⟩ = some (.int .i64 ((L.f m).getD (0, 0, ⟨#[]⟩)).2.1) ∧ w'.cell? ⟨q, m * 4 + 3, none⟩ = some (.string ((L.f m).getD (0, 0, ⟨#[]⟩)).2.2) from fun w' hw => by
                have hX := X.out.keep hw
                have hr := hX.row m (by omega)
                exact ⟨(B.bel hw).cell 0, (B.bel hw).cell 1, hX.cells.2.1, hr.1, hr.2.1, hr.2.2.1, hr.2.2.2⟩)
              rw [hf] at HS
              simp only [Option.isSome_some, Option.getD_some] at HS
              go_upto_region 10 with fail
              refine wp_qw (by kernel_rfl) ?_
              (refine qv1 10 (v := ?_) (by rfl) (by rfl) (fun ev hc hf h0 W hW => ?_) ?_; rotate_left; (focus (obtain ⟨e0, e1, e2, e3, e4, e5, e6⟩ := HS.out W hW; first | (go_simp; done) | (go_simp; with_reducible rfl))); rotate_left; simp only [Act.put, List.setIfInBounds_toArray, List.set_cons_zero, List.set_cons_succ])
              (refine qv1 1 (v := ?_) (by rfl) (by rfl) (fun ev hc hf h0 W hW => ?_) ?_; rotate_left; (focus (obtain ⟨e0, e1, e2, e3, e4, e5, e6⟩ := HS.out W hW; first | (go_simp; done) | (go_simp; with_reducible rfl))); rotate_left; simp only [Act.put, List.setIfInBounds_toArray, List.set_cons_zero, List.set_cons_succ])
              (refine qv2 66 67 (v := ?_) (by rfl) (by rfl) (by rfl) (fun ev hc hf h0 h1 W hW => ?_) ?_; rotate_left; (focus (obtain ⟨e0, e1, e2, e3, e4, e5, e6⟩ := HS.out W hW; first | (go_simp; done) | (go_simp; with_reducible rfl))); rotate_left; simp only [Act.put, List.setIfInBounds_toArray, List.set_cons_zero, List.set_cons_succ])
              (refine qv1 68 (v := ?_) (by rfl) (by rfl) (fun ev hc hf h0 W hW => ?_) ?_; rotate_left; (focus (obtain ⟨e0, e1, e2, e3, e4, e5, e6⟩ := HS.out W hW; first | (go_simp; done) | (go_simp; with_reducible rfl))); rotate_left; simp only [Act.put, List.setIfInBounds_toArray, List.set_cons_zero, List.set_cons_succ])
              first
                | (refine qskip (by rfl) ?_; simp only [Act.put, List.setIfInBounds_toArray, List.set_cons_zero, List.set_cons_succ])
                | (refine qv1 0 (v := ?_) (by rfl) (by rfl) (fun ev hc hf h0 W hW => ?_) ?_; rotate_left; (focus (obtain ⟨e0, e1, e2, e3, e4, e5, e6⟩ := HS.out W hW; first | (go_simp; done) | (go_simp; with_reducible rfl))); rotate_left; simp only [Act.put, List.setIfInBounds_toArray, List.set_cons_zero, List.set_cons_succ])
              first
                | (refine qskip (by rfl) ?_; simp only [Act.put, List.setIfInBounds_toArray, List.set_cons_zero, List.set_cons_succ])
                | (refine qv1 70 (v := ?_) (by rfl) (by rfl) (fun ev hc hf h0 W hW => ?_) ?_; rotate_left; (focus (obtain ⟨e0, e1, e2, e3, e4, e5, e6⟩ := HS.out W hW; first | (go_simp; done) | (go_simp; with_reducible rfl))); rotate_left; simp only [Act.put, List.setIfInBounds_toArray, List.set_cons_zero, List.set_cons_succ])
              first
                | (refine qskip (by rfl) ?_; simp only [Act.put, List.setIfInBounds_toArray, List.set_cons_zero, List.set_cons_succ])
                | (refine qv1 71 (v := ?_) (by rfl) (by rfl) (fun ev hc hf h0 W hW => ?_) ?_; rotate_left; (focus (obtain ⟨e0, e1, e2, e3, e4, e5, e6⟩ := HS.out W hW; first | (go_simp; done) | (go_simp; with_reducible rfl))); rotate_left; simp only [Act.put, List.setIfInBounds_toArray, List.set_cons_zero, List.set_cons_succ])
              first
                | (refine qskip (by rfl) ?_; simp only [Act.put, List.setIfInBounds_toArray, List.set_cons_zero, List.set_cons_succ])
                | (refine qv1 72 (v := ?_) (by rfl) (by rfl) (fun ev hc hf h0 W hW => ?_) ?_; rotate_left; (focus (obtain ⟨e0, e1, e2, e3, e4, e5, e6⟩ := HS.out W hW; first | (go_simp; done) | (go_simp; with_reducible rfl))); rotate_left; simp only [Act.put, List.setIfInBounds_toArray, List.set_cons_zero, List.set_cons_succ])
              first
                | (refine qskip (by rfl) ?_; simp only [Act.put, List.setIfInBounds_toArray, List.set_cons_zero, List.set_cons_succ])
                | (refine qv1 10 (v := ?_) (by rfl) (by rfl) (fun ev hc hf h0 W hW => ?_) ?_; rotate_left; (focus (obtain ⟨e0, e1, e2, e3, e4, e5, e6⟩ := HS.out W hW; first | (go_simp; done) | (go_simp; with_reducible rfl))); rotate_left; simp only [Act.put, List.setIfInBounds_toArray, List.set_cons_zero, List.set_cons_succ])
              first
                | (refine qskip (by rfl) ?_; simp only [Act.put, List.setIfInBounds_toArray, List.set_cons_zero, List.set_cons_succ])
                | (refine qv2 73 74 (v := ?_) (by rfl) (by rfl) (by rfl) (fun ev hc hf h0 h1 W hW => ?_) ?_; rotate_left; (focus (obtain ⟨e0, e1, e2, e3, e4, e5, e6⟩ := HS.out W hW; first | (go_simp; done) | (go_simp; with_reducible rfl))); rotate_left; simp only [Act.put, List.setIfInBounds_toArray, List.set_cons_zero, List.set_cons_succ])
              first
                | (refine qskip (by rfl) ?_; simp only [Act.put, List.setIfInBounds_toArray, List.set_cons_zero, List.set_cons_succ])
                | (refine qv1 75 (v := ?_) (by rfl) (by rfl) (fun ev hc hf h0 W hW => ?_) ?_; rotate_left; (focus (obtain ⟨e0, e1, e2, e3, e4, e5, e6⟩ := HS.out W hW; first | (go_simp; done) | (go_simp; with_reducible rfl))); rotate_left; simp only [Act.put, List.setIfInBounds_toArray, List.set_cons_zero, List.set_cons_succ])
              first
                | (refine qskip (by rfl) ?_; simp only [Act.put, List.setIfInBounds_toArray, List.set_cons_zero, List.set_cons_succ])
                | (refine qv1 76 (v := ?_) (by rfl) (by rfl) (fun ev hc hf h0 W hW => ?_) ?_; rotate_left; (focus (obtain ⟨e0, e1, e2, e3, e4, e5, e6⟩ := HS.out W hW; first | (go_simp; done) | (go_simp; with_reducible rfl))); rotate_left; simp only [Act.put, List.setIfInBounds_toArray, List.set_cons_zero, List.set_cons_succ])
              (refine qv2 69 77 (v := ?_) (by rfl) (by rfl) (by rfl) (fun ev hc hf h0 h1 W hW => ?_) ?_; rotate_left; (focus (obtain ⟨e0, e1, e2, e3, e4, e5, e6⟩ := HS.out W hW; first | (go_simp; done) | (go_simp; with_reducible rfl))); rotate_left; simp only [Act.put, List.setIfInBounds_toArray, List.set_cons_zero, List.set_cons_succ])
              (refine qv1 78 (v := ?_) (by rfl) (by rfl) (fun ev hc hf h0 W hW => ?_) ?_; rotate_left; (focus (obtain ⟨e0, e1, e2, e3, e4, e5, e6⟩ := HS.out W hW; first | (go_simp; done) | (go_simp; with_reducible rfl))); rotate_left; simp only [Act.put, List.setIfInBounds_toArray, List.set_cons_zero, List.set_cons_succ])
              first
                | (refine qskip (by rfl) ?_; simp only [Act.put, List.setIfInBounds_toArray, List.set_cons_zero, List.set_cons_succ])
                | (refine qv1 0 (v := ?_) (by rfl) (by rfl) (fun ev hc hf h0 W hW => ?_) ?_; rotate_left; (focus (obtain ⟨e0, e1, e2, e3, e4, e5, e6⟩ := HS.out W hW; first | (go_simp; done) | (go_simp; with_reducible rfl))); rotate_left; simp only [Act.put, List.setIfInBounds_toArray, List.set_cons_zero, List.set_cons_succ])
              first
                | (refine qskip (by rfl) ?_; simp only [Act.put, List.setIfInBounds_toArray, List.set_cons_zero, List.set_cons_succ])
                | (refine qv1 80 (v := ?_) (by rfl) (by rfl) (fun ev hc hf h0 W hW => ?_) ?_; rotate_left; (focus (obtain ⟨e0, e1, e2, e3, e4, e5, e6⟩ := HS.out W hW; first | (go_simp; done) | (go_simp; with_reducible rfl))); rotate_left; simp only [Act.put, List.setIfInBounds_toArray, List.set_cons_zero, List.set_cons_succ])
              first
                | (refine qskip (by rfl) ?_; simp only [Act.put, List.setIfInBounds_toArray, List.set_cons_zero, List.set_cons_succ])
                | (refine qv1 81 (v := ?_) (by rfl) (by rfl) (fun ev hc hf h0 W hW => ?_) ?_; rotate_left; (focus (obtain ⟨e0, e1, e2, e3, e4, e5, e6⟩ := HS.out W hW; first | (go_simp; done) | (go_simp; with_reducible rfl))); rotate_left; simp only [Act.put, List.setIfInBounds_toArray, List.set_cons_zero, List.set_cons_succ])
              first
                | (refine qskip (by rfl) ?_; simp only [Act.put, List.setIfInBounds_toArray, List.set_cons_zero, List.set_cons_succ])
                | (refine qv1 82 (v := ?_) (by rfl) (by rfl) (fun ev hc hf h0 W hW => ?_) ?_; rotate_left; (focus (obtain ⟨e0, e1, e2, e3, e4, e5, e6⟩ := HS.out W hW; first | (go_simp; done) | (go_simp; with_reducible rfl))); rotate_left; simp only [Act.put, List.setIfInBounds_toArray, List.set_cons_zero, List.set_cons_succ])
              first
                | (refine qskip (by rfl) ?_; simp only [Act.put, List.setIfInBounds_toArray, List.set_cons_zero, List.set_cons_succ])
                | (refine qv1 10 (v := ?_) (by rfl) (by rfl) (fun ev hc hf h0 W hW => ?_) ?_; rotate_left; (focus (obtain ⟨e0, e1, e2, e3, e4, e5, e6⟩ := HS.out W hW; first | (go_simp; done) | (go_simp; with_reducible rfl))); rotate_left; simp only [Act.put, List.setIfInBounds_toArray, List.set_cons_zero, List.set_cons_succ])
              first
                | (refine qskip (by rfl) ?_; simp only [Act.put, List.setIfInBounds_toArray, List.set_cons_zero, List.set_cons_succ])
                | (refine qv2 83 84 (v := ?_) (by rfl) (by rfl) (by rfl) (fun ev hc hf h0 h1 W hW => ?_) ?_; rotate_left; (focus (obtain ⟨e0, e1, e2, e3, e4, e5, e6⟩ := HS.out W hW; first | (go_simp; done) | (go_simp; with_reducible rfl))); rotate_left; simp only [Act.put, List.setIfInBounds_toArray, List.set_cons_zero, List.set_cons_succ])
              first
                | (refine qskip (by rfl) ?_; simp only [Act.put, List.setIfInBounds_toArray, List.set_cons_zero, List.set_cons_succ])
                | (refine qv1 85 (v := ?_) (by rfl) (by rfl) (fun ev hc hf h0 W hW => ?_) ?_; rotate_left; (focus (obtain ⟨e0, e1, e2, e3, e4, e5, e6⟩ := HS.out W hW; first | (go_simp; done) | (go_simp; with_reducible rfl))); rotate_left; simp only [Act.put, List.setIfInBounds_toArray, List.set_cons_zero, List.set_cons_succ])
              first
                | (refine qskip (by rfl) ?_; simp only [Act.put, List.setIfInBounds_toArray, List.set_cons_zero, List.set_cons_succ])
                | (refine qv1 86 (v := ?_) (by rfl) (by rfl) (fun ev hc hf h0 W hW => ?_) ?_; rotate_left; (focus (obtain ⟨e0, e1, e2, e3, e4, e5, e6⟩ := HS.out W hW; first | (go_simp; done) | (go_simp; with_reducible rfl))); rotate_left; simp only [Act.put, List.setIfInBounds_toArray, List.set_cons_zero, List.set_cons_succ])
              first
                | (refine qskip (by rfl) ?_; simp only [Act.put, List.setIfInBounds_toArray, List.set_cons_zero, List.set_cons_succ])
                | (refine qv1 6 (v := ?_) (by rfl) (by rfl) (fun ev hc hf h0 W hW => ?_) ?_; rotate_left; (focus (obtain ⟨e0, e1, e2, e3, e4, e5, e6⟩ := HS.out W hW; first | (go_simp; done) | (go_simp; with_reducible rfl))); rotate_left; simp only [Act.put, List.setIfInBounds_toArray, List.set_cons_zero, List.set_cons_succ])
              first
                | (refine qskip (by rfl) ?_; simp only [Act.put, List.setIfInBounds_toArray, List.set_cons_zero, List.set_cons_succ])
                | (refine qv2 87 88 (v := ?_) (by rfl) (by rfl) (by rfl) (fun ev hc hf h0 h1 W hW => ?_) ?_; rotate_left; (focus (obtain ⟨e0, e1, e2, e3, e4, e5, e6⟩ := HS.out W hW; first | (go_simp; done) | (go_simp; with_reducible rfl))); rotate_left; simp only [Act.put, List.setIfInBounds_toArray, List.set_cons_zero, List.set_cons_succ])
              (refine qv2 79 89 (v := ?_) (by rfl) (by rfl) (by rfl) (fun ev hc hf h0 h1 W hW => ?_) ?_; rotate_left; (focus (obtain ⟨e0, e1, e2, e3, e4, e5, e6⟩ := HS.out W hW; first | (go_simp; done) | (go_simp; with_reducible rfl))); rotate_left; simp only [Act.put, List.setIfInBounds_toArray, List.set_cons_zero, List.set_cons_succ])
              (refine qv1 90 (v := ?_) (by rfl) (by rfl) (fun ev hc hf h0 W hW => ?_) ?_; rotate_left; (focus (obtain ⟨e0, e1, e2, e3, e4, e5, e6⟩ := HS.out W hW; first | (go_simp; done) | (go_simp; with_reducible rfl))); rotate_left; simp only [Act.put, List.setIfInBounds_toArray, List.set_cons_zero, List.set_cons_succ])
              first
                | (refine qskip (by rfl) ?_; simp only [Act.put, List.setIfInBounds_toArray, List.set_cons_zero, List.set_cons_succ])
                | (refine qv1 0 (v := ?_) (by rfl) (by rfl) (fun ev hc hf h0 W hW => ?_) ?_; rotate_left; (focus (obtain ⟨e0, e1, e2, e3, e4, e5, e6⟩ := HS.out W hW; first | (go_simp; done) | (go_simp; with_reducible rfl))); rotate_left; simp only [Act.put, List.setIfInBounds_toArray, List.set_cons_zero, List.set_cons_succ])
              first
                | (refine qskip (by rfl) ?_; simp only [Act.put, List.setIfInBounds_toArray, List.set_cons_zero, List.set_cons_succ])
                | (refine qv1 92 (v := ?_) (by rfl) (by rfl) (fun ev hc hf h0 W hW => ?_) ?_; rotate_left; (focus (obtain ⟨e0, e1, e2, e3, e4, e5, e6⟩ := HS.out W hW; first | (go_simp; done) | (go_simp; with_reducible rfl))); rotate_left; simp only [Act.put, List.setIfInBounds_toArray, List.set_cons_zero, List.set_cons_succ])
              first
                | (refine qskip (by rfl) ?_; simp only [Act.put, List.setIfInBounds_toArray, List.set_cons_zero, List.set_cons_succ])
                | (refine qv1 93 (v := ?_) (by rfl) (by rfl) (fun ev hc hf h0 W hW => ?_) ?_; rotate_left; (focus (obtain ⟨e0, e1, e2, e3, e4, e5, e6⟩ := HS.out W hW; first | (go_simp; done) | (go_simp; with_reducible rfl))); rotate_left; simp only [Act.put, List.setIfInBounds_toArray, List.set_cons_zero, List.set_cons_succ])
              first
                | (refine qskip (by rfl) ?_; simp only [Act.put, List.setIfInBounds_toArray, List.set_cons_zero, List.set_cons_succ])
                | (refine qv1 94 (v := ?_) (by rfl) (by rfl) (fun ev hc hf h0 W hW => ?_) ?_; rotate_left; (focus (obtain ⟨e0, e1, e2, e3, e4, e5, e6⟩ := HS.out W hW; first | (go_simp; done) | (go_simp; with_reducible rfl))); rotate_left; simp only [Act.put, List.setIfInBounds_toArray, List.set_cons_zero, List.set_cons_succ])
              first
                | (refine qskip (by rfl) ?_; simp only [Act.put, List.setIfInBounds_toArray, List.set_cons_zero, List.set_cons_succ])
                | (refine qv1 10 (v := ?_) (by rfl) (by rfl) (fun ev hc hf h0 W hW => ?_) ?_; rotate_left; (focus (obtain ⟨e0, e1, e2, e3, e4, e5, e6⟩ := HS.out W hW; first | (go_simp; done) | (go_simp; with_reducible rfl))); rotate_left; simp only [Act.put, List.setIfInBounds_toArray, List.set_cons_zero, List.set_cons_succ])
              first
                | (refine qskip (by rfl) ?_; simp only [Act.put, List.setIfInBounds_toArray, List.set_cons_zero, List.set_cons_succ])
                | (refine qv2 95 96 (v := ?_) (by rfl) (by rfl) (by rfl) (fun ev hc hf h0 h1 W hW => ?_) ?_; rotate_left; (focus (obtain ⟨e0, e1, e2, e3, e4, e5, e6⟩ := HS.out W hW; first | (go_simp; done) | (go_simp; with_reducible rfl))); rotate_left; simp only [Act.put, List.setIfInBounds_toArray, List.set_cons_zero, List.set_cons_succ])
              first
                | (refine qskip (by rfl) ?_; simp only [Act.put, List.setIfInBounds_toArray, List.set_cons_zero, List.set_cons_succ])
                | (refine qv1 97 (v := ?_) (by rfl) (by rfl) (fun ev hc hf h0 W hW => ?_) ?_; rotate_left; (focus (obtain ⟨e0, e1, e2, e3, e4, e5, e6⟩ := HS.out W hW; first | (go_simp; done) | (go_simp; with_reducible rfl))); rotate_left; simp only [Act.put, List.setIfInBounds_toArray, List.set_cons_zero, List.set_cons_succ])
              first
                | (refine qskip (by rfl) ?_; simp only [Act.put, List.setIfInBounds_toArray, List.set_cons_zero, List.set_cons_succ])
                | (refine qv1 98 (v := ?_) (by rfl) (by rfl) (fun ev hc hf h0 W hW => ?_) ?_; rotate_left; (focus (obtain ⟨e0, e1, e2, e3, e4, e5, e6⟩ := HS.out W hW; first | (go_simp; done) | (go_simp; with_reducible rfl))); rotate_left; simp only [Act.put, List.setIfInBounds_toArray, List.set_cons_zero, List.set_cons_succ])
              first
                | (refine qskip (by rfl) ?_; simp only [Act.put, List.setIfInBounds_toArray, List.set_cons_zero, List.set_cons_succ])
                | (refine qv1 3 (v := ?_) (by rfl) (by rfl) (fun ev hc hf h0 W hW => ?_) ?_; rotate_left; (focus (obtain ⟨e0, e1, e2, e3, e4, e5, e6⟩ := HS.out W hW; first | (go_simp; done) | (go_simp; with_reducible rfl))); rotate_left; simp only [Act.put, List.setIfInBounds_toArray, List.set_cons_zero, List.set_cons_succ])
              first
                | (refine qskip (by rfl) ?_; simp only [Act.put, List.setIfInBounds_toArray, List.set_cons_zero, List.set_cons_succ])
                | (refine qv2 99 100 (v := ?_) (by rfl) (by rfl) (by rfl) (fun ev hc hf h0 h1 W hW => ?_) ?_; rotate_left; (focus (obtain ⟨e0, e1, e2, e3, e4, e5, e6⟩ := HS.out W hW; first | (go_simp; done) | (go_simp; with_reducible rfl))); rotate_left; simp only [Act.put, List.setIfInBounds_toArray, List.set_cons_zero, List.set_cons_succ])
              (refine qv2 91 101 (v := ?_) (by rfl) (by rfl) (by rfl) (fun ev hc hf h0 h1 W hW => ?_) ?_; rotate_left; (focus (obtain ⟨e0, e1, e2, e3, e4, e5, e6⟩ := HS.out W hW; first | (go_simp; done) | (go_simp; with_reducible rfl))); rotate_left; simp only [Act.put, List.setIfInBounds_toArray, List.set_cons_zero, List.set_cons_succ])
              refine qnil ?_
              intro w5 hW5
              go_wp2_with fail
              rw [show lNew L k a b v = (false, 150, L) by unfold lNew; rw [if_pos (HBM.other (fun c hc' => by have := hkeys _ _ hc'; omega))]]
              exact bodyPost_ret (v := .tuple #[.bool false, .int .i64 150]) (by simp [results, Try.results46, go_sem]) rfl ⟨rfl, X.out.keep hW5, Kept.of_below (HB.trans (hW5.mono HB.size))⟩
          · have hq := eq_other hab
            have HBM := (show ¬ Bad L k r n v m from fun h => by obtain ⟨_, u', hu, _⟩ := h; rw [hf] at hu; injection hu with hu; injection hu with h1 hu; injection hu with h2 hu; exact hab ⟨h1, h2⟩)
            have HS := Lib.hid (show ∀ w', Bel wr w' → w'.cell? ⟨W.heap.size, 0, none⟩ = some (.int .u64 r) ∧ w'.cell? ⟨W.heap.size, 1, none⟩ = some (.int .i64 n) ∧ w'.cell? ⟨g, 1, none⟩ = some (.slice (some ⟨q, 0, none⟩) L.n L.n) ∧
                w'.cell? ⟨q, m * 4, none⟩ = some (.bool (L.f m).isSome) ∧ w'.cell? ⟨q, m * 4 + 1, none⟩ = some (.int .u64 ((L.f m).getD (0, 0, ⟨#[]⟩)).1) ∧ w'.cell? ⟨q, m * 4 + 2, none⟩ = some (.int .i64 ((L.f m).getD (0, 0, ⟨#[]⟩)).2.1) ∧ w'.cell? ⟨q, m * 4 + 3, none⟩ = some (.string ((L.f m).getD (0, 0, ⟨#[]⟩)).2.2) from fun w' hw => by
              have hX := X.out.keep hw
              have hr := hX.row m (by omega)
              exact ⟨(B.bel hw).cell 0, (B.bel hw).cell 1, hX.cells.2.1, hr.1, hr.2.1, hr.2.2.1, hr.2.2.2⟩)
            rw [hf] at HS
            simp only [Option.isSome_some, Option.getD_some] at HS
            go_upto_region 10 with fail
            refine wp_qw (by kernel_rfl) ?_
            (refine qv1 10 (v := ?_) (by rfl) (by rfl) (fun ev hc hf h0 W hW => ?_) ?_; rotate_left; (focus (obtain ⟨e0, e1, e2, e3, e4, e5, e6⟩ := HS.out W hW; first | (go_simp; done) | (go_simp; with_reducible rfl))); rotate_left; simp only [Act.put, List.setIfInBounds_toArray, List.set_cons_zero, List.set_cons_succ])
            (refine qv1 1 (v := ?_) (by rfl) (by rfl) (fun ev hc hf h0 W hW => ?_) ?_; rotate_left; (focus (obtain ⟨e0, e1, e2, e3, e4, e5, e6⟩ := HS.out W hW; first | (go_simp; done) | (go_simp; with_reducible rfl))); rotate_left; simp only [Act.put, List.setIfInBounds_toArray, List.set_cons_zero, List.set_cons_succ])
            (refine qv2 66 67 (v := ?_) (by rfl) (by rfl) (by rfl) (fun ev hc hf h0 h1 W hW => ?_) ?_; rotate_left; (focus (obtain ⟨e0, e1, e2, e3, e4, e5, e6⟩ := HS.out W hW; first | (go_simp; done) | (go_simp; with_reducible rfl))); rotate_left; simp only [Act.put, List.setIfInBounds_toArray, List.set_cons_zero, List.set_cons_succ])
            (refine qv1 68 (v := ?_) (by rfl) (by rfl) (fun ev hc hf h0 W hW => ?_) ?_; rotate_left; (focus (obtain ⟨e0, e1, e2, e3, e4, e5, e6⟩ := HS.out W hW; first | (go_simp; done) | (go_simp; with_reducible rfl))); rotate_left; simp only [Act.put, List.setIfInBounds_toArray, List.set_cons_zero, List.set_cons_succ])
            first
              | (refine qskip (by rfl) ?_; simp only [Act.put, List.setIfInBounds_toArray, List.set_cons_zero, List.set_cons_succ])
              | (refine qv1 0 (v := ?_) (by rfl) (by rfl) (fun ev hc hf h0 W hW => ?_) ?_; rotate_left; (focus (obtain ⟨e0, e1, e2, e3, e4, e5, e6⟩ := HS.out W hW; first | (go_simp; done) | (go_simp; with_reducible rfl))); rotate_left; simp only [Act.put, List.setIfInBounds_toArray, List.set_cons_zero, List.set_cons_succ])
            first
              | (refine qskip (by rfl) ?_; simp only [Act.put, List.setIfInBounds_toArray, List.set_cons_zero, List.set_cons_succ])
              | (refine qv1 70 (v := ?_) (by rfl) (by rfl) (fun ev hc hf h0 W hW => ?_) ?_; rotate_left; (focus (obtain ⟨e0, e1, e2, e3, e4, e5, e6⟩ := HS.out W hW; first | (go_simp; done) | (go_simp; with_reducible rfl))); rotate_left; simp only [Act.put, List.setIfInBounds_toArray, List.set_cons_zero, List.set_cons_succ])
            first
              | (refine qskip (by rfl) ?_; simp only [Act.put, List.setIfInBounds_toArray, List.set_cons_zero, List.set_cons_succ])
              | (refine qv1 71 (v := ?_) (by rfl) (by rfl) (fun ev hc hf h0 W hW => ?_) ?_; rotate_left; (focus (obtain ⟨e0, e1, e2, e3, e4, e5, e6⟩ := HS.out W hW; first | (go_simp; done) | (go_simp; with_reducible rfl))); rotate_left; simp only [Act.put, List.setIfInBounds_toArray, List.set_cons_zero, List.set_cons_succ])
            first
              | (refine qskip (by rfl) ?_; simp only [Act.put, List.setIfInBounds_toArray, List.set_cons_zero, List.set_cons_succ])
              | (refine qv1 72 (v := ?_) (by rfl) (by rfl) (fun ev hc hf h0 W hW => ?_) ?_; rotate_left; (focus (obtain ⟨e0, e1, e2, e3, e4, e5, e6⟩ := HS.out W hW; first | (go_simp; done) | (go_simp; with_reducible rfl))); rotate_left; simp only [Act.put, List.setIfInBounds_toArray, List.set_cons_zero, List.set_cons_succ])
            first
              | (refine qskip (by rfl) ?_; simp only [Act.put, List.setIfInBounds_toArray, List.set_cons_zero, List.set_cons_succ])
              | (refine qv1 10 (v := ?_) (by rfl) (by rfl) (fun ev hc hf h0 W hW => ?_) ?_; rotate_left; (focus (obtain ⟨e0, e1, e2, e3, e4, e5, e6⟩ := HS.out W hW; first | (go_simp; done) | (go_simp; with_reducible rfl))); rotate_left; simp only [Act.put, List.setIfInBounds_toArray, List.set_cons_zero, List.set_cons_succ])
            first
              | (refine qskip (by rfl) ?_; simp only [Act.put, List.setIfInBounds_toArray, List.set_cons_zero, List.set_cons_succ])
              | (refine qv2 73 74 (v := ?_) (by rfl) (by rfl) (by rfl) (fun ev hc hf h0 h1 W hW => ?_) ?_; rotate_left; (focus (obtain ⟨e0, e1, e2, e3, e4, e5, e6⟩ := HS.out W hW; first | (go_simp; done) | (go_simp; with_reducible rfl))); rotate_left; simp only [Act.put, List.setIfInBounds_toArray, List.set_cons_zero, List.set_cons_succ])
            first
              | (refine qskip (by rfl) ?_; simp only [Act.put, List.setIfInBounds_toArray, List.set_cons_zero, List.set_cons_succ])
              | (refine qv1 75 (v := ?_) (by rfl) (by rfl) (fun ev hc hf h0 W hW => ?_) ?_; rotate_left; (focus (obtain ⟨e0, e1, e2, e3, e4, e5, e6⟩ := HS.out W hW; first | (go_simp; done) | (go_simp; with_reducible rfl))); rotate_left; simp only [Act.put, List.setIfInBounds_toArray, List.set_cons_zero, List.set_cons_succ])
            first
              | (refine qskip (by rfl) ?_; simp only [Act.put, List.setIfInBounds_toArray, List.set_cons_zero, List.set_cons_succ])
              | (refine qv1 76 (v := ?_) (by rfl) (by rfl) (fun ev hc hf h0 W hW => ?_) ?_; rotate_left; (focus (obtain ⟨e0, e1, e2, e3, e4, e5, e6⟩ := HS.out W hW; first | (go_simp; done) | (go_simp; with_reducible rfl))); rotate_left; simp only [Act.put, List.setIfInBounds_toArray, List.set_cons_zero, List.set_cons_succ])
            (refine qv2 69 77 (v := ?_) (by rfl) (by rfl) (by rfl) (fun ev hc hf h0 h1 W hW => ?_) ?_; rotate_left; (focus (obtain ⟨e0, e1, e2, e3, e4, e5, e6⟩ := HS.out W hW; first | (go_simp; done) | (go_simp; with_reducible rfl))); rotate_left; simp only [Act.put, List.setIfInBounds_toArray, List.set_cons_zero, List.set_cons_succ])
            (refine qv1 78 (v := ?_) (by rfl) (by rfl) (fun ev hc hf h0 W hW => ?_) ?_; rotate_left; (focus (obtain ⟨e0, e1, e2, e3, e4, e5, e6⟩ := HS.out W hW; first | (go_simp; done) | (go_simp; with_reducible rfl))); rotate_left; simp only [Act.put, List.setIfInBounds_toArray, List.set_cons_zero, List.set_cons_succ])
            first
              | (refine qskip (by rfl) ?_; simp only [Act.put, List.setIfInBounds_toArray, List.set_cons_zero, List.set_cons_succ])
              | (refine qv1 0 (v := ?_) (by rfl) (by rfl) (fun ev hc hf h0 W hW => ?_) ?_; rotate_left; (focus (obtain ⟨e0, e1, e2, e3, e4, e5, e6⟩ := HS.out W hW; first | (go_simp; done) | (go_simp; with_reducible rfl))); rotate_left; simp only [Act.put, List.setIfInBounds_toArray, List.set_cons_zero, List.set_cons_succ])
            first
              | (refine qskip (by rfl) ?_; simp only [Act.put, List.setIfInBounds_toArray, List.set_cons_zero, List.set_cons_succ])
              | (refine qv1 80 (v := ?_) (by rfl) (by rfl) (fun ev hc hf h0 W hW => ?_) ?_; rotate_left; (focus (obtain ⟨e0, e1, e2, e3, e4, e5, e6⟩ := HS.out W hW; first | (go_simp; done) | (go_simp; with_reducible rfl))); rotate_left; simp only [Act.put, List.setIfInBounds_toArray, List.set_cons_zero, List.set_cons_succ])
            first
              | (refine qskip (by rfl) ?_; simp only [Act.put, List.setIfInBounds_toArray, List.set_cons_zero, List.set_cons_succ])
              | (refine qv1 81 (v := ?_) (by rfl) (by rfl) (fun ev hc hf h0 W hW => ?_) ?_; rotate_left; (focus (obtain ⟨e0, e1, e2, e3, e4, e5, e6⟩ := HS.out W hW; first | (go_simp; done) | (go_simp; with_reducible rfl))); rotate_left; simp only [Act.put, List.setIfInBounds_toArray, List.set_cons_zero, List.set_cons_succ])
            first
              | (refine qskip (by rfl) ?_; simp only [Act.put, List.setIfInBounds_toArray, List.set_cons_zero, List.set_cons_succ])
              | (refine qv1 82 (v := ?_) (by rfl) (by rfl) (fun ev hc hf h0 W hW => ?_) ?_; rotate_left; (focus (obtain ⟨e0, e1, e2, e3, e4, e5, e6⟩ := HS.out W hW; first | (go_simp; done) | (go_simp; with_reducible rfl))); rotate_left; simp only [Act.put, List.setIfInBounds_toArray, List.set_cons_zero, List.set_cons_succ])
            first
              | (refine qskip (by rfl) ?_; simp only [Act.put, List.setIfInBounds_toArray, List.set_cons_zero, List.set_cons_succ])
              | (refine qv1 10 (v := ?_) (by rfl) (by rfl) (fun ev hc hf h0 W hW => ?_) ?_; rotate_left; (focus (obtain ⟨e0, e1, e2, e3, e4, e5, e6⟩ := HS.out W hW; first | (go_simp; done) | (go_simp; with_reducible rfl))); rotate_left; simp only [Act.put, List.setIfInBounds_toArray, List.set_cons_zero, List.set_cons_succ])
            first
              | (refine qskip (by rfl) ?_; simp only [Act.put, List.setIfInBounds_toArray, List.set_cons_zero, List.set_cons_succ])
              | (refine qv2 83 84 (v := ?_) (by rfl) (by rfl) (by rfl) (fun ev hc hf h0 h1 W hW => ?_) ?_; rotate_left; (focus (obtain ⟨e0, e1, e2, e3, e4, e5, e6⟩ := HS.out W hW; first | (go_simp; done) | (go_simp; with_reducible rfl))); rotate_left; simp only [Act.put, List.setIfInBounds_toArray, List.set_cons_zero, List.set_cons_succ])
            first
              | (refine qskip (by rfl) ?_; simp only [Act.put, List.setIfInBounds_toArray, List.set_cons_zero, List.set_cons_succ])
              | (refine qv1 85 (v := ?_) (by rfl) (by rfl) (fun ev hc hf h0 W hW => ?_) ?_; rotate_left; (focus (obtain ⟨e0, e1, e2, e3, e4, e5, e6⟩ := HS.out W hW; first | (go_simp; done) | (go_simp; with_reducible rfl))); rotate_left; simp only [Act.put, List.setIfInBounds_toArray, List.set_cons_zero, List.set_cons_succ])
            first
              | (refine qskip (by rfl) ?_; simp only [Act.put, List.setIfInBounds_toArray, List.set_cons_zero, List.set_cons_succ])
              | (refine qv1 86 (v := ?_) (by rfl) (by rfl) (fun ev hc hf h0 W hW => ?_) ?_; rotate_left; (focus (obtain ⟨e0, e1, e2, e3, e4, e5, e6⟩ := HS.out W hW; first | (go_simp; done) | (go_simp; with_reducible rfl))); rotate_left; simp only [Act.put, List.setIfInBounds_toArray, List.set_cons_zero, List.set_cons_succ])
            first
              | (refine qskip (by rfl) ?_; simp only [Act.put, List.setIfInBounds_toArray, List.set_cons_zero, List.set_cons_succ])
              | (refine qv1 6 (v := ?_) (by rfl) (by rfl) (fun ev hc hf h0 W hW => ?_) ?_; rotate_left; (focus (obtain ⟨e0, e1, e2, e3, e4, e5, e6⟩ := HS.out W hW; first | (go_simp; done) | (go_simp; with_reducible rfl))); rotate_left; simp only [Act.put, List.setIfInBounds_toArray, List.set_cons_zero, List.set_cons_succ])
            first
              | (refine qskip (by rfl) ?_; simp only [Act.put, List.setIfInBounds_toArray, List.set_cons_zero, List.set_cons_succ])
              | (refine qv2 87 88 (v := ?_) (by rfl) (by rfl) (by rfl) (fun ev hc hf h0 h1 W hW => ?_) ?_; rotate_left; (focus (obtain ⟨e0, e1, e2, e3, e4, e5, e6⟩ := HS.out W hW; first | (go_simp; done) | (go_simp; with_reducible rfl))); rotate_left; simp only [Act.put, List.setIfInBounds_toArray, List.set_cons_zero, List.set_cons_succ])
            (refine qv2 79 89 (v := ?_) (by rfl) (by rfl) (by rfl) (fun ev hc hf h0 h1 W hW => ?_) ?_; rotate_left; (focus (obtain ⟨e0, e1, e2, e3, e4, e5, e6⟩ := HS.out W hW; first | (go_simp; done) | (go_simp; with_reducible rfl))); rotate_left; simp only [Act.put, List.setIfInBounds_toArray, List.set_cons_zero, List.set_cons_succ])
            (refine qv1 90 (v := ?_) (by rfl) (by rfl) (fun ev hc hf h0 W hW => ?_) ?_; rotate_left; (focus (obtain ⟨e0, e1, e2, e3, e4, e5, e6⟩ := HS.out W hW; first | (go_simp; done) | (go_simp; with_reducible rfl))); rotate_left; simp only [Act.put, List.setIfInBounds_toArray, List.set_cons_zero, List.set_cons_succ])
            first
              | (refine qskip (by rfl) ?_; simp only [Act.put, List.setIfInBounds_toArray, List.set_cons_zero, List.set_cons_succ])
              | (refine qv1 0 (v := ?_) (by rfl) (by rfl) (fun ev hc hf h0 W hW => ?_) ?_; rotate_left; (focus (obtain ⟨e0, e1, e2, e3, e4, e5, e6⟩ := HS.out W hW; first | (go_simp; done) | (go_simp; with_reducible rfl))); rotate_left; simp only [Act.put, List.setIfInBounds_toArray, List.set_cons_zero, List.set_cons_succ])
            first
              | (refine qskip (by rfl) ?_; simp only [Act.put, List.setIfInBounds_toArray, List.set_cons_zero, List.set_cons_succ])
              | (refine qv1 92 (v := ?_) (by rfl) (by rfl) (fun ev hc hf h0 W hW => ?_) ?_; rotate_left; (focus (obtain ⟨e0, e1, e2, e3, e4, e5, e6⟩ := HS.out W hW; first | (go_simp; done) | (go_simp; with_reducible rfl))); rotate_left; simp only [Act.put, List.setIfInBounds_toArray, List.set_cons_zero, List.set_cons_succ])
            first
              | (refine qskip (by rfl) ?_; simp only [Act.put, List.setIfInBounds_toArray, List.set_cons_zero, List.set_cons_succ])
              | (refine qv1 93 (v := ?_) (by rfl) (by rfl) (fun ev hc hf h0 W hW => ?_) ?_; rotate_left; (focus (obtain ⟨e0, e1, e2, e3, e4, e5, e6⟩ := HS.out W hW; first | (go_simp; done) | (go_simp; with_reducible rfl))); rotate_left; simp only [Act.put, List.setIfInBounds_toArray, List.set_cons_zero, List.set_cons_succ])
            first
              | (refine qskip (by rfl) ?_; simp only [Act.put, List.setIfInBounds_toArray, List.set_cons_zero, List.set_cons_succ])
              | (refine qv1 94 (v := ?_) (by rfl) (by rfl) (fun ev hc hf h0 W hW => ?_) ?_; rotate_left; (focus (obtain ⟨e0, e1, e2, e3, e4, e5, e6⟩ := HS.out W hW; first | (go_simp; done) | (go_simp; with_reducible rfl))); rotate_left; simp only [Act.put, List.setIfInBounds_toArray, List.set_cons_zero, List.set_cons_succ])
            first
              | (refine qskip (by rfl) ?_; simp only [Act.put, List.setIfInBounds_toArray, List.set_cons_zero, List.set_cons_succ])
              | (refine qv1 10 (v := ?_) (by rfl) (by rfl) (fun ev hc hf h0 W hW => ?_) ?_; rotate_left; (focus (obtain ⟨e0, e1, e2, e3, e4, e5, e6⟩ := HS.out W hW; first | (go_simp; done) | (go_simp; with_reducible rfl))); rotate_left; simp only [Act.put, List.setIfInBounds_toArray, List.set_cons_zero, List.set_cons_succ])
            first
              | (refine qskip (by rfl) ?_; simp only [Act.put, List.setIfInBounds_toArray, List.set_cons_zero, List.set_cons_succ])
              | (refine qv2 95 96 (v := ?_) (by rfl) (by rfl) (by rfl) (fun ev hc hf h0 h1 W hW => ?_) ?_; rotate_left; (focus (obtain ⟨e0, e1, e2, e3, e4, e5, e6⟩ := HS.out W hW; first | (go_simp; done) | (go_simp; with_reducible rfl))); rotate_left; simp only [Act.put, List.setIfInBounds_toArray, List.set_cons_zero, List.set_cons_succ])
            first
              | (refine qskip (by rfl) ?_; simp only [Act.put, List.setIfInBounds_toArray, List.set_cons_zero, List.set_cons_succ])
              | (refine qv1 97 (v := ?_) (by rfl) (by rfl) (fun ev hc hf h0 W hW => ?_) ?_; rotate_left; (focus (obtain ⟨e0, e1, e2, e3, e4, e5, e6⟩ := HS.out W hW; first | (go_simp; done) | (go_simp; with_reducible rfl))); rotate_left; simp only [Act.put, List.setIfInBounds_toArray, List.set_cons_zero, List.set_cons_succ])
            first
              | (refine qskip (by rfl) ?_; simp only [Act.put, List.setIfInBounds_toArray, List.set_cons_zero, List.set_cons_succ])
              | (refine qv1 98 (v := ?_) (by rfl) (by rfl) (fun ev hc hf h0 W hW => ?_) ?_; rotate_left; (focus (obtain ⟨e0, e1, e2, e3, e4, e5, e6⟩ := HS.out W hW; first | (go_simp; done) | (go_simp; with_reducible rfl))); rotate_left; simp only [Act.put, List.setIfInBounds_toArray, List.set_cons_zero, List.set_cons_succ])
            first
              | (refine qskip (by rfl) ?_; simp only [Act.put, List.setIfInBounds_toArray, List.set_cons_zero, List.set_cons_succ])
              | (refine qv1 3 (v := ?_) (by rfl) (by rfl) (fun ev hc hf h0 W hW => ?_) ?_; rotate_left; (focus (obtain ⟨e0, e1, e2, e3, e4, e5, e6⟩ := HS.out W hW; first | (go_simp; done) | (go_simp; with_reducible rfl))); rotate_left; simp only [Act.put, List.setIfInBounds_toArray, List.set_cons_zero, List.set_cons_succ])
            first
              | (refine qskip (by rfl) ?_; simp only [Act.put, List.setIfInBounds_toArray, List.set_cons_zero, List.set_cons_succ])
              | (refine qv2 99 100 (v := ?_) (by rfl) (by rfl) (by rfl) (fun ev hc hf h0 h1 W hW => ?_) ?_; rotate_left; (focus (obtain ⟨e0, e1, e2, e3, e4, e5, e6⟩ := HS.out W hW; first | (go_simp; done) | (go_simp; with_reducible rfl))); rotate_left; simp only [Act.put, List.setIfInBounds_toArray, List.set_cons_zero, List.set_cons_succ])
            (refine qv2 91 101 (v := ?_) (by rfl) (by rfl) (by rfl) (fun ev hc hf h0 h1 W hW => ?_) ?_; rotate_left; (focus (obtain ⟨e0, e1, e2, e3, e4, e5, e6⟩ := HS.out W hW; first | (go_simp; done) | (go_simp; with_reducible rfl))); rotate_left; simp only [Act.put, List.setIfInBounds_toArray, List.set_cons_zero, List.set_cons_succ])
            refine qnil ?_
            intro w5 hW5
            go_wp2_with fail
            go_roundw
            case rel => exact ⟨m + 1, by omega, by go_num, Lib.hid (HNB.out.step HBM), Lib.hid (X.out.keep hW5), B.bel hW5, HB.trans (hW5.mono HB.size)⟩
            case measure => simp [intOf]; omega
    · obtain rfl : m = L.n := by omega
      obtain ⟨r0, r1, r2, r3⟩ := X.out.row k hk
      have t0 := X.out.fr (k * 4)
      have t1 := X.out.fr (k * 4 + 1)
      have t2 := X.out.fr (k * 4 + 2)
      have t3 := X.out.fr (k * 4 + 3)
      obtain ⟨b0, b1⟩ : wr.cell? ⟨W.heap.size, 0, none⟩ = some (.int .u64 r) ∧ wr.cell? ⟨W.heap.size, 1, none⟩ = some (.int .i64 n) := ⟨B.cell 0, B.cell 1⟩
      go_upto_region 12 with fail
      go_region
      have XP := Lib.hid (X.out.put k hk hkn r n v).drew
      have gl := h.cells.2.2.2.2
      have ql := h.lt
      have BP := (((B.far (p := ⟨q, k * 4, none⟩) (by dsimp only; omega) (.bool true)).far (p := ⟨q, k * 4 + 1, none⟩) (by dsimp only; omega) (.int .u64 r)).far (p := ⟨q, k * 4 + 2, none⟩) (by dsimp only; omega) (.int .i64 n)).far (p := ⟨q, k * 4 + 3, none⟩) (by dsimp only; omega) (.string v)
      have KP := (((((Kept.of_belowW HB).set (F := fun k => k = g ∨ k = q) (g := q) (i := k * 4) (.inr rfl) (.bool true)).set (g := q) (i := k * 4 + 1) (.inr rfl) (.int .u64 r)).set (g := q) (i := k * 4 + 2) (.inr rfl) (.int .i64 n)).set (g := q) (i := k * 4 + 3) (.inr rfl) (.string v)).drew
      replace BP := BP.drew
      have hfew := X.out.few
      have hpos := X.out.pos
      have HO := Lib.hid (HNB.out.other hkeys (fun c hc' => by rw [hc] at hc'; cases hc'))
      clear X B HB x0 x1 x2 x3 xz r0 r1 r2 r3 t0 t1 t2 t3 b0 b1 HNB hml hmn hmi
      generalize hwp : ((((wr.setCell ⟨q, k * 4, none⟩ (.bool true)).setCell ⟨q, k * 4 + 1, none⟩ (.int .u64 r)).setCell ⟨q, k * 4 + 2, none⟩ (.int .i64 n)).setCell ⟨q, k * 4 + 3, none⟩ (.string v)).drew = wp at XP BP KP ⊢
      clear hwp
      obtain ⟨i0, hi, iz0, iz1, iz2⟩ := info_parts Try.info3
      generalize hL2 : (⟨L.n, putF L.f k (r, n, v), false, L.val, L.nn + 1⟩ : Lrn) = L2 at XP
      have hn2 : L2.n = L.n := by rw [← hL2]
      have HL2 := Lib.hid hL2
      clear hL2
      obtain ⟨x0, x1, x2, x3, xz⟩ := XP.out.cells
      rw [hn2] at x0
      go_wp2_with fail
      go_loopw [11, 12] (fun z i wr => ∃ (m : Nat) (s : Value), s = z ∧ m ≤ L.n ∧ i = .int .i64 m ∧ wr.ownsRow (W.heap.size + 1) 3 1 s (vs L2.f r n m).length ((vs L2.f r n m).map (Value.int .i64)) ∧ Hid (RefAt wr g q L2) ∧ Bk wr W.heap.size #[.int .u64 r, .int .i64 n] 24 ∧ Kept (fun k => k = g ∨ k = q) W wr) (fun _ i _ => L.n + 1 - (intOf i).toNat)
      case atStart => exact ⟨0, _, rfl, by omega, rfl, World.ownsRow_nil _ _ _ _, XP, BP, KP⟩
      case round =>
        obtain ⟨m, s, rfl, hml, rfl, hrow, X, B, HK⟩ := hrel
        clear XP BP KP x0 x1 x2 x3 xz
        obtain ⟨x0, x1, x2, x3, xz⟩ := X.out.cells
        rw [hn2] at x0
        have hmi : (m : Int) ≤ (L.n : Int) := by omega
        by_cases hmn : m < L.n
        · have hne : (m : Int) < (L.n : Int) := by omega
          cases hf : L2.f (m : Int) with
          | none =>
            have HS := Lib.hid (show ∀ w', Bel wr w' → w'.cell? ⟨W.heap.size, 0, none⟩ = some (.int .u64 r) ∧ w'.cell? ⟨W.heap.size, 1, none⟩ = some (.int .i64 n) ∧ w'.cell? ⟨g, 1, none⟩ = some (.slice (some ⟨q, 0, none⟩) L.n L.n) ∧
                w'.cell? ⟨q, m * 4, none⟩ = some (.bool (L2.f m).isSome) ∧ w'.cell? ⟨q, m * 4 + 1, none⟩ = some (.int .u64 ((L2.f m).getD (0, 0, ⟨#[]⟩)).1) ∧ w'.cell? ⟨q, m * 4 + 2, none⟩ = some (.int .i64 ((L2.f m).getD (0, 0, ⟨#[]⟩)).2.1) from fun w' hw => by
              have hX := X.out.keep hw
              have hr := hX.row m (by rw [hn2]; omega)
              have hc1 := hX.cells.2.1
              rw [hn2] at hc1
              exact ⟨(B.bel hw).cell 0, (B.bel hw).cell 1, hc1, hr.1, hr.2.1, hr.2.2.1⟩)
            rw [hf] at HS
            simp only [Option.isSome_none, Option.getD_none] at HS
            go_upto_region 17 with fail
            refine wp_qw (by kernel_rfl) ?_
            (refine qv1 0 (v := ?_) (by rfl) (by rfl) (fun ev hc hf h0 W hW => ?_) ?_; rotate_left; (focus (obtain ⟨e0, e1, e2, e3, e4, e5⟩ := HS.out W hW; first | (go_simp; done) | (go_simp; with_reducible rfl))); rotate_left; simp only [Act.put, List.setIfInBounds_toArray, List.set_cons_zero, List.set_cons_succ])
            (refine qv1 120 (v := ?_) (by rfl) (by rfl) (fun ev hc hf h0 W hW => ?_) ?_; rotate_left; (focus (obtain ⟨e0, e1, e2, e3, e4, e5⟩ := HS.out W hW; first | (go_simp; done) | (go_simp; with_reducible rfl))); rotate_left; simp only [Act.put, List.setIfInBounds_toArray, List.set_cons_zero, List.set_cons_succ])
            (refine qv1 121 (v := ?_) (by rfl) (by rfl) (fun ev hc hf h0 W hW => ?_) ?_; rotate_left; (focus (obtain ⟨e0, e1, e2, e3, e4, e5⟩ := HS.out W hW; first | (go_simp; done) | (go_simp; with_reducible rfl))); rotate_left; simp only [Act.put, List.setIfInBounds_toArray, List.set_cons_zero, List.set_cons_succ])
            (refine qv1 122 (v := ?_) (by rfl) (by rfl) (fun ev hc hf h0 W hW => ?_) ?_; rotate_left; (focus (obtain ⟨e0, e1, e2, e3, e4, e5⟩ := HS.out W hW; first | (go_simp; done) | (go_simp; with_reducible rfl))); rotate_left; simp only [Act.put, List.setIfInBounds_toArray, List.set_cons_zero, List.set_cons_succ])
            (refine qv1 12 (v := ?_) (by rfl) (by rfl) (fun ev hc hf h0 W hW => ?_) ?_; rotate_left; (focus (obtain ⟨e0, e1, e2, e3, e4, e5⟩ := HS.out W hW; first | (go_simp; done) | (go_simp; with_reducible rfl))); rotate_left; simp only [Act.put, List.setIfInBounds_toArray, List.set_cons_zero, List.set_cons_succ])
            (refine qv2 123 124 (v := ?_) (by rfl) (by rfl) (by rfl) (fun ev hc hf h0 h1 W hW => ?_) ?_; rotate_left; (focus (obtain ⟨e0, e1, e2, e3, e4, e5⟩ := HS.out W hW; first | (go_simp; done) | (go_simp; with_reducible rfl))); rotate_left; simp only [Act.put, List.setIfInBounds_toArray, List.set_cons_zero, List.set_cons_succ])
            (refine qv1 125 (v := ?_) (by rfl) (by rfl) (fun ev hc hf h0 W hW => ?_) ?_; rotate_left; (focus (obtain ⟨e0, e1, e2, e3, e4, e5⟩ := HS.out W hW; first | (go_simp; done) | (go_simp; with_reducible rfl))); rotate_left; simp only [Act.put, List.setIfInBounds_toArray, List.set_cons_zero, List.set_cons_succ])
            (refine qv1 126 (v := ?_) (by rfl) (by rfl) (fun ev hc hf h0 W hW => ?_) ?_; rotate_left; (focus (obtain ⟨e0, e1, e2, e3, e4, e5⟩ := HS.out W hW; first | (go_simp; done) | (go_simp; with_reducible rfl))); rotate_left; simp only [Act.put, List.setIfInBounds_toArray, List.set_cons_zero, List.set_cons_succ])
            (refine qv1 127 (v := ?_) (by rfl) (by rfl) (fun ev hc hf h0 W hW => ?_) ?_; rotate_left; (focus (obtain ⟨e0, e1, e2, e3, e4, e5⟩ := HS.out W hW; first | (go_simp; done) | (go_simp; with_reducible rfl))); rotate_left; simp only [Act.put, List.setIfInBounds_toArray, List.set_cons_zero, List.set_cons_succ])
            first
              | (refine qskip (by rfl) ?_; simp only [Act.put, List.setIfInBounds_toArray, List.set_cons_zero, List.set_cons_succ])
              | (refine qv1 0 (v := ?_) (by rfl) (by rfl) (fun ev hc hf h0 W hW => ?_) ?_; rotate_left; (focus (obtain ⟨e0, e1, e2, e3, e4, e5⟩ := HS.out W hW; first | (go_simp; done) | (go_simp; with_reducible rfl))); rotate_left; simp only [Act.put, List.setIfInBounds_toArray, List.set_cons_zero, List.set_cons_succ])
            first
              | (refine qskip (by rfl) ?_; simp only [Act.put, List.setIfInBounds_toArray, List.set_cons_zero, List.set_cons_succ])
              | (refine qv1 129 (v := ?_) (by rfl) (by rfl) (fun ev hc hf h0 W hW => ?_) ?_; rotate_left; (focus (obtain ⟨e0, e1, e2, e3, e4, e5⟩ := HS.out W hW; first | (go_simp; done) | (go_simp; with_reducible rfl))); rotate_left; simp only [Act.put, List.setIfInBounds_toArray, List.set_cons_zero, List.set_cons_succ])
            first
              | (refine qskip (by rfl) ?_; simp only [Act.put, List.setIfInBounds_toArray, List.set_cons_zero, List.set_cons_succ])
              | (refine qv1 130 (v := ?_) (by rfl) (by rfl) (fun ev hc hf h0 W hW => ?_) ?_; rotate_left; (focus (obtain ⟨e0, e1, e2, e3, e4, e5⟩ := HS.out W hW; first | (go_simp; done) | (go_simp; with_reducible rfl))); rotate_left; simp only [Act.put, List.setIfInBounds_toArray, List.set_cons_zero, List.set_cons_succ])
            first
              | (refine qskip (by rfl) ?_; simp only [Act.put, List.setIfInBounds_toArray, List.set_cons_zero, List.set_cons_succ])
              | (refine qv1 131 (v := ?_) (by rfl) (by rfl) (fun ev hc hf h0 W hW => ?_) ?_; rotate_left; (focus (obtain ⟨e0, e1, e2, e3, e4, e5⟩ := HS.out W hW; first | (go_simp; done) | (go_simp; with_reducible rfl))); rotate_left; simp only [Act.put, List.setIfInBounds_toArray, List.set_cons_zero, List.set_cons_succ])
            first
              | (refine qskip (by rfl) ?_; simp only [Act.put, List.setIfInBounds_toArray, List.set_cons_zero, List.set_cons_succ])
              | (refine qv1 12 (v := ?_) (by rfl) (by rfl) (fun ev hc hf h0 W hW => ?_) ?_; rotate_left; (focus (obtain ⟨e0, e1, e2, e3, e4, e5⟩ := HS.out W hW; first | (go_simp; done) | (go_simp; with_reducible rfl))); rotate_left; simp only [Act.put, List.setIfInBounds_toArray, List.set_cons_zero, List.set_cons_succ])
            first
              | (refine qskip (by rfl) ?_; simp only [Act.put, List.setIfInBounds_toArray, List.set_cons_zero, List.set_cons_succ])
              | (refine qv2 132 133 (v := ?_) (by rfl) (by rfl) (by rfl) (fun ev hc hf h0 h1 W hW => ?_) ?_; rotate_left; (focus (obtain ⟨e0, e1, e2, e3, e4, e5⟩ := HS.out W hW; first | (go_simp; done) | (go_simp; with_reducible rfl))); rotate_left; simp only [Act.put, List.setIfInBounds_toArray, List.set_cons_zero, List.set_cons_succ])
            first
              | (refine qskip (by rfl) ?_; simp only [Act.put, List.setIfInBounds_toArray, List.set_cons_zero, List.set_cons_succ])
              | (refine qv1 134 (v := ?_) (by rfl) (by rfl) (fun ev hc hf h0 W hW => ?_) ?_; rotate_left; (focus (obtain ⟨e0, e1, e2, e3, e4, e5⟩ := HS.out W hW; first | (go_simp; done) | (go_simp; with_reducible rfl))); rotate_left; simp only [Act.put, List.setIfInBounds_toArray, List.set_cons_zero, List.set_cons_succ])
            first
              | (refine qskip (by rfl) ?_; simp only [Act.put, List.setIfInBounds_toArray, List.set_cons_zero, List.set_cons_succ])
              | (refine qv1 135 (v := ?_) (by rfl) (by rfl) (fun ev hc hf h0 W hW => ?_) ?_; rotate_left; (focus (obtain ⟨e0, e1, e2, e3, e4, e5⟩ := HS.out W hW; first | (go_simp; done) | (go_simp; with_reducible rfl))); rotate_left; simp only [Act.put, List.setIfInBounds_toArray, List.set_cons_zero, List.set_cons_succ])
            first
              | (refine qskip (by rfl) ?_; simp only [Act.put, List.setIfInBounds_toArray, List.set_cons_zero, List.set_cons_succ])
              | (refine qv1 6 (v := ?_) (by rfl) (by rfl) (fun ev hc hf h0 W hW => ?_) ?_; rotate_left; (focus (obtain ⟨e0, e1, e2, e3, e4, e5⟩ := HS.out W hW; first | (go_simp; done) | (go_simp; with_reducible rfl))); rotate_left; simp only [Act.put, List.setIfInBounds_toArray, List.set_cons_zero, List.set_cons_succ])
            first
              | (refine qskip (by rfl) ?_; simp only [Act.put, List.setIfInBounds_toArray, List.set_cons_zero, List.set_cons_succ])
              | (refine qv2 136 137 (v := ?_) (by rfl) (by rfl) (by rfl) (fun ev hc hf h0 h1 W hW => ?_) ?_; rotate_left; (focus (obtain ⟨e0, e1, e2, e3, e4, e5⟩ := HS.out W hW; first | (go_simp; done) | (go_simp; with_reducible rfl))); rotate_left; simp only [Act.put, List.setIfInBounds_toArray, List.set_cons_zero, List.set_cons_succ])
            (refine qv2 128 138 (v := ?_) (by rfl) (by rfl) (by rfl) (fun ev hc hf h0 h1 W hW => ?_) ?_; rotate_left; (focus (obtain ⟨e0, e1, e2, e3, e4, e5⟩ := HS.out W hW; first | (go_simp; done) | (go_simp; with_reducible rfl))); rotate_left; simp only [Act.put, List.setIfInBounds_toArray, List.set_cons_zero, List.set_cons_succ])
            refine qnil ?_
            intro w5 hW5
            have HV := Lib.hid (show vs L2.f r n (m + 1) = vs L2.f r n m by rw [vs_succ, if_neg (by rw [votesB_iff]; rintro ⟨u, hu⟩; rw [hf] at hu; cases hu), List.append_nil])
            go_wp2_with fail
            go_roundw
            case rel => exact ⟨m + 1, _, rfl, by omega, by go_num, by rw [HV.out]; exact row_bel hrow hW5, Lib.hid (X.out.keep hW5), B.bel hW5, HK.trans (Kept.of_below hW5)⟩
            case measure => simp [intOf]; omega
          | some c =>
            obtain ⟨a, b, u⟩ := c
            by_cases hab : a = r ∧ b = n
            · obtain ⟨rfl, rfl⟩ := hab
              have hq := eq_same a b
              have HS := Lib.hid (show ∀ w', Bel wr w' → w'.cell? ⟨W.heap.size, 0, none⟩ = some (.int .u64 a) ∧ w'.cell? ⟨W.heap.size, 1, none⟩ = some (.int .i64 b) ∧ w'.cell? ⟨g, 1, none⟩ = some (.slice (some ⟨q, 0, none⟩) L.n L.n) ∧
                  w'.cell? ⟨q, m * 4, none⟩ = some (.bool (L2.f m).isSome) ∧ w'.cell? ⟨q, m * 4 + 1, none⟩ = some (.int .u64 ((L2.f m).getD (0, 0, ⟨#[]⟩)).1) ∧ w'.cell? ⟨q, m * 4 + 2, none⟩ = some (.int .i64 ((L2.f m).getD (0, 0, ⟨#[]⟩)).2.1) from fun w' hw => by
                have hX := X.out.keep hw
                have hr := hX.row m (by rw [hn2]; omega)
                have hc1 := hX.cells.2.1
                rw [hn2] at hc1
                exact ⟨(B.bel hw).cell 0, (B.bel hw).cell 1, hc1, hr.1, hr.2.1, hr.2.2.1⟩)
              rw [hf] at HS
              simp only [Option.isSome_some, Option.getD_some] at HS
              go_upto_region 17 with fail
              refine wp_qw (by kernel_rfl) ?_
              (refine qv1 0 (v := ?_) (by rfl) (by rfl) (fun ev hc hf h0 W hW => ?_) ?_; rotate_left; (focus (obtain ⟨e0, e1, e2, e3, e4, e5⟩ := HS.out W hW; first | (go_simp; done) | (go_simp; with_reducible rfl))); rotate_left; simp only [Act.put, List.setIfInBounds_toArray, List.set_cons_zero, List.set_cons_succ])
              (refine qv1 120 (v := ?_) (by rfl) (by rfl) (fun ev hc hf h0 W hW => ?_) ?_; rotate_left; (focus (obtain ⟨e0, e1, e2, e3, e4, e5⟩ := HS.out W hW; first | (go_simp; done) | (go_simp; with_reducible rfl))); rotate_left; simp only [Act.put, List.setIfInBounds_toArray, List.set_cons_zero, List.set_cons_succ])
              (refine qv1 121 (v := ?_) (by rfl) (by rfl) (fun ev hc hf h0 W hW => ?_) ?_; rotate_left; (focus (obtain ⟨e0, e1, e2, e3, e4, e5⟩ := HS.out W hW; first | (go_simp; done) | (go_simp; with_reducible rfl))); rotate_left; simp only [Act.put, List.setIfInBounds_toArray, List.set_cons_zero, List.set_cons_succ])
              (refine qv1 122 (v := ?_) (by rfl) (by rfl) (fun ev hc hf h0 W hW => ?_) ?_; rotate_left; (focus (obtain ⟨e0, e1, e2, e3, e4, e5⟩ := HS.out W hW; first | (go_simp; done) | (go_simp; with_reducible rfl))); rotate_left; simp only [Act.put, List.setIfInBounds_toArray, List.set_cons_zero, List.set_cons_succ])
              (refine qv1 12 (v := ?_) (by rfl) (by rfl) (fun ev hc hf h0 W hW => ?_) ?_; rotate_left; (focus (obtain ⟨e0, e1, e2, e3, e4, e5⟩ := HS.out W hW; first | (go_simp; done) | (go_simp; with_reducible rfl))); rotate_left; simp only [Act.put, List.setIfInBounds_toArray, List.set_cons_zero, List.set_cons_succ])
              (refine qv2 123 124 (v := ?_) (by rfl) (by rfl) (by rfl) (fun ev hc hf h0 h1 W hW => ?_) ?_; rotate_left; (focus (obtain ⟨e0, e1, e2, e3, e4, e5⟩ := HS.out W hW; first | (go_simp; done) | (go_simp; with_reducible rfl))); rotate_left; simp only [Act.put, List.setIfInBounds_toArray, List.set_cons_zero, List.set_cons_succ])
              (refine qv1 125 (v := ?_) (by rfl) (by rfl) (fun ev hc hf h0 W hW => ?_) ?_; rotate_left; (focus (obtain ⟨e0, e1, e2, e3, e4, e5⟩ := HS.out W hW; first | (go_simp; done) | (go_simp; with_reducible rfl))); rotate_left; simp only [Act.put, List.setIfInBounds_toArray, List.set_cons_zero, List.set_cons_succ])
              (refine qv1 126 (v := ?_) (by rfl) (by rfl) (fun ev hc hf h0 W hW => ?_) ?_; rotate_left; (focus (obtain ⟨e0, e1, e2, e3, e4, e5⟩ := HS.out W hW; first | (go_simp; done) | (go_simp; with_reducible rfl))); rotate_left; simp only [Act.put, List.setIfInBounds_toArray, List.set_cons_zero, List.set_cons_succ])
              (refine qv1 127 (v := ?_) (by rfl) (by rfl) (fun ev hc hf h0 W hW => ?_) ?_; rotate_left; (focus (obtain ⟨e0, e1, e2, e3, e4, e5⟩ := HS.out W hW; first | (go_simp; done) | (go_simp; with_reducible rfl))); rotate_left; simp only [Act.put, List.setIfInBounds_toArray, List.set_cons_zero, List.set_cons_succ])
              first
                | (refine qskip (by rfl) ?_; simp only [Act.put, List.setIfInBounds_toArray, List.set_cons_zero, List.set_cons_succ])
                | (refine qv1 0 (v := ?_) (by rfl) (by rfl) (fun ev hc hf h0 W hW => ?_) ?_; rotate_left; (focus (obtain ⟨e0, e1, e2, e3, e4, e5⟩ := HS.out W hW; first | (go_simp; done) | (go_simp; with_reducible rfl))); rotate_left; simp only [Act.put, List.setIfInBounds_toArray, List.set_cons_zero, List.set_cons_succ])
              first
                | (refine qskip (by rfl) ?_; simp only [Act.put, List.setIfInBounds_toArray, List.set_cons_zero, List.set_cons_succ])
                | (refine qv1 129 (v := ?_) (by rfl) (by rfl) (fun ev hc hf h0 W hW => ?_) ?_; rotate_left; (focus (obtain ⟨e0, e1, e2, e3, e4, e5⟩ := HS.out W hW; first | (go_simp; done) | (go_simp; with_reducible rfl))); rotate_left; simp only [Act.put, List.setIfInBounds_toArray, List.set_cons_zero, List.set_cons_succ])
              first
                | (refine qskip (by rfl) ?_; simp only [Act.put, List.setIfInBounds_toArray, List.set_cons_zero, List.set_cons_succ])
                | (refine qv1 130 (v := ?_) (by rfl) (by rfl) (fun ev hc hf h0 W hW => ?_) ?_; rotate_left; (focus (obtain ⟨e0, e1, e2, e3, e4, e5⟩ := HS.out W hW; first | (go_simp; done) | (go_simp; with_reducible rfl))); rotate_left; simp only [Act.put, List.setIfInBounds_toArray, List.set_cons_zero, List.set_cons_succ])
              first
                | (refine qskip (by rfl) ?_; simp only [Act.put, List.setIfInBounds_toArray, List.set_cons_zero, List.set_cons_succ])
                | (refine qv1 131 (v := ?_) (by rfl) (by rfl) (fun ev hc hf h0 W hW => ?_) ?_; rotate_left; (focus (obtain ⟨e0, e1, e2, e3, e4, e5⟩ := HS.out W hW; first | (go_simp; done) | (go_simp; with_reducible rfl))); rotate_left; simp only [Act.put, List.setIfInBounds_toArray, List.set_cons_zero, List.set_cons_succ])
              first
                | (refine qskip (by rfl) ?_; simp only [Act.put, List.setIfInBounds_toArray, List.set_cons_zero, List.set_cons_succ])
                | (refine qv1 12 (v := ?_) (by rfl) (by rfl) (fun ev hc hf h0 W hW => ?_) ?_; rotate_left; (focus (obtain ⟨e0, e1, e2, e3, e4, e5⟩ := HS.out W hW; first | (go_simp; done) | (go_simp; with_reducible rfl))); rotate_left; simp only [Act.put, List.setIfInBounds_toArray, List.set_cons_zero, List.set_cons_succ])
              first
                | (refine qskip (by rfl) ?_; simp only [Act.put, List.setIfInBounds_toArray, List.set_cons_zero, List.set_cons_succ])
                | (refine qv2 132 133 (v := ?_) (by rfl) (by rfl) (by rfl) (fun ev hc hf h0 h1 W hW => ?_) ?_; rotate_left; (focus (obtain ⟨e0, e1, e2, e3, e4, e5⟩ := HS.out W hW; first | (go_simp; done) | (go_simp; with_reducible rfl))); rotate_left; simp only [Act.put, List.setIfInBounds_toArray, List.set_cons_zero, List.set_cons_succ])
              first
                | (refine qskip (by rfl) ?_; simp only [Act.put, List.setIfInBounds_toArray, List.set_cons_zero, List.set_cons_succ])
                | (refine qv1 134 (v := ?_) (by rfl) (by rfl) (fun ev hc hf h0 W hW => ?_) ?_; rotate_left; (focus (obtain ⟨e0, e1, e2, e3, e4, e5⟩ := HS.out W hW; first | (go_simp; done) | (go_simp; with_reducible rfl))); rotate_left; simp only [Act.put, List.setIfInBounds_toArray, List.set_cons_zero, List.set_cons_succ])
              first
                | (refine qskip (by rfl) ?_; simp only [Act.put, List.setIfInBounds_toArray, List.set_cons_zero, List.set_cons_succ])
                | (refine qv1 135 (v := ?_) (by rfl) (by rfl) (fun ev hc hf h0 W hW => ?_) ?_; rotate_left; (focus (obtain ⟨e0, e1, e2, e3, e4, e5⟩ := HS.out W hW; first | (go_simp; done) | (go_simp; with_reducible rfl))); rotate_left; simp only [Act.put, List.setIfInBounds_toArray, List.set_cons_zero, List.set_cons_succ])
              first
                | (refine qskip (by rfl) ?_; simp only [Act.put, List.setIfInBounds_toArray, List.set_cons_zero, List.set_cons_succ])
                | (refine qv1 6 (v := ?_) (by rfl) (by rfl) (fun ev hc hf h0 W hW => ?_) ?_; rotate_left; (focus (obtain ⟨e0, e1, e2, e3, e4, e5⟩ := HS.out W hW; first | (go_simp; done) | (go_simp; with_reducible rfl))); rotate_left; simp only [Act.put, List.setIfInBounds_toArray, List.set_cons_zero, List.set_cons_succ])
              first
                | (refine qskip (by rfl) ?_; simp only [Act.put, List.setIfInBounds_toArray, List.set_cons_zero, List.set_cons_succ])
                | (refine qv2 136 137 (v := ?_) (by rfl) (by rfl) (by rfl) (fun ev hc hf h0 h1 W hW => ?_) ?_; rotate_left; (focus (obtain ⟨e0, e1, e2, e3, e4, e5⟩ := HS.out W hW; first | (go_simp; done) | (go_simp; with_reducible rfl))); rotate_left; simp only [Act.put, List.setIfInBounds_toArray, List.set_cons_zero, List.set_cons_succ])
              (refine qv2 128 138 (v := ?_) (by rfl) (by rfl) (by rfl) (fun ev hc hf h0 h1 W hW => ?_) ?_; rotate_left; (focus (obtain ⟨e0, e1, e2, e3, e4, e5⟩ := HS.out W hW; first | (go_simp; done) | (go_simp; with_reducible rfl))); rotate_left; simp only [Act.put, List.setIfInBounds_toArray, List.set_cons_zero, List.set_cons_succ])
              refine qnil ?_
              intro w5 hW5
              have HV := Lib.hid (show vs L2.f a b (m + 1) = vs L2.f a b m ++ [(m : Int)] by rw [vs_succ, if_pos (votesB_iff.2 ⟨u, hf⟩)])
              have hrow5 := row_bel hrow hW5
              have X5 := Lib.hid (X.out.keep hW5)
              have B5 := B.bel hW5
              have HK5 := HK.trans (Kept.of_below hW5)
              have hvl := vs_le L2.f a b m
              have hsz5 := B5.lt
              have hgr : ∀ j, s.ownBlock = some j → W.heap.size + 1 ≤ j := fun j e => (hrow5.lt j e).1
              clear hrow X B HK hW5 HS
              go_wp2_with (at_builtin; refine wpList_append_own _ rfl _ _ 25 rfl (W.heap.size + 1) 3 i0 (.int .i64 0) 1 8 Try.underlying25 hi iz0 iz1 iz2 rfl (by decide) _ _ _ rfl (hrow5.alloc _) ⟨w5.heap.size, 0, none⟩ 1 1 [.int .i64 (m : Int)] rfl rfl (cell_one_new _ _ _) (by simp [Value.oneCell']) (by unfold maxLen; omega) (by omega) (by simp; omega) ?_; intro s2 w6 hown' hgrow _)
              go_roundw
              case rel =>
                have X6 := (X5.out.keep ((Below.refl w5.heap.size w5).alloc (Nat.le_refl _) (.cells #[.int .i64 (m : Int)] 3)))
                have hs6 : w5.heap.size < (w5.alloc (.cells #[.int .i64 (m : Int)] 3)).heap.size := by simp
                have hK6 := HK5.trans (Kept.of_below ((Below.refl w5.heap.size w5).alloc (Nat.le_refl _) (.cells #[.int .i64 (m : Int)] 3)))
                refine ⟨m + 1, _, rfl, by omega, by go_num, ?_, Lib.hid (X6.of (hgrow.block g X6.bk.lt (fun e => by have := hgr g e.symm; omega)) (hgrow.block q X6.lt (fun e => by have := hgr q e.symm; omega))), (B5.alloc _).grown hgrow (fun e => by have := hgr _ e.symm; omega), hK6.grown hgrow (fun j e => by have := hgr j e; omega)⟩
                rw [HV.out]
                simpa using hown'
              case measure => simp [intOf]; omega
            · have hq := eq_other hab
              have HS := Lib.hid (show ∀ w', Bel wr w' → w'.cell? ⟨W.heap.size, 0, none⟩ = some (.int .u64 r) ∧ w'.cell? ⟨W.heap.size, 1, none⟩ = some (.int .i64 n) ∧ w'.cell? ⟨g, 1, none⟩ = some (.slice (some ⟨q, 0, none⟩) L.n L.n) ∧
                  w'.cell? ⟨q, m * 4, none⟩ = some (.bool (L2.f m).isSome) ∧ w'.cell? ⟨q, m * 4 + 1, none⟩ = some (.int .u64 ((L2.f m).getD (0, 0, ⟨#[]⟩)).1) ∧ w'.cell? ⟨q, m * 4 + 2, none⟩ = some (.int .i64 ((L2.f m).getD (0, 0, ⟨#[]⟩)).2.1) from fun w' hw => by
                have hX := X.out.keep hw
                have hr := hX.row m (by rw [hn2]; omega)
                have hc1 := hX.cells.2.1
                rw [hn2] at hc1
                exact ⟨(B.bel hw).cell 0, (B.bel hw).cell 1, hc1, hr.1, hr.2.1, hr.2.2.1⟩)
              rw [hf] at HS
              simp only [Option.isSome_some, Option.getD_some] at HS
              go_upto_region 17 with fail
              refine wp_qw (by kernel_rfl) ?_
              (refine qv1 0 (v := ?_) (by rfl) (by rfl) (fun ev hc hf h0 W hW => ?_) ?_; rotate_left; (focus (obtain ⟨e0, e1, e2, e3, e4, e5⟩ := HS.out W hW; first | (go_simp; done) | (go_simp; with_reducible rfl))); rotate_left; simp only [Act.put, List.setIfInBounds_toArray, List.set_cons_zero, List.set_cons_succ])
              (refine qv1 120 (v := ?_) (by rfl) (by rfl) (fun ev hc hf h0 W hW => ?_) ?_; rotate_left; (focus (obtain ⟨e0, e1, e2, e3, e4, e5⟩ := HS.out W hW; first | (go_simp; done) | (go_simp; with_reducible rfl))); rotate_left; simp only [Act.put, List.setIfInBounds_toArray, List.set_cons_zero, List.set_cons_succ])
              (refine qv1 121 (v := ?_) (by rfl) (by rfl) (fun ev hc hf h0 W hW => ?_) ?_; rotate_left; (focus (obtain ⟨e0, e1, e2, e3, e4, e5⟩ := HS.out W hW; first | (go_simp; done) | (go_simp; with_reducible rfl))); rotate_left; simp only [Act.put, List.setIfInBounds_toArray, List.set_cons_zero, List.set_cons_succ])
              (refine qv1 122 (v := ?_) (by rfl) (by rfl) (fun ev hc hf h0 W hW => ?_) ?_; rotate_left; (focus (obtain ⟨e0, e1, e2, e3, e4, e5⟩ := HS.out W hW; first | (go_simp; done) | (go_simp; with_reducible rfl))); rotate_left; simp only [Act.put, List.setIfInBounds_toArray, List.set_cons_zero, List.set_cons_succ])
              (refine qv1 12 (v := ?_) (by rfl) (by rfl) (fun ev hc hf h0 W hW => ?_) ?_; rotate_left; (focus (obtain ⟨e0, e1, e2, e3, e4, e5⟩ := HS.out W hW; first | (go_simp; done) | (go_simp; with_reducible rfl))); rotate_left; simp only [Act.put, List.setIfInBounds_toArray, List.set_cons_zero, List.set_cons_succ])
              (refine qv2 123 124 (v := ?_) (by rfl) (by rfl) (by rfl) (fun ev hc hf h0 h1 W hW => ?_) ?_; rotate_left; (focus (obtain ⟨e0, e1, e2, e3, e4, e5⟩ := HS.out W hW; first | (go_simp; done) | (go_simp; with_reducible rfl))); rotate_left; simp only [Act.put, List.setIfInBounds_toArray, List.set_cons_zero, List.set_cons_succ])
              (refine qv1 125 (v := ?_) (by rfl) (by rfl) (fun ev hc hf h0 W hW => ?_) ?_; rotate_left; (focus (obtain ⟨e0, e1, e2, e3, e4, e5⟩ := HS.out W hW; first | (go_simp; done) | (go_simp; with_reducible rfl))); rotate_left; simp only [Act.put, List.setIfInBounds_toArray, List.set_cons_zero, List.set_cons_succ])
              (refine qv1 126 (v := ?_) (by rfl) (by rfl) (fun ev hc hf h0 W hW => ?_) ?_; rotate_left; (focus (obtain ⟨e0, e1, e2, e3, e4, e5⟩ := HS.out W hW; first | (go_simp; done) | (go_simp; with_reducible rfl))); rotate_left; simp only [Act.put, List.setIfInBounds_toArray, List.set_cons_zero, List.set_cons_succ])
              (refine qv1 127 (v := ?_) (by rfl) (by rfl) (fun ev hc hf h0 W hW => ?_) ?_; rotate_left; (focus (obtain ⟨e0, e1, e2, e3, e4, e5⟩ := HS.out W hW; first | (go_simp; done) | (go_simp; with_reducible rfl))); rotate_left; simp only [Act.put, List.setIfInBounds_toArray, List.set_cons_zero, List.set_cons_succ])
              first
                | (refine qskip (by rfl) ?_; simp only [Act.put, List.setIfInBounds_toArray, List.set_cons_zero, List.set_cons_succ])
                | (refine qv1 0 (v := ?_) (by rfl) (by rfl) (fun ev hc hf h0 W hW => ?_) ?_; rotate_left; (focus (obtain ⟨e0, e1, e2, e3, e4, e5⟩ := HS.out W hW; first | (go_simp; done) | (go_simp; with_reducible rfl))); rotate_left; simp only [Act.put, List.setIfInBounds_toArray, List.set_cons_zero, List.set_cons_succ])
              first
                | (refine qskip (by rfl) ?_; simp only [Act.put, List.setIfInBounds_toArray, List.set_cons_zero, List.set_cons_succ])
                | (refine qv1 129 (v := ?_) (by rfl) (by rfl) (fun ev hc hf h0 W hW => ?_) ?_; rotate_left; (focus (obtain ⟨e0, e1, e2, e3, e4, e5⟩ := HS.out W hW; first | (go_simp; done) | (go_simp; with_reducible rfl))); rotate_left; simp only [Act.put, List.setIfInBounds_toArray, List.set_cons_zero, List.set_cons_succ])
              first
                | (refine qskip (by rfl) ?_; simp only [Act.put, List.setIfInBounds_toArray, List.set_cons_zero, List.set_cons_succ])
                | (refine qv1 130 (v := ?_) (by rfl) (by rfl) (fun ev hc hf h0 W hW => ?_) ?_; rotate_left; (focus (obtain ⟨e0, e1, e2, e3, e4, e5⟩ := HS.out W hW; first | (go_simp; done) | (go_simp; with_reducible rfl))); rotate_left; simp only [Act.put, List.setIfInBounds_toArray, List.set_cons_zero, List.set_cons_succ])
              first
                | (refine qskip (by rfl) ?_; simp only [Act.put, List.setIfInBounds_toArray, List.set_cons_zero, List.set_cons_succ])
                | (refine qv1 131 (v := ?_) (by rfl) (by rfl) (fun ev hc hf h0 W hW => ?_) ?_; rotate_left; (focus (obtain ⟨e0, e1, e2, e3, e4, e5⟩ := HS.out W hW; first | (go_simp; done) | (go_simp; with_reducible rfl))); rotate_left; simp only [Act.put, List.setIfInBounds_toArray, List.set_cons_zero, List.set_cons_succ])
              first
                | (refine qskip (by rfl) ?_; simp only [Act.put, List.setIfInBounds_toArray, List.set_cons_zero, List.set_cons_succ])
                | (refine qv1 12 (v := ?_) (by rfl) (by rfl) (fun ev hc hf h0 W hW => ?_) ?_; rotate_left; (focus (obtain ⟨e0, e1, e2, e3, e4, e5⟩ := HS.out W hW; first | (go_simp; done) | (go_simp; with_reducible rfl))); rotate_left; simp only [Act.put, List.setIfInBounds_toArray, List.set_cons_zero, List.set_cons_succ])
              first
                | (refine qskip (by rfl) ?_; simp only [Act.put, List.setIfInBounds_toArray, List.set_cons_zero, List.set_cons_succ])
                | (refine qv2 132 133 (v := ?_) (by rfl) (by rfl) (by rfl) (fun ev hc hf h0 h1 W hW => ?_) ?_; rotate_left; (focus (obtain ⟨e0, e1, e2, e3, e4, e5⟩ := HS.out W hW; first | (go_simp; done) | (go_simp; with_reducible rfl))); rotate_left; simp only [Act.put, List.setIfInBounds_toArray, List.set_cons_zero, List.set_cons_succ])
              first
                | (refine qskip (by rfl) ?_; simp only [Act.put, List.setIfInBounds_toArray, List.set_cons_zero, List.set_cons_succ])
                | (refine qv1 134 (v := ?_) (by rfl) (by rfl) (fun ev hc hf h0 W hW => ?_) ?_; rotate_left; (focus (obtain ⟨e0, e1, e2, e3, e4, e5⟩ := HS.out W hW; first | (go_simp; done) | (go_simp; with_reducible rfl))); rotate_left; simp only [Act.put, List.setIfInBounds_toArray, List.set_cons_zero, List.set_cons_succ])
              first
                | (refine qskip (by rfl) ?_; simp only [Act.put, List.setIfInBounds_toArray, List.set_cons_zero, List.set_cons_succ])
                | (refine qv1 135 (v := ?_) (by rfl) (by rfl) (fun ev hc hf h0 W hW => ?_) ?_; rotate_left; (focus (obtain ⟨e0, e1, e2, e3, e4, e5⟩ := HS.out W hW; first | (go_simp; done) | (go_simp; with_reducible rfl))); rotate_left; simp only [Act.put, List.setIfInBounds_toArray, List.set_cons_zero, List.set_cons_succ])
              first
                | (refine qskip (by rfl) ?_; simp only [Act.put, List.setIfInBounds_toArray, List.set_cons_zero, List.set_cons_succ])
                | (refine qv1 6 (v := ?_) (by rfl) (by rfl) (fun ev hc hf h0 W hW => ?_) ?_; rotate_left; (focus (obtain ⟨e0, e1, e2, e3, e4, e5⟩ := HS.out W hW; first | (go_simp; done) | (go_simp; with_reducible rfl))); rotate_left; simp only [Act.put, List.setIfInBounds_toArray, List.set_cons_zero, List.set_cons_succ])
              first
                | (refine qskip (by rfl) ?_; simp only [Act.put, List.setIfInBounds_toArray, List.set_cons_zero, List.set_cons_succ])
                | (refine qv2 136 137 (v := ?_) (by rfl) (by rfl) (by rfl) (fun ev hc hf h0 h1 W hW => ?_) ?_; rotate_left; (focus (obtain ⟨e0, e1, e2, e3, e4, e5⟩ := HS.out W hW; first | (go_simp; done) | (go_simp; with_reducible rfl))); rotate_left; simp only [Act.put, List.setIfInBounds_toArray, List.set_cons_zero, List.set_cons_succ])
              (refine qv2 128 138 (v := ?_) (by rfl) (by rfl) (by rfl) (fun ev hc hf h0 h1 W hW => ?_) ?_; rotate_left; (focus (obtain ⟨e0, e1, e2, e3, e4, e5⟩ := HS.out W hW; first | (go_simp; done) | (go_simp; with_reducible rfl))); rotate_left; simp only [Act.put, List.setIfInBounds_toArray, List.set_cons_zero, List.set_cons_succ])
              refine qnil ?_
              intro w5 hW5
              have HV := Lib.hid (show vs L2.f r n (m + 1) = vs L2.f r n m by rw [vs_succ, if_neg (by rw [votesB_iff]; rintro ⟨u', hu⟩; rw [hf] at hu; injection hu with hu; injection hu with h1 hu; injection hu with h2 hu; exact hab ⟨h1, h2⟩), List.append_nil])
              go_wp2_with fail
              go_roundw
              case rel => exact ⟨m + 1, _, rfl, by omega, by go_num, by rw [HV.out]; exact row_bel hrow hW5, Lib.hid (X.out.keep hW5), B.bel hW5, HK.trans (Kept.of_below hW5)⟩
              case measure => simp [intOf]; omega
        · obtain rfl : m = L.n := by omega
          obtain ⟨A', cp, rfl⟩ := own_shape hrow
          have hI : IntsAt wr A' (vs L2.f r n L.n) := intsAt_of_own (cap := cp) hrow
          have hvl := vs_le L2.f r n L.n
          go_wp2_with fail
          refine (refQuorum_any A' cp (vs L2.f r n L.n) L.n _ (by omega) (by omega) hI (by omega)).mono ?_
          rintro e w6 ⟨rfl, rfl⟩
          rw [vs_quo hfew (by
            rw [← HL2.out]
            intro y c hy
            have hy' : putF L.f k (r, n, v) y = some c := hy
            unfold putF at hy'
            by_cases e : y = k
            · subst e; omega
            · rw [if_neg e] at hy'; exact hkeys y c hy')]
          have hfe : L2.f = putF L.f k (r, n, v) := by rw [← HL2.out]
          have g2 := X.out.bk.free 2
          have g3 := X.out.bk.free 3
          rw [hfe]
          cases hb : quoB (voters (putF L.f k (r, n, v)) r n) L.n with
          | true =>
            have XK := Lib.hid (X.out.know v)
            have HK2 := Lib.hid ((HK.set (g := g) (i := 2) (.inl rfl) (.bool true)).set (g := g) (i := 3) (.inl rfl) (.string v))
            clear X B HK hI hrow hvl
            go_wp2_with fail
            rw [lNew_eq HO.out hb]
            refine bodyPost_ret (v := .tuple #[.bool true, .int .i64 0]) (by simp [results, Try.results46, go_sem]) rfl ⟨rfl, ?_, HK2.out⟩
            have := XK.out
            rw [← HL2.out] at this
            exact this
          | false =>
            have hkn2 : L2.known = false := by rw [← HL2.out]
            rw [hkn2] at x2
            clear B hI hrow hvl
            go_wp2_with fail
            rw [lNew_eq HO.out hb]
            refine bodyPost_ret (v := .tuple #[.bool false, .int .i64 0]) (by simp [results, Try.results46, go_sem]) rfl ⟨rfl, ?_, HK⟩
            have := X.out
            rw [← HL2.out] at this
            exact this
end

end Go.Proofs.Ytlgljcfkoakogaa
