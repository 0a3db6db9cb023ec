import Derived.Test.YtlgljcfkoakogaaP3
namespace Go.Proofs.Ytlgljcfkoakogaa
open Go.RowKit
set_option linter.unusedSimpArgs false
set_option linter.unusedVariables false


open Go.Maps Go.Shelf
def Foot (g pm am : Nat) (s : Value) : Nat → Prop := fun k => k = g ∨ k = pm ∨ k = am ∨ s.ownBlock = some k
structure PropNext (W W' : World) (g pm am : Nat) (s s' : Value) (P' : Prp) : Prop where
  at' : PropAt W' g pm am s' P'
  grow : ∀ k, s'.ownBlock = some k → s.ownBlock = some k ∨ W.heap.size ≤ k
  kept : Kept (Foot g pm am s) W W'
theorem row_not_map {W : World} {B : Nat} {es : Array MapEntry} {c : Nat} (h : W.heap[B]? = some (.map es c)) {base size k : Nat} {e : TypeId} {v : Value} {xs : List Value} (hr : W.ownsRow base e size v k xs) : some B ≠ v.ownBlock := by
  rcases hr.2 with ⟨rfl, _⟩ | ⟨g, cap, cur, rfl, _, hgb, _⟩
  · simp [Value.ownBlock]
  · intro e'
    obtain rfl : B = g := by simpa [Value.ownBlock] using e'
    rw [h] at hgb
    cases hgb
theorem own_kept {W W' : World} {base size k : Nat} {e : TypeId} {v : Value} {xs : List Value} (hr : W.ownsRow base e size v k xs) {row : Option Nat} (hg : W.grownBy W' row) (hne : ∀ j, v.ownBlock = some j → some j ≠ row) : W'.ownsRow base e size v k xs := by
  refine hr.kept hg ?_
  cases hv : v.ownBlock with
  | none => exact .inl rfl
  | some j => exact .inr (hne j hv)
theorem Kept.grownF {F : Nat → Prop} {W a b : World} {row : Option Nat} (h : Kept F W a) (hg : a.grownBy b row) (hr : ∀ k, row = some k → F k ∨ W.heap.size ≤ k) : Kept F W b :=
  ⟨hg.os.trans h.os, hg.tape.trans h.tape, hg.output.trans h.output, Nat.le_trans h.size hg.size, fun k hk hF => (hg.block k (Nat.lt_of_lt_of_le hk h.size) (fun e => by
    rcases hr k e.symm with h1 | h1
    · exact hF h1
    · omega)).trans (h.block k hk hF)⟩
/-- Promise, of one that may be heard. -/
def pProm (P : Prp) (x : Int) (v : Vt) : Bool × Prp :=
  if (P.prom x).isSome = true then (false, P)
  else if enB P.N P.order.length = true then (false, P)
  else (enB P.N (P.order.length + 1 : Nat), { P with prom := fun y => if y = x then some v else P.prom y, order := P.order ++ [x], nn := P.nn + 1 })
section
variable {W : World} {g pm am : Nat} {s : Value} {P : Prp} (x : Int) (v : Vt)
set_option maxRecDepth 100000
set_option maxHeartbeats 3200000
theorem pprom_has (h : PropAt W g pm am s P) (hx0 : 0 ≤ x) (hx1 : x < P.N) (hm : mayB P.r P.n = true) (hv : pMayB P.r P.n v = true) (c : Vt) (hc : P.prom x = some c) :
    Calls Try.prog 48 #[.pointer (some ⟨g, 0, none⟩), .int .i64 x, .agg #[.int .u64 P.r, .int .i64 P.n], v.v] W fun e W' => e = .returned (.tuple #[.bool false, .int .i64 0]) ∧ PropAt W' g pm am s P ∧ Below W.heap.size W W' := by
  have z1 : (W.alloc (.cells #[.int .u64 P.r, .int .i64 P.n] 24)).heap.size = W.heap.size + 1 := World.size_alloc _ _
  have hb0 := ((Below.refl W.heap.size W).alloc (Nat.le_refl _) (.cells #[.int .u64 P.r, .int .i64 P.n] 24)).alloc (by rw [z1]; omega) (.cells #[.bool v.has, .int .u64 v.r, .int .i64 v.n, .string v.val] 46)
  have k1 := (Bk.new W #[.int .u64 P.r, .int .i64 P.n] 24).alloc (.cells #[.bool v.has, .int .u64 v.r, .int .i64 v.n, .string v.val] 46)
  have k2 := Bk.new (W.alloc (.cells #[.int .u64 P.r, .int .i64 P.n] 24)) #[.bool v.has, .int .u64 v.r, .int .i64 v.n, .string v.val] 46
  rw [z1] at k2
  have X0 := h.keep hb0
  obtain ⟨d0, d1, d2, d3, d4, d5, d6, dz⟩ := X0.cells
  have a0 : ¬ x < 0 := by omega
  have a1 : ¬ (P.N : Int) ≤ x := by omega
  unfold Vt.v
  go_enter Try.func48, Try.ntmps48
  go_wp2_with fail
  refine (may_any P.r P.n _).mono ?_
  rintro e w1 ⟨rfl, hb1⟩
  rw [hm]
  have X1 := X0.keep hb1
  have k11 := k1.bel hb1
  have k21 := k2.bel hb1
  have HB1 := hb0.trans (hb1.mono hb0.size)
  clear hb0 hb1 X0 k1 k2 d0 d1 d2 d3 d4 d5 d6 dz z1
  obtain ⟨d0, d1, d2, d3, d4, d5, d6, dz⟩ := X1.cells
  obtain ⟨y0, y1, y2, y3⟩ : w1.cell? ⟨W.heap.size + 1, 0, none⟩ = some (.bool v.has) ∧ w1.cell? ⟨W.heap.size + 1, 1, none⟩ = some (.int .u64 v.r) ∧ w1.cell? ⟨W.heap.size + 1, 2, none⟩ = some (.int .i64 v.n) ∧ w1.cell? ⟨W.heap.size + 1, 3, none⟩ = some (.string v.val) := ⟨k21.cell 0, k21.cell 1, k21.cell 2, k21.cell 3⟩
  go_wp2_with fail
  refine (pmay_any g P.r P.n v _ d0 d1).mono ?_
  rintro e w2 ⟨rfl, hb2⟩
  rw [hv]
  have X2 := Lib.hid (X1.keep hb2)
  have k12 := Lib.hid (k11.bel hb2)
  have k22 := Lib.hid (k21.bel hb2)
  have HB2 := Lib.hid (HB1.trans (hb2.mono HB1.size))
  clear hb2 X1 k11 k21 HB1 d0 d1 d2 d3 d4 d5 d6 dz y0 y1 y2 y3
  obtain ⟨d0, d1, d2, d3, d4, d5, d6, dz⟩ := X2.out.cells
  have hwf : (Lit.int .i64 x).wf = true := wf_small hx0 (by have := X2.out.few; omega)
  have hlk := X2.out.pr.look Try.underlying127 Vt.inj zero46 hwf
  rw [hc] at hlk
  unfold Vt.v at hlk
  simp only [Option.getD_some, Option.isSome_some] at hlk
  go_upto_region 9 with fail
  have kz := (Below.refl w2.heap.size w2).alloc (Nat.le_refl _) (.cells #[.bool c.has, .int .u64 c.r, .int .i64 c.n, .string c.val] 46)
  have X3 := Lib.hid (X2.out.keep kz)
  have k13 := Lib.hid (k12.out.bel kz)
  have k23 := Lib.hid (k22.out.bel kz)
  have HB3 := Lib.hid (HB2.out.trans (kz.mono HB2.out.size))
  clear kz X2 k12 k22 HB2 d0 d1 d2 d3 d4 d5 d6 dz hlk
  generalize w2.alloc (.cells #[.bool c.has, .int .u64 c.r, .int .i64 c.n, .string c.val] 46) = w3 at X3 k13 k23 HB3 ⊢
  have HS := Lib.hid (show ∀ w', Bel w3 w' → w'.cell? ⟨W.heap.size, 0, none⟩ = some (.int .u64 P.r) ∧ w'.cell? ⟨W.heap.size, 1, none⟩ = some (.int .i64 P.n) ∧ w'.cell? ⟨g, 0, none⟩ = some (.int .u64 P.r) ∧ w'.cell? ⟨g, 1, none⟩ = some (.int .i64 P.n) ∧ w'.cell? ⟨g, 4, none⟩ = some (.map (some pm)) ∧
      (∀ ty, (Builtin.len_ #[127] ty #[.map (some pm)]).run Try.prog w' = .ok (.int .i64 P.order.length) w') from fun w' hw => by
    have hX := X3.out.keep hw
    exact ⟨(k13.out.bel hw).cell 0, (k13.out.bel hw).cell 1, hX.cells.1, hX.cells.2.1, hX.cells.2.2.2.2.1, fun ty => hX.pr.len Try.underlying127 ty⟩)
  have KE := Lib.hid (show ∀ w', Bel w3 w' → Calls Try.prog 66 #[.pointer (some ⟨g, 0, none⟩), .int .i64 P.order.length] w' fun e w'' => e = .returned (.bool (enB P.N P.order.length)) ∧ Below w'.heap.size w' w'' from fun w' hw => by
    have hX := X3.out.keep hw
    exact (enough_any g P.N P.order.length w' hX.pos hX.few hX.cells.2.2.1).mono fun e w'' ⟨a, b⟩ => ⟨a, b ▸ Below.refl _ _⟩)
  have hq := ne_same P.r P.n
  refine wp_qw (by kernel_rfl) ?_
  (refine qv1 11 (v := ?_) (by rfl) (by rfl) (fun ev hc hf h0 W hW => ?_) ?_; rotate_left; (focus (obtain ⟨e0, e1, e2, e3, e4, e5⟩ := HS.out W hW; first | (go_simp; done) | (go_simp; with_reducible rfl))); rotate_left; simp only [Act.put, List.setIfInBounds_toArray, List.set_cons_zero, List.set_cons_succ])
  (refine qv1 40 (v := ?_) (by rfl) (by rfl) (fun ev hc hf h0 W hW => ?_) ?_; rotate_left; (focus (obtain ⟨e0, e1, e2, e3, e4, e5⟩ := HS.out W hW; first | (go_simp; done) | (go_simp; with_reducible rfl))); rotate_left; simp only [Act.put, List.setIfInBounds_toArray, List.set_cons_zero, List.set_cons_succ])
  first
    | (refine qskip (by rfl) ?_; simp only [Act.put, List.setIfInBounds_toArray, List.set_cons_zero, List.set_cons_succ])
    | (refine qv1 6 (v := ?_) (by rfl) (by rfl) (fun ev hc hf h0 W hW => ?_) ?_; rotate_left; (focus (obtain ⟨e0, e1, e2, e3, e4, e5⟩ := HS.out W hW; first | (go_simp; done) | (go_simp; with_reducible rfl))); rotate_left; simp only [Act.put, List.setIfInBounds_toArray, List.set_cons_zero, List.set_cons_succ])
  first
    | (refine qskip (by rfl) ?_; simp only [Act.put, List.setIfInBounds_toArray, List.set_cons_zero, List.set_cons_succ])
    | (refine qv1 0 (v := ?_) (by rfl) (by rfl) (fun ev hc hf h0 W hW => ?_) ?_; rotate_left; (focus (obtain ⟨e0, e1, e2, e3, e4, e5⟩ := HS.out W hW; first | (go_simp; done) | (go_simp; with_reducible rfl))); rotate_left; simp only [Act.put, List.setIfInBounds_toArray, List.set_cons_zero, List.set_cons_succ])
  first
    | (refine qskip (by rfl) ?_; simp only [Act.put, List.setIfInBounds_toArray, List.set_cons_zero, List.set_cons_succ])
    | (refine qv1 43 (v := ?_) (by rfl) (by rfl) (fun ev hc hf h0 W hW => ?_) ?_; rotate_left; (focus (obtain ⟨e0, e1, e2, e3, e4, e5⟩ := HS.out W hW; first | (go_simp; done) | (go_simp; with_reducible rfl))); rotate_left; simp only [Act.put, List.setIfInBounds_toArray, List.set_cons_zero, List.set_cons_succ])
  first
    | (refine qskip (by rfl) ?_; simp only [Act.put, List.setIfInBounds_toArray, List.set_cons_zero, List.set_cons_succ])
    | (refine qv1 44 (v := ?_) (by rfl) (by rfl) (fun ev hc hf h0 W hW => ?_) ?_; rotate_left; (focus (obtain ⟨e0, e1, e2, e3, e4, e5⟩ := HS.out W hW; first | (go_simp; done) | (go_simp; with_reducible rfl))); rotate_left; simp only [Act.put, List.setIfInBounds_toArray, List.set_cons_zero, List.set_cons_succ])
  first
    | (refine qskip (by rfl) ?_; simp only [Act.put, List.setIfInBounds_toArray, List.set_cons_zero, List.set_cons_succ])
    | (refine qv1 45 (v := ?_) (by rfl) (by rfl) (fun ev hc hf h0 W hW => ?_) ?_; rotate_left; (focus (obtain ⟨e0, e1, e2, e3, e4, e5⟩ := HS.out W hW; first | (go_simp; done) | (go_simp; with_reducible rfl))); rotate_left; simp only [Act.put, List.setIfInBounds_toArray, List.set_cons_zero, List.set_cons_succ])
  first
    | (refine qskip (by rfl) ?_; simp only [Act.put, List.setIfInBounds_toArray, List.set_cons_zero, List.set_cons_succ])
    | (refine qv2 42 46 (v := ?_) (by rfl) (by rfl) (by rfl) (fun ev hc hf h0 h1 W hW => ?_) ?_; rotate_left; (focus (obtain ⟨e0, e1, e2, e3, e4, e5⟩ := HS.out W hW; first | (go_simp; done) | (go_simp; with_reducible rfl))); rotate_left; simp only [Act.put, List.setIfInBounds_toArray, List.set_cons_zero, List.set_cons_succ])
  (refine qv2 41 47 (v := ?_) (by rfl) (by rfl) (by rfl) (fun ev hc hf h0 h1 W hW => ?_) ?_; rotate_left; (focus (obtain ⟨e0, e1, e2, e3, e4, e5⟩ := HS.out W hW; first | (go_simp; done) | (go_simp; with_reducible rfl))); rotate_left; simp only [Act.put, List.setIfInBounds_toArray, List.set_cons_zero, List.set_cons_succ])
  (refine qv1 48 (v := ?_) (by rfl) (by rfl) (fun ev hc hf h0 W hW => ?_) ?_; rotate_left; (focus (obtain ⟨e0, e1, e2, e3, e4, e5⟩ := HS.out W hW; first | (go_simp; done) | (go_simp; with_reducible rfl))); rotate_left; simp only [Act.put, List.setIfInBounds_toArray, List.set_cons_zero, List.set_cons_succ])
  first
    | (refine qskip (by rfl) ?_; simp only [Act.put, List.setIfInBounds_toArray, List.set_cons_zero, List.set_cons_succ])
    | (refine qv1 0 (v := ?_) (by rfl) (by rfl) (fun ev hc hf h0 W hW => ?_) ?_; rotate_left; (focus (obtain ⟨e0, e1, e2, e3, e4, e5⟩ := HS.out W hW; first | (go_simp; done) | (go_simp; with_reducible rfl))); rotate_left; simp only [Act.put, List.setIfInBounds_toArray, List.set_cons_zero, List.set_cons_succ])
  first
    | (refine qskip (by rfl) ?_; simp only [Act.put, List.setIfInBounds_toArray, List.set_cons_zero, List.set_cons_succ])
    | (refine qv1 0 (v := ?_) (by rfl) (by rfl) (fun ev hc hf h0 W hW => ?_) ?_; rotate_left; (focus (obtain ⟨e0, e1, e2, e3, e4, e5⟩ := HS.out W hW; first | (go_simp; done) | (go_simp; with_reducible rfl))); rotate_left; simp only [Act.put, List.setIfInBounds_toArray, List.set_cons_zero, List.set_cons_succ])
  first
    | (refine qskip (by rfl) ?_; simp only [Act.put, List.setIfInBounds_toArray, List.set_cons_zero, List.set_cons_succ])
    | (refine qv1 51 (v := ?_) (by rfl) (by rfl) (fun ev hc hf h0 W hW => ?_) ?_; rotate_left; (focus (obtain ⟨e0, e1, e2, e3, e4, e5⟩ := HS.out W hW; first | (go_simp; done) | (go_simp; with_reducible rfl))); rotate_left; simp only [Act.put, List.setIfInBounds_toArray, List.set_cons_zero, List.set_cons_succ])
  first
    | (refine qskip (by rfl) ?_; simp only [Act.put, List.setIfInBounds_toArray, List.set_cons_zero, List.set_cons_succ])
    | (refine qv1 52 (v := ?_) (by rfl) (by rfl) (fun ev hc hf h0 W hW => ?_) ?_; rotate_left; (focus (obtain ⟨e0, e1, e2, e3, e4, e5⟩ := HS.out W hW; first | (go_simp; done) | (go_simp; with_reducible rfl))); rotate_left; simp only [Act.put, List.setIfInBounds_toArray, List.set_cons_zero, List.set_cons_succ])
  first
    | (refine qskip (by rfl) ?_; simp only [Act.put, List.setIfInBounds_toArray, List.set_cons_zero, List.set_cons_succ])
    | (refine qv1 53 (v := ?_) (by rfl) (by rfl) (fun ev hc hf h0 W hW => ?_) ?_; rotate_left; (focus (obtain ⟨e0, e1, e2, e3, e4, e5⟩ := HS.out W hW; first | (go_simp; done) | (go_simp; with_reducible rfl))); rotate_left; simp only [Act.put, List.setIfInBounds_toArray, List.set_cons_zero, List.set_cons_succ])
  first
    | (refine qskip (by rfl) ?_; simp only [Act.put, List.setIfInBounds_toArray, List.set_cons_zero, List.set_cons_succ])
    | (refine qv1 54 (v := ?_) (by rfl) (by rfl) (fun ev hc hf h0 W hW => ?_) ?_; rotate_left; (focus (obtain ⟨e0, e1, e2, e3, e4, e5⟩ := HS.out W hW; first | (go_simp; done) | (go_simp; with_reducible rfl))); rotate_left; simp only [Act.put, List.setIfInBounds_toArray, List.set_cons_zero, List.set_cons_succ])
  first
    | (refine qskip (by rfl) ?_; simp only [Act.put, List.setIfInBounds_toArray, List.set_cons_zero, List.set_cons_succ])
    | (refine qc2 50 55 _ _ _ (by rfl) (by rfl) (by rfl) (fun ev hc hf h0 h1 W hW => ?_) (fun W hW => q_calls hW (KE.out W hW)) ?_; (focus (obtain ⟨e0, e1, e2, e3, e4, e5⟩ := HS.out W hW; go_simp; done)); simp only [Act.put, List.setIfInBounds_toArray, List.set_cons_zero, List.set_cons_succ])
  (refine qv2 49 56 (v := ?_) (by rfl) (by rfl) (by rfl) (fun ev hc hf h0 h1 W hW => ?_) ?_; rotate_left; (focus (obtain ⟨e0, e1, e2, e3, e4, e5⟩ := HS.out W hW; first | (go_simp; done) | (go_simp; with_reducible rfl))); rotate_left; simp only [Act.put, List.setIfInBounds_toArray, List.set_cons_zero, List.set_cons_succ])
  refine qnil ?_
  intro w4 hW4
  have X4 := Lib.hid (X3.out.keep hW4)
  have k24 := Lib.hid (k23.out.bel hW4)
  have HB4 := Lib.hid (HB3.out.trans (hW4.mono HB3.out.size))
  clear HS KE X3 k13 k23 HB3 hW4 hq
  go_wp2_with fail
  exact bodyPost_ret (v := .tuple #[.bool false, .int .i64 0]) (by simp [results, Try.results48, go_sem]) rfl ⟨rfl, X4.out, HB4.out⟩
theorem pprom_enough (h : PropAt W g pm am s P) (hx0 : 0 ≤ x) (hx1 : x < P.N) (hm : mayB P.r P.n = true) (hv : pMayB P.r P.n v = true) (hc : P.prom x = none) (hen : enB P.N P.order.length = true) :
    Calls Try.prog 48 #[.pointer (some ⟨g, 0, none⟩), .int .i64 x, .agg #[.int .u64 P.r, .int .i64 P.n], v.v] W fun e W' => e = .returned (.tuple #[.bool false, .int .i64 0]) ∧ PropAt W' g pm am s P ∧ Below W.heap.size W W' := by
  have z1 : (W.alloc (.cells #[.int .u64 P.r, .int .i64 P.n] 24)).heap.size = W.heap.size + 1 := World.size_alloc _ _
  have hb0 := ((Below.refl W.heap.size W).alloc (Nat.le_refl _) (.cells #[.int .u64 P.r, .int .i64 P.n] 24)).alloc (by rw [z1]; omega) (.cells #[.bool v.has, .int .u64 v.r, .int .i64 v.n, .string v.val] 46)
  have k1 := (Bk.new W #[.int .u64 P.r, .int .i64 P.n] 24).alloc (.cells #[.bool v.has, .int .u64 v.r, .int .i64 v.n, .string v.val] 46)
  have k2 := Bk.new (W.alloc (.cells #[.int .u64 P.r, .int .i64 P.n] 24)) #[.bool v.has, .int .u64 v.r, .int .i64 v.n, .string v.val] 46
  rw [z1] at k2
  have X0 := h.keep hb0
  obtain ⟨d0, d1, d2, d3, d4, d5, d6, dz⟩ := X0.cells
  have a0 : ¬ x < 0 := by omega
  have a1 : ¬ (P.N : Int) ≤ x := by omega
  unfold Vt.v
  go_enter Try.func48, Try.ntmps48
  go_wp2_with fail
  refine (may_any P.r P.n _).mono ?_
  rintro e w1 ⟨rfl, hb1⟩
  rw [hm]
  have X1 := X0.keep hb1
  have k11 := k1.bel hb1
  have k21 := k2.bel hb1
  have HB1 := hb0.trans (hb1.mono hb0.size)
  clear hb0 hb1 X0 k1 k2 d0 d1 d2 d3 d4 d5 d6 dz z1
  obtain ⟨d0, d1, d2, d3, d4, d5, d6, dz⟩ := X1.cells
  obtain ⟨y0, y1, y2, y3⟩ : w1.cell? ⟨W.heap.size + 1, 0, none⟩ = some (.bool v.has) ∧ w1.cell? ⟨W.heap.size + 1, 1, none⟩ = some (.int .u64 v.r) ∧ w1.cell? ⟨W.heap.size + 1, 2, none⟩ = some (.int .i64 v.n) ∧ w1.cell? ⟨W.heap.size + 1, 3, none⟩ = some (.string v.val) := ⟨k21.cell 0, k21.cell 1, k21.cell 2, k21.cell 3⟩
  go_wp2_with fail
  refine (pmay_any g P.r P.n v _ d0 d1).mono ?_
  rintro e w2 ⟨rfl, hb2⟩
  rw [hv]
  have X2 := Lib.hid (X1.keep hb2)
  have k12 := Lib.hid (k11.bel hb2)
  have k22 := Lib.hid (k21.bel hb2)
  have HB2 := Lib.hid (HB1.trans (hb2.mono HB1.size))
  clear hb2 X1 k11 k21 HB1 d0 d1 d2 d3 d4 d5 d6 dz y0 y1 y2 y3
  obtain ⟨d0, d1, d2, d3, d4, d5, d6, dz⟩ := X2.out.cells
  have hwf : (Lit.int .i64 x).wf = true := wf_small hx0 (by have := X2.out.few; omega)
  have hlk := X2.out.pr.look Try.underlying127 Vt.inj zero46 hwf
  rw [hc] at hlk
  unfold Vt.v Vt.zero at hlk
  simp only [Option.getD_none, Option.isSome_none] at hlk
  go_upto_region 9 with fail
  have kz := (Below.refl w2.heap.size w2).alloc (Nat.le_refl _) (.cells #[.bool false, .int .u64 0, .int .i64 0, .string ⟨#[]⟩] 46)
  have X3 := Lib.hid (X2.out.keep kz)
  have k13 := Lib.hid (k12.out.bel kz)
  have k23 := Lib.hid (k22.out.bel kz)
  have HB3 := Lib.hid (HB2.out.trans (kz.mono HB2.out.size))
  clear kz X2 k12 k22 HB2 d0 d1 d2 d3 d4 d5 d6 dz hlk
  generalize w2.alloc (.cells #[.bool false, .int .u64 0, .int .i64 0, .string ⟨#[]⟩] 46) = w3 at X3 k13 k23 HB3 ⊢
  have HS := Lib.hid (show ∀ w', Bel w3 w' → w'.cell? ⟨W.heap.size, 0, none⟩ = some (.int .u64 P.r) ∧ w'.cell? ⟨W.heap.size, 1, none⟩ = some (.int .i64 P.n) ∧ w'.cell? ⟨g, 0, none⟩ = some (.int .u64 P.r) ∧ w'.cell? ⟨g, 1, none⟩ = some (.int .i64 P.n) ∧ w'.cell? ⟨g, 4, none⟩ = some (.map (some pm)) ∧
      (∀ ty, (Builtin.len_ #[127] ty #[.map (some pm)]).run Try.prog w' = .ok (.int .i64 P.order.length) w') from fun w' hw => by
    have hX := X3.out.keep hw
    exact ⟨(k13.out.bel hw).cell 0, (k13.out.bel hw).cell 1, hX.cells.1, hX.cells.2.1, hX.cells.2.2.2.2.1, fun ty => hX.pr.len Try.underlying127 ty⟩)
  have KE := Lib.hid (show ∀ w', Bel w3 w' → Calls Try.prog 66 #[.pointer (some ⟨g, 0, none⟩), .int .i64 P.order.length] w' fun e w'' => e = .returned (.bool (enB P.N P.order.length)) ∧ Below w'.heap.size w' w'' from fun w' hw => by
    have hX := X3.out.keep hw
    exact (enough_any g P.N P.order.length w' hX.pos hX.few hX.cells.2.2.1).mono fun e w'' ⟨a, b⟩ => ⟨a, b ▸ Below.refl _ _⟩)
  rw [hen] at KE
  have hq := ne_same P.r P.n
  refine wp_qw (by kernel_rfl) ?_
  (refine qv1 11 (v := ?_) (by rfl) (by rfl) (fun ev hc hf h0 W hW => ?_) ?_; rotate_left; (focus (obtain ⟨e0, e1, e2, e3, e4, e5⟩ := HS.out W hW; first | (go_simp; done) | (go_simp; with_reducible rfl))); rotate_left; simp only [Act.put, List.setIfInBounds_toArray, List.set_cons_zero, List.set_cons_succ])
  (refine qv1 40 (v := ?_) (by rfl) (by rfl) (fun ev hc hf h0 W hW => ?_) ?_; rotate_left; (focus (obtain ⟨e0, e1, e2, e3, e4, e5⟩ := HS.out W hW; first | (go_simp; done) | (go_simp; with_reducible rfl))); rotate_left; simp only [Act.put, List.setIfInBounds_toArray, List.set_cons_zero, List.set_cons_succ])
  first
    | (refine qskip (by rfl) ?_; simp only [Act.put, List.setIfInBounds_toArray, List.set_cons_zero, List.set_cons_succ])
    | (refine qv1 6 (v := ?_) (by rfl) (by rfl) (fun ev hc hf h0 W hW => ?_) ?_; rotate_left; (focus (obtain ⟨e0, e1, e2, e3, e4, e5⟩ := HS.out W hW; first | (go_simp; done) | (go_simp; with_reducible rfl))); rotate_left; simp only [Act.put, List.setIfInBounds_toArray, List.set_cons_zero, List.set_cons_succ])
  first
    | (refine qskip (by rfl) ?_; simp only [Act.put, List.setIfInBounds_toArray, List.set_cons_zero, List.set_cons_succ])
    | (refine qv1 0 (v := ?_) (by rfl) (by rfl) (fun ev hc hf h0 W hW => ?_) ?_; rotate_left; (focus (obtain ⟨e0, e1, e2, e3, e4, e5⟩ := HS.out W hW; first | (go_simp; done) | (go_simp; with_reducible rfl))); rotate_left; simp only [Act.put, List.setIfInBounds_toArray, List.set_cons_zero, List.set_cons_succ])
  first
    | (refine qskip (by rfl) ?_; simp only [Act.put, List.setIfInBounds_toArray, List.set_cons_zero, List.set_cons_succ])
    | (refine qv1 43 (v := ?_) (by rfl) (by rfl) (fun ev hc hf h0 W hW => ?_) ?_; rotate_left; (focus (obtain ⟨e0, e1, e2, e3, e4, e5⟩ := HS.out W hW; first | (go_simp; done) | (go_simp; with_reducible rfl))); rotate_left; simp only [Act.put, List.setIfInBounds_toArray, List.set_cons_zero, List.set_cons_succ])
  first
    | (refine qskip (by rfl) ?_; simp only [Act.put, List.setIfInBounds_toArray, List.set_cons_zero, List.set_cons_succ])
    | (refine qv1 44 (v := ?_) (by rfl) (by rfl) (fun ev hc hf h0 W hW => ?_) ?_; rotate_left; (focus (obtain ⟨e0, e1, e2, e3, e4, e5⟩ := HS.out W hW; first | (go_simp; done) | (go_simp; with_reducible rfl))); rotate_left; simp only [Act.put, List.setIfInBounds_toArray, List.set_cons_zero, List.set_cons_succ])
  first
    | (refine qskip (by rfl) ?_; simp only [Act.put, List.setIfInBounds_toArray, List.set_cons_zero, List.set_cons_succ])
    | (refine qv1 45 (v := ?_) (by rfl) (by rfl) (fun ev hc hf h0 W hW => ?_) ?_; rotate_left; (focus (obtain ⟨e0, e1, e2, e3, e4, e5⟩ := HS.out W hW; first | (go_simp; done) | (go_simp; with_reducible rfl))); rotate_left; simp only [Act.put, List.setIfInBounds_toArray, List.set_cons_zero, List.set_cons_succ])
  first
    | (refine qskip (by rfl) ?_; simp only [Act.put, List.setIfInBounds_toArray, List.set_cons_zero, List.set_cons_succ])
    | (refine qv2 42 46 (v := ?_) (by rfl) (by rfl) (by rfl) (fun ev hc hf h0 h1 W hW => ?_) ?_; rotate_left; (focus (obtain ⟨e0, e1, e2, e3, e4, e5⟩ := HS.out W hW; first | (go_simp; done) | (go_simp; with_reducible rfl))); rotate_left; simp only [Act.put, List.setIfInBounds_toArray, List.set_cons_zero, List.set_cons_succ])
  (refine qv2 41 47 (v := ?_) (by rfl) (by rfl) (by rfl) (fun ev hc hf h0 h1 W hW => ?_) ?_; rotate_left; (focus (obtain ⟨e0, e1, e2, e3, e4, e5⟩ := HS.out W hW; first | (go_simp; done) | (go_simp; with_reducible rfl))); rotate_left; simp only [Act.put, List.setIfInBounds_toArray, List.set_cons_zero, List.set_cons_succ])
  (refine qv1 48 (v := ?_) (by rfl) (by rfl) (fun ev hc hf h0 W hW => ?_) ?_; rotate_left; (focus (obtain ⟨e0, e1, e2, e3, e4, e5⟩ := HS.out W hW; first | (go_simp; done) | (go_simp; with_reducible rfl))); rotate_left; simp only [Act.put, List.setIfInBounds_toArray, List.set_cons_zero, List.set_cons_succ])
  first
    | (refine qskip (by rfl) ?_; simp only [Act.put, List.setIfInBounds_toArray, List.set_cons_zero, List.set_cons_succ])
    | (refine qv1 0 (v := ?_) (by rfl) (by rfl) (fun ev hc hf h0 W hW => ?_) ?_; rotate_left; (focus (obtain ⟨e0, e1, e2, e3, e4, e5⟩ := HS.out W hW; first | (go_simp; done) | (go_simp; with_reducible rfl))); rotate_left; simp only [Act.put, List.setIfInBounds_toArray, List.set_cons_zero, List.set_cons_succ])
  first
    | (refine qskip (by rfl) ?_; simp only [Act.put, List.setIfInBounds_toArray, List.set_cons_zero, List.set_cons_succ])
    | (refine qv1 0 (v := ?_) (by rfl) (by rfl) (fun ev hc hf h0 W hW => ?_) ?_; rotate_left; (focus (obtain ⟨e0, e1, e2, e3, e4, e5⟩ := HS.out W hW; first | (go_simp; done) | (go_simp; with_reducible rfl))); rotate_left; simp only [Act.put, List.setIfInBounds_toArray, List.set_cons_zero, List.set_cons_succ])
  first
    | (refine qskip (by rfl) ?_; simp only [Act.put, List.setIfInBounds_toArray, List.set_cons_zero, List.set_cons_succ])
    | (refine qv1 51 (v := ?_) (by rfl) (by rfl) (fun ev hc hf h0 W hW => ?_) ?_; rotate_left; (focus (obtain ⟨e0, e1, e2, e3, e4, e5⟩ := HS.out W hW; first | (go_simp; done) | (go_simp; with_reducible rfl))); rotate_left; simp only [Act.put, List.setIfInBounds_toArray, List.set_cons_zero, List.set_cons_succ])
  first
    | (refine qskip (by rfl) ?_; simp only [Act.put, List.setIfInBounds_toArray, List.set_cons_zero, List.set_cons_succ])
    | (refine qv1 52 (v := ?_) (by rfl) (by rfl) (fun ev hc hf h0 W hW => ?_) ?_; rotate_left; (focus (obtain ⟨e0, e1, e2, e3, e4, e5⟩ := HS.out W hW; first | (go_simp; done) | (go_simp; with_reducible rfl))); rotate_left; simp only [Act.put, List.setIfInBounds_toArray, List.set_cons_zero, List.set_cons_succ])
  first
    | (refine qskip (by rfl) ?_; simp only [Act.put, List.setIfInBounds_toArray, List.set_cons_zero, List.set_cons_succ])
    | (refine qv1 53 (v := ?_) (by rfl) (by rfl) (fun ev hc hf h0 W hW => ?_) ?_; rotate_left; (focus (obtain ⟨e0, e1, e2, e3, e4, e5⟩ := HS.out W hW; first | (go_simp; done) | (go_simp; with_reducible rfl))); rotate_left; simp only [Act.put, List.setIfInBounds_toArray, List.set_cons_zero, List.set_cons_succ])
  first
    | (refine qskip (by rfl) ?_; simp only [Act.put, List.setIfInBounds_toArray, List.set_cons_zero, List.set_cons_succ])
    | (refine qv1 54 (v := ?_) (by rfl) (by rfl) (fun ev hc hf h0 W hW => ?_) ?_; rotate_left; (focus (obtain ⟨e0, e1, e2, e3, e4, e5⟩ := HS.out W hW; first | (go_simp; done) | (go_simp; with_reducible rfl))); rotate_left; simp only [Act.put, List.setIfInBounds_toArray, List.set_cons_zero, List.set_cons_succ])
  first
    | (refine qskip (by rfl) ?_; simp only [Act.put, List.setIfInBounds_toArray, List.set_cons_zero, List.set_cons_succ])
    | (refine qc2 50 55 _ _ _ (by rfl) (by rfl) (by rfl) (fun ev hc hf h0 h1 W hW => ?_) (fun W hW => q_calls hW (KE.out W hW)) ?_; (focus (obtain ⟨e0, e1, e2, e3, e4, e5⟩ := HS.out W hW; go_simp; done)); simp only [Act.put, List.setIfInBounds_toArray, List.set_cons_zero, List.set_cons_succ])
  (refine qv2 49 56 (v := ?_) (by rfl) (by rfl) (by rfl) (fun ev hc hf h0 h1 W hW => ?_) ?_; rotate_left; (focus (obtain ⟨e0, e1, e2, e3, e4, e5⟩ := HS.out W hW; first | (go_simp; done) | (go_simp; with_reducible rfl))); rotate_left; simp only [Act.put, List.setIfInBounds_toArray, List.set_cons_zero, List.set_cons_succ])
  refine qnil ?_
  intro w4 hW4
  have X4 := Lib.hid (X3.out.keep hW4)
  have k24 := Lib.hid (k23.out.bel hW4)
  have HB4 := Lib.hid (HB3.out.trans (hW4.mono HB3.out.size))
  clear HS KE X3 k13 k23 HB3 hW4 hq
  go_wp2_with fail
  exact bodyPost_ret (v := .tuple #[.bool false, .int .i64 0]) (by simp [results, Try.results48, go_sem]) rfl ⟨rfl, X4.out, HB4.out⟩
theorem pprom_new (h : PropAt W g pm am s P) (hx0 : 0 ≤ x) (hx1 : x < P.N) (hm : mayB P.r P.n = true) (hv : pMayB P.r P.n v = true) (hc : P.prom x = none) (hen : enB P.N P.order.length = false) (hnn : P.nn < 1000000) :
    Calls Try.prog 48 #[.pointer (some ⟨g, 0, none⟩), .int .i64 x, .agg #[.int .u64 P.r, .int .i64 P.n], v.v] W fun e W' => e = .returned (.tuple #[.bool (enB P.N (P.order.length + 1 : Nat)), .int .i64 0]) ∧
      ∃ s', PropNext W W' g pm am s s' { P with prom := fun y => if y = x then some v else P.prom y, order := P.order ++ [x], nn := P.nn + 1 } := by
  have z1 : (W.alloc (.cells #[.int .u64 P.r, .int .i64 P.n] 24)).heap.size = W.heap.size + 1 := World.size_alloc _ _
  have hb0 := ((Below.refl W.heap.size W).alloc (Nat.le_refl _) (.cells #[.int .u64 P.r, .int .i64 P.n] 24)).alloc (by rw [z1]; omega) (.cells #[.bool v.has, .int .u64 v.r, .int .i64 v.n, .string v.val] 46)
  have k1 := (Bk.new W #[.int .u64 P.r, .int .i64 P.n] 24).alloc (.cells #[.bool v.has, .int .u64 v.r, .int .i64 v.n, .string v.val] 46)
  have k2 := Bk.new (W.alloc (.cells #[.int .u64 P.r, .int .i64 P.n] 24)) #[.bool v.has, .int .u64 v.r, .int .i64 v.n, .string v.val] 46
  rw [z1] at k2
  have X0 := h.keep hb0
  obtain ⟨d0, d1, d2, d3, d4, d5, d6, dz⟩ := X0.cells
  have a0 : ¬ x < 0 := by omega
  have a1 : ¬ (P.N : Int) ≤ x := by omega
  unfold Vt.v
  go_enter Try.func48, Try.ntmps48
  go_wp2_with fail
  refine (may_any P.r P.n _).mono ?_
  rintro e w1 ⟨rfl, hb1⟩
  rw [hm]
  have X1 := X0.keep hb1
  have k11 := k1.bel hb1
  have k21 := k2.bel hb1
  have HB1 := hb0.trans (hb1.mono hb0.size)
  clear hb0 hb1 X0 k1 k2 d0 d1 d2 d3 d4 d5 d6 dz z1
  obtain ⟨d0, d1, d2, d3, d4, d5, d6, dz⟩ := X1.cells
  obtain ⟨y0, y1, y2, y3⟩ : w1.cell? ⟨W.heap.size + 1, 0, none⟩ = some (.bool v.has) ∧ w1.cell? ⟨W.heap.size + 1, 1, none⟩ = some (.int .u64 v.r) ∧ w1.cell? ⟨W.heap.size + 1, 2, none⟩ = some (.int .i64 v.n) ∧ w1.cell? ⟨W.heap.size + 1, 3, none⟩ = some (.string v.val) := ⟨k21.cell 0, k21.cell 1, k21.cell 2, k21.cell 3⟩
  go_wp2_with fail
  refine (pmay_any g P.r P.n v _ d0 d1).mono ?_
  rintro e w2 ⟨rfl, hb2⟩
  rw [hv]
  have X2 := Lib.hid (X1.keep hb2)
  have k12 := Lib.hid (k11.bel hb2)
  have k22 := Lib.hid (k21.bel hb2)
  have HB2 := Lib.hid (HB1.trans (hb2.mono HB1.size))
  clear hb2 X1 k11 k21 HB1 d0 d1 d2 d3 d4 d5 d6 dz y0 y1 y2 y3
  obtain ⟨d0, d1, d2, d3, d4, d5, d6, dz⟩ := X2.out.cells
  have hwf : (Lit.int .i64 x).wf = true := wf_small hx0 (by have := X2.out.few; omega)
  have hlk := X2.out.pr.look Try.underlying127 Vt.inj zero46 hwf
  rw [hc] at hlk
  unfold Vt.v Vt.zero at hlk
  simp only [Option.getD_none, Option.isSome_none] at hlk
  go_upto_region 9 with fail
  have kz := (Below.refl w2.heap.size w2).alloc (Nat.le_refl _) (.cells #[.bool false, .int .u64 0, .int .i64 0, .string ⟨#[]⟩] 46)
  have X3 := Lib.hid (X2.out.keep kz)
  have k13 := Lib.hid (k12.out.bel kz)
  have k23 := Lib.hid (k22.out.bel kz)
  have HB3 := Lib.hid (HB2.out.trans (kz.mono HB2.out.size))
  clear kz X2 k12 k22 HB2 d0 d1 d2 d3 d4 d5 d6 dz hlk
  generalize w2.alloc (.cells #[.bool false, .int .u64 0, .int .i64 0, .string ⟨#[]⟩] 46) = w3 at X3 k13 k23 HB3 ⊢
  have HS := Lib.hid (show ∀ w', Bel w3 w' → w'.cell? ⟨W.heap.size, 0, none⟩ = some (.int .u64 P.r) ∧ w'.cell? ⟨W.heap.size, 1, none⟩ = some (.int .i64 P.n) ∧ w'.cell? ⟨g, 0, none⟩ = some (.int .u64 P.r) ∧ w'.cell? ⟨g, 1, none⟩ = some (.int .i64 P.n) ∧ w'.cell? ⟨g, 4, none⟩ = some (.map (some pm)) ∧
      (∀ ty, (Builtin.len_ #[127] ty #[.map (some pm)]).run Try.prog w' = .ok (.int .i64 P.order.length) w') from fun w' hw => by
    have hX := X3.out.keep hw
    exact ⟨(k13.out.bel hw).cell 0, (k13.out.bel hw).cell 1, hX.cells.1, hX.cells.2.1, hX.cells.2.2.2.2.1, fun ty => hX.pr.len Try.underlying127 ty⟩)
  have KE := Lib.hid (show ∀ w', Bel w3 w' → Calls Try.prog 66 #[.pointer (some ⟨g, 0, none⟩), .int .i64 P.order.length] w' fun e w'' => e = .returned (.bool (enB P.N P.order.length)) ∧ Below w'.heap.size w' w'' from fun w' hw => by
    have hX := X3.out.keep hw
    exact (enough_any g P.N P.order.length w' hX.pos hX.few hX.cells.2.2.1).mono fun e w'' ⟨a, b⟩ => ⟨a, b ▸ Below.refl _ _⟩)
  rw [hen] at KE
  have hq := ne_same P.r P.n
  refine wp_qw (by kernel_rfl) ?_
  (refine qv1 11 (v := ?_) (by rfl) (by rfl) (fun ev hc hf h0 W hW => ?_) ?_; rotate_left; (focus (obtain ⟨e0, e1, e2, e3, e4, e5⟩ := HS.out W hW; first | (go_simp; done) | (go_simp; with_reducible rfl))); rotate_left; simp only [Act.put, List.setIfInBounds_toArray, List.set_cons_zero, List.set_cons_succ])
  (refine qv1 40 (v := ?_) (by rfl) (by rfl) (fun ev hc hf h0 W hW => ?_) ?_; rotate_left; (focus (obtain ⟨e0, e1, e2, e3, e4, e5⟩ := HS.out W hW; first | (go_simp; done) | (go_simp; with_reducible rfl))); rotate_left; simp only [Act.put, List.setIfInBounds_toArray, List.set_cons_zero, List.set_cons_succ])
  first
    | (refine qskip (by rfl) ?_; simp only [Act.put, List.setIfInBounds_toArray, List.set_cons_zero, List.set_cons_succ])
    | (refine qv1 6 (v := ?_) (by rfl) (by rfl) (fun ev hc hf h0 W hW => ?_) ?_; rotate_left; (focus (obtain ⟨e0, e1, e2, e3, e4, e5⟩ := HS.out W hW; first | (go_simp; done) | (go_simp; with_reducible rfl))); rotate_left; simp only [Act.put, List.setIfInBounds_toArray, List.set_cons_zero, List.set_cons_succ])
  first
    | (refine qskip (by rfl) ?_; simp only [Act.put, List.setIfInBounds_toArray, List.set_cons_zero, List.set_cons_succ])
    | (refine qv1 0 (v := ?_) (by rfl) (by rfl) (fun ev hc hf h0 W hW => ?_) ?_; rotate_left; (focus (obtain ⟨e0, e1, e2, e3, e4, e5⟩ := HS.out W hW; first | (go_simp; done) | (go_simp; with_reducible rfl))); rotate_left; simp only [Act.put, List.setIfInBounds_toArray, List.set_cons_zero, List.set_cons_succ])
  first
    | (refine qskip (by rfl) ?_; simp only [Act.put, List.setIfInBounds_toArray, List.set_cons_zero, List.set_cons_succ])
    | (refine qv1 43 (v := ?_) (by rfl) (by rfl) (fun ev hc hf h0 W hW => ?_) ?_; rotate_left; (focus (obtain ⟨e0, e1, e2, e3, e4, e5⟩ := HS.out W hW; first | (go_simp; done) | (go_simp; with_reducible rfl))); rotate_left; simp only [Act.put, List.setIfInBounds_toArray, List.set_cons_zero, List.set_cons_succ])
  first
    | (refine qskip (by rfl) ?_; simp only [Act.put, List.setIfInBounds_toArray, List.set_cons_zero, List.set_cons_succ])
    | (refine qv1 44 (v := ?_) (by rfl) (by rfl) (fun ev hc hf h0 W hW => ?_) ?_; rotate_left; (focus (obtain ⟨e0, e1, e2, e3, e4, e5⟩ := HS.out W hW; first | (go_simp; done) | (go_simp; with_reducible rfl))); rotate_left; simp only [Act.put, List.setIfInBounds_toArray, List.set_cons_zero, List.set_cons_succ])
  first
    | (refine qskip (by rfl) ?_; simp only [Act.put, List.setIfInBounds_toArray, List.set_cons_zero, List.set_cons_succ])
    | (refine qv1 45 (v := ?_) (by rfl) (by rfl) (fun ev hc hf h0 W hW => ?_) ?_; rotate_left; (focus (obtain ⟨e0, e1, e2, e3, e4, e5⟩ := HS.out W hW; first | (go_simp; done) | (go_simp; with_reducible rfl))); rotate_left; simp only [Act.put, List.setIfInBounds_toArray, List.set_cons_zero, List.set_cons_succ])
  first
    | (refine qskip (by rfl) ?_; simp only [Act.put, List.setIfInBounds_toArray, List.set_cons_zero, List.set_cons_succ])
    | (refine qv2 42 46 (v := ?_) (by rfl) (by rfl) (by rfl) (fun ev hc hf h0 h1 W hW => ?_) ?_; rotate_left; (focus (obtain ⟨e0, e1, e2, e3, e4, e5⟩ := HS.out W hW; first | (go_simp; done) | (go_simp; with_reducible rfl))); rotate_left; simp only [Act.put, List.setIfInBounds_toArray, List.set_cons_zero, List.set_cons_succ])
  (refine qv2 41 47 (v := ?_) (by rfl) (by rfl) (by rfl) (fun ev hc hf h0 h1 W hW => ?_) ?_; rotate_left; (focus (obtain ⟨e0, e1, e2, e3, e4, e5⟩ := HS.out W hW; first | (go_simp; done) | (go_simp; with_reducible rfl))); rotate_left; simp only [Act.put, List.setIfInBounds_toArray, List.set_cons_zero, List.set_cons_succ])
  (refine qv1 48 (v := ?_) (by rfl) (by rfl) (fun ev hc hf h0 W hW => ?_) ?_; rotate_left; (focus (obtain ⟨e0, e1, e2, e3, e4, e5⟩ := HS.out W hW; first | (go_simp; done) | (go_simp; with_reducible rfl))); rotate_left; simp only [Act.put, List.setIfInBounds_toArray, List.set_cons_zero, List.set_cons_succ])
  first
    | (refine qskip (by rfl) ?_; simp only [Act.put, List.setIfInBounds_toArray, List.set_cons_zero, List.set_cons_succ])
    | (refine qv1 0 (v := ?_) (by rfl) (by rfl) (fun ev hc hf h0 W hW => ?_) ?_; rotate_left; (focus (obtain ⟨e0, e1, e2, e3, e4, e5⟩ := HS.out W hW; first | (go_simp; done) | (go_simp; with_reducible rfl))); rotate_left; simp only [Act.put, List.setIfInBounds_toArray, List.set_cons_zero, List.set_cons_succ])
  first
    | (refine qskip (by rfl) ?_; simp only [Act.put, List.setIfInBounds_toArray, List.set_cons_zero, List.set_cons_succ])
    | (refine qv1 0 (v := ?_) (by rfl) (by rfl) (fun ev hc hf h0 W hW => ?_) ?_; rotate_left; (focus (obtain ⟨e0, e1, e2, e3, e4, e5⟩ := HS.out W hW; first | (go_simp; done) | (go_simp; with_reducible rfl))); rotate_left; simp only [Act.put, List.setIfInBounds_toArray, List.set_cons_zero, List.set_cons_succ])
  first
    | (refine qskip (by rfl) ?_; simp only [Act.put, List.setIfInBounds_toArray, List.set_cons_zero, List.set_cons_succ])
    | (refine qv1 51 (v := ?_) (by rfl) (by rfl) (fun ev hc hf h0 W hW => ?_) ?_; rotate_left; (focus (obtain ⟨e0, e1, e2, e3, e4, e5⟩ := HS.out W hW; first | (go_simp; done) | (go_simp; with_reducible rfl))); rotate_left; simp only [Act.put, List.setIfInBounds_toArray, List.set_cons_zero, List.set_cons_succ])
  first
    | (refine qskip (by rfl) ?_; simp only [Act.put, List.setIfInBounds_toArray, List.set_cons_zero, List.set_cons_succ])
    | (refine qv1 52 (v := ?_) (by rfl) (by rfl) (fun ev hc hf h0 W hW => ?_) ?_; rotate_left; (focus (obtain ⟨e0, e1, e2, e3, e4, e5⟩ := HS.out W hW; first | (go_simp; done) | (go_simp; with_reducible rfl))); rotate_left; simp only [Act.put, List.setIfInBounds_toArray, List.set_cons_zero, List.set_cons_succ])
  first
    | (refine qskip (by rfl) ?_; simp only [Act.put, List.setIfInBounds_toArray, List.set_cons_zero, List.set_cons_succ])
    | (refine qv1 53 (v := ?_) (by rfl) (by rfl) (fun ev hc hf h0 W hW => ?_) ?_; rotate_left; (focus (obtain ⟨e0, e1, e2, e3, e4, e5⟩ := HS.out W hW; first | (go_simp; done) | (go_simp; with_reducible rfl))); rotate_left; simp only [Act.put, List.setIfInBounds_toArray, List.set_cons_zero, List.set_cons_succ])
  first
    | (refine qskip (by rfl) ?_; simp only [Act.put, List.setIfInBounds_toArray, List.set_cons_zero, List.set_cons_succ])
    | (refine qv1 54 (v := ?_) (by rfl) (by rfl) (fun ev hc hf h0 W hW => ?_) ?_; rotate_left; (focus (obtain ⟨e0, e1, e2, e3, e4, e5⟩ := HS.out W hW; first | (go_simp; done) | (go_simp; with_reducible rfl))); rotate_left; simp only [Act.put, List.setIfInBounds_toArray, List.set_cons_zero, List.set_cons_succ])
  first
    | (refine qskip (by rfl) ?_; simp only [Act.put, List.setIfInBounds_toArray, List.set_cons_zero, List.set_cons_succ])
    | (refine qc2 50 55 _ _ _ (by rfl) (by rfl) (by rfl) (fun ev hc hf h0 h1 W hW => ?_) (fun W hW => q_calls hW (KE.out W hW)) ?_; (focus (obtain ⟨e0, e1, e2, e3, e4, e5⟩ := HS.out W hW; go_simp; done)); simp only [Act.put, List.setIfInBounds_toArray, List.set_cons_zero, List.set_cons_succ])
  (refine qv2 49 56 (v := ?_) (by rfl) (by rfl) (by rfl) (fun ev hc hf h0 h1 W hW => ?_) ?_; rotate_left; (focus (obtain ⟨e0, e1, e2, e3, e4, e5⟩ := HS.out W hW; first | (go_simp; done) | (go_simp; with_reducible rfl))); rotate_left; simp only [Act.put, List.setIfInBounds_toArray, List.set_cons_zero, List.set_cons_succ])
  refine qnil ?_
  intro w4 hW4
  have X4 := Lib.hid (X3.out.keep hW4)
  have k24 := Lib.hid (k23.out.bel hW4)
  have HB4 := Lib.hid (HB3.out.trans (hW4.mono HB3.out.size))
  clear HS KE X3 k13 k23 HB3 hW4 hq
  obtain ⟨d0, d1, d2, d3, d4, d5, d6, dz⟩ := X4.out.cells
  obtain ⟨y0, y1, y2, y3⟩ : w4.cell? ⟨W.heap.size + 1, 0, none⟩ = some (.bool v.has) ∧ w4.cell? ⟨W.heap.size + 1, 1, none⟩ = some (.int .u64 v.r) ∧ w4.cell? ⟨W.heap.size + 1, 2, none⟩ = some (.int .i64 v.n) ∧ w4.cell? ⟨W.heap.size + 1, 3, none⟩ = some (.string v.val) := ⟨k24.out.cell 0, k24.out.cell 1, k24.out.cell 2, k24.out.cell 3⟩
  obtain ⟨wm, hput, hpr, hg⟩ := (show MapIs Vt.v w4.drew pm P.nn P.prom P.order.length from X4.out.pr.kept rfl).put Try.underlying127 Vt.inj hnn hwf v
  unfold Vt.v at hput
  rw [hc] at hpr
  simp only [Option.isSome_none, Bool.false_eq_true, if_false] at hpr
  go_upto_region 11 with fail
  go_region
  have hgp := X4.out.gp
  have hga := X4.out.ga
  have hpa := X4.out.pa
  obtain ⟨es, cl, hmb⟩ := X4.out.pr.isMapBlock
  obtain ⟨es2, cl2, hmb2⟩ := X4.out.ac.isMapBlock
  have hprow := row_not_map hmb X4.out.row
  have harow := row_not_map hmb2 X4.out.row
  have hgrow := bk_not_row X4.out.bk (by decide) X4.out.row
  have Bm := X4.out.bk.drew.grown hg (by simpa using hgp)
  have rowm := own_kept (show w4.drew.ownsRow _ _ _ _ _ _ from X4.out.row) hg (fun j hj e => hprow (by rw [← e, hj]))
  have acm := X4.out.ac.kept (hg.block am X4.out.ac.lt (by simp; exact fun e => hpa e.symm))
  have KP := Lib.hid ((show Kept (Foot g pm am s) W w4.drew from (Kept.of_below (Below.drew HB4.out))).grownF hg (fun k e => by cases e; exact .inl (.inr (.inl rfl))))
  have hrun := hpr.lt
  have hole := X4.out.ole
  clear hput hg hmb hmb2 d0 d1 d2 d3 d4 d5 d6 dz y0 y1 y2 y3 HB4 k24
  obtain ⟨d0, d1, d2, d3, d4, d5, d6, dz⟩ : wm.cell? ⟨g, 0, none⟩ = some (.int .u64 P.r) ∧ wm.cell? ⟨g, 1, none⟩ = some (.int .i64 P.n) ∧ wm.cell? ⟨g, 2, none⟩ = some (.int .i64 P.N) ∧ wm.cell? ⟨g, 3, none⟩ = some (.string P.own) ∧ wm.cell? ⟨g, 4, none⟩ = some (.map (some pm)) ∧
    wm.cell? ⟨g, 5, none⟩ = some s ∧ wm.cell? ⟨g, 6, none⟩ = some (.map (some am)) ∧ g < wm.heap.size := ⟨Bm.cell 0, Bm.cell 1, Bm.cell 2, Bm.cell 3, Bm.cell 4, Bm.cell 5, Bm.cell 6, Bm.lt⟩
  go_upto_region 12 with fail
  go_wp2_with (at_builtin; refine wp_app_foot rfl _ _ rfl (v := s) rfl (rowm.alloc _) (by omega) ⟨wm.heap.size, 0, none⟩ 1 (.int .i64 x) rfl (cell_one_new _ _ _) rfl ?_; intro s2 w6 hown hgr hft; obtain ⟨bk2, cp2, rfl⟩ := ownsRow_succ hown; have G6 := (Bm.alloc (.cells #[.int .i64 x] 3)).grown hgr hgrow; have e2 := G6.cell 2; have e4 := G6.cell 4; have e5 := G6.cell 5; have f5 := G6.free 5; simp at e2 e4 e5; have hlen := fun ty => (hpr.kept ((far_block (p := ⟨g, 5, none⟩) (fun e => hgp e.symm) (.slice (some ⟨bk2, 0, none⟩) (P.order.length + 1) cp2)).trans ((hgr.block pm (by simp; omega) hprow).trans (Below.heap_alloc wm (.cells #[.int .i64 x] 3) pm hrun)))).len Try.underlying127 ty)
  have G7 := G6.set 5 (.slice (some ⟨bk2, 0, none⟩) (P.order.length + 1) cp2)
  refine (enough_any g P.N _ _ X4.out.pos X4.out.few (G7.cell 2)).mono ?_
  rintro e w7 ⟨rfl, rfl⟩
  clear e2 e4 e5 f5 hlen
  go_wp2_with fail
  refine bodyPost_ret (v := .tuple #[.bool (enB P.N (P.order.length + 1 : Nat)), .int .i64 0]) (by simp [results, Try.results48, go_sem]) rfl ⟨rfl, .slice (some ⟨bk2, 0, none⟩) (P.order.length + 1) cp2, ?_, ?_, ?_⟩
  · have hs6 := grownBy_setCell' w6 g (.slice (some ⟨bk2, 0, none⟩) (P.order.length + 1) cp2)
    have hs5 : w6.grownBy (w6.setCell ⟨g, 5, none⟩ (.slice (some ⟨bk2, 0, none⟩) (P.order.length + 1) cp2)) (some g) := ⟨rfl, rfl, rfl, by simp [World.setCell], fun k _ hk => far_block (fun e => hk (by rw [e])) _⟩
    have hgb2 : some g ≠ some bk2 := bk_not_row G6 (by decide) hown
    have hx' : ¬ x ∈ P.order := fun e => by rw [X4.out.ord x, hc] at e; cases e
    refine ⟨by simpa using G7, ?_, ?_, ?_, hgp, hga, hpa, X4.out.pos, X4.out.few, ?_, ?_, ?_, X4.out.akeys, X4.out.aor, X4.out.and, ?_, ?_, Nat.le_succ_of_le X4.out.ale⟩
    · have := own_kept hown hs5 (fun j hj e => hgb2 (by rw [← e, ← hj]; rfl))
      simpa using this
    · have := hpr.kept (w' := w6.setCell ⟨g, 5, none⟩ (.slice (some ⟨bk2, 0, none⟩) (P.order.length + 1) cp2)) ((far_block (fun e => hgp e.symm) _).trans ((hgr.block pm (by simp; omega) hprow).trans (Below.heap_alloc wm _ pm hrun)))
      simpa using this
    · exact (acm.kept (w' := w6.setCell ⟨g, 5, none⟩ (.slice (some ⟨bk2, 0, none⟩) (P.order.length + 1) cp2)) ((far_block (fun e => hga e.symm) _).trans ((hgr.block am (by have := acm.lt; simp; omega) harow).trans (Below.heap_alloc wm _ am acm.lt)))).mono (Nat.le_succ _)
    · intro y hy
      rcases List.mem_append.1 hy with hy | hy
      · exact X4.out.keys y hy
      · simp at hy; subst hy; exact ⟨hx0, hx1⟩
    · intro y
      dsimp only
      rw [List.mem_append, X4.out.ord y]
      by_cases e : y = x
      · subst e; simp
      · simp [e]
    · dsimp only
      rw [List.nodup_append]
      refine ⟨X4.out.nd, by simp, fun a ha b hb => ?_⟩
      simp at hb
      subst hb
      rintro rfl
      exact hx' ha
    · intro y c hy
      have := X4.out.cnt y c hy
      dsimp only
      omega
    · dsimp only
      have := X4.out.ole
      simp
      omega
  · intro j hj
    rcases hft j hj with h1 | h1
    · exact .inl h1
    · have := KP.out.size
      simp at h1
      exact .inr (by omega)
  · have K6 := (KP.out.trans (Kept.of_below ((Below.refl wm.heap.size wm).alloc (Nat.le_refl _) (.cells #[.int .i64 x] 3)))).grownF hgr (fun k e => .inl (.inr (.inr (.inr e))))
    exact K6.grownF (row := some g) ⟨rfl, rfl, rfl, by simp [World.setCell], fun k _ hk => far_block (fun e => hk (by rw [e])) _⟩ (fun k e => by cases e; exact .inl (.inl rfl))
end

end Go.Proofs.Ytlgljcfkoakogaa
