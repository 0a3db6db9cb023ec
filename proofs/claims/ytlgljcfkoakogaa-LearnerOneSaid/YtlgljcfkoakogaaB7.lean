import Derived.Test.YtlgljcfkoakogaaB6
import Derived.Test.YtlgljcfkoakogaaA11
import Derived.Deep.DeepCutAuto
namespace Go.Proofs.Ytlgljcfkoakogaa
open Go.RowKit
set_option linter.unusedSimpArgs false
set_option linter.unusedVariables false


def mayVoteB (has : Bool) (vr vn : Int) (val : ByteArray) : Bool :=
  if has = true then namedB vr vn && decide (val.size ≤ 8192) else (vr == 0) && ((vn == 0) && (val.toList == []))

set_option maxHeartbeats 1600000 in
theorem refNamed_any (r n : Int) (w : World) : Calls Try.prog 63 #[.agg #[.int .u64 r, .int .i64 n]] w fun e w' => e = .returned (.bool (namedB r n)) ∧ Below w.heap.size w w' := by
  go_enter Try.func63, Try.ntmps63
  go_wp2_with fail
  refine (refMay_any _ _ _).mono ?_; rintro e w1 ⟨rfl, hb1⟩
  obtain ⟨hc1, hf1⟩ := bcell hb1; (try simp only [World.size_alloc, World.size_setCell] at hc1 hf1)
  have z1_0 : w.heap.size < w1.heap.size := (by have := hb1.size; (try simp at this); omega)
  have HB1 : Below w.heap.size w w1 := ((Below.refl _ _).alloc (Nat.le_refl _) _).trans (hb1.mono (by simp))
  cases hm : mayB r n
  · have hE : namedB r n = false := by simp [namedB, hm]
    have HE := Lib.hid hE
    clear hE
    go_wp2
    go_ret
    exact ⟨by rw [HE.out]; rfl, HB1⟩
  · by_cases hr : r = 0
    · by_cases hn : n = 0
      · have hE : namedB r n = false := by simp [namedB, hr, hn]
        subst hr hn
        have HE := Lib.hid hE
        clear hE
        go_wp2
        go_ret
        exact ⟨by rw [HE.out]; rfl, HB1⟩
      · have hE : namedB r n = true := by simp [namedB, hm, hn]
        have h2 : (n == 0) = false := by simpa using hn
        subst hr
        have HE := Lib.hid hE
        clear hE hn
        go_wp2
        go_ret
        exact ⟨by rw [HE.out]; rfl, HB1⟩
    · have hE : namedB r n = true := by simp [namedB, hm, hr]
      have h2 : (r == 0) = false := by simpa using hr
      have HE := Lib.hid hE
      clear hE hr
      go_wp2
      go_ret
      exact ⟨by rw [HE.out]; rfl, HB1⟩

set_option maxRecDepth 100000 in
set_option maxHeartbeats 3200000 in
theorem mayVote_any (has : Bool) (vr vn : Int) (val : ByteArray) (w : World) (hs : val.size ≤ 9223372036854775807) :
    Calls Try.prog 61 #[.agg #[.bool has, .int .u64 vr, .int .i64 vn, .string val]] w fun e w' => e = .returned (.bool (mayVoteB has vr vn val)) ∧ Below w.heap.size w w' := by
  cases has
  · go_enter Try.func61, Try.ntmps61
    go_wp2_with fail
    all_goals go_ret
    all_goals exact ⟨by simp [mayVoteB, *], (Below.refl _ _).alloc (Nat.le_refl _) _⟩
  · go_enter Try.func61, Try.ntmps61
    go_wp2_with fail
    refine (named_any _ _ _).mono ?_; rintro e w1 ⟨rfl, hb1⟩
    have k1 := (Bk.new w #[.bool true, .int .u64 vr, .int .i64 vn, .string val] 46).bel hb1
    have HB1 : Below w.heap.size w w1 := ((Below.refl _ _).alloc (Nat.le_refl _) _).trans (hb1.mono (by simp))
    have c3 : w1.cell? ⟨w.heap.size, 3, none⟩ = _ := k1.cell 3
    simp at c3
    clear hb1 k1
    cases hn : namedB vr vn
    · have E := Lib.hid (show mayVoteB true vr vn val = false by simp [mayVoteB, hn])
      clear hn
      go_wp2
      go_ret
      exact ⟨by rw [E.out]; rfl, HB1⟩
    · by_cases hl : val.size ≤ 8192
      · have E := Lib.hid (show mayVoteB true vr vn val = true by simp [mayVoteB, hn, hl])
        have hl' : decide ((val.size : Int) ≤ 8192) = true := decide_eq_true (by omega)
        clear hn hl
        go_wp2
        go_ret
        exact ⟨by rw [E.out]; simp [hl'], HB1⟩
      · have E := Lib.hid (show mayVoteB true vr vn val = false by simp [mayVoteB, hn]; omega)
        have hl' : decide ((val.size : Int) ≤ 8192) = false := decide_eq_false (by omega)
        clear hn hl
        go_wp2
        go_ret
        exact ⟨by rw [E.out]; simp [hl'], HB1⟩

set_option maxRecDepth 100000 in
set_option maxHeartbeats 3200000 in
theorem refMayVote_any (has : Bool) (vr vn : Int) (val : ByteArray) (w : World) (hs : val.size ≤ 9223372036854775807) :
    Calls Try.prog 62 #[.agg #[.bool has, .int .u64 vr, .int .i64 vn, .string val]] w fun e w' => e = .returned (.bool (mayVoteB has vr vn val)) ∧ Below w.heap.size w w' := by
  cases has
  · go_enter Try.func62, Try.ntmps62
    go_wp2_with fail
    all_goals go_ret
    all_goals exact ⟨by simp [mayVoteB, *], (Below.refl _ _).alloc (Nat.le_refl _) _⟩
  · go_enter Try.func62, Try.ntmps62
    go_wp2_with fail
    refine (refNamed_any _ _ _).mono ?_; rintro e w1 ⟨rfl, hb1⟩
    have k1 := (Bk.new w #[.bool true, .int .u64 vr, .int .i64 vn, .string val] 46).bel hb1
    have HB1 : Below w.heap.size w w1 := ((Below.refl _ _).alloc (Nat.le_refl _) _).trans (hb1.mono (by simp))
    have c3 : w1.cell? ⟨w.heap.size, 3, none⟩ = _ := k1.cell 3
    simp at c3
    clear hb1 k1
    cases hn : namedB vr vn
    · have E := Lib.hid (show mayVoteB true vr vn val = false by simp [mayVoteB, hn])
      clear hn
      go_wp2
      go_ret
      exact ⟨by rw [E.out]; rfl, HB1⟩
    · by_cases hl : val.size ≤ 8192
      · have E := Lib.hid (show mayVoteB true vr vn val = true by simp [mayVoteB, hn, hl])
        have hl' : decide ((val.size : Int) ≤ 8192) = true := decide_eq_true (by omega)
        clear hn hl
        go_wp2
        go_ret
        exact ⟨by rw [E.out]; simp [hl'], HB1⟩
      · have E := Lib.hid (show mayVoteB true vr vn val = false by simp [mayVoteB, hn]; omega)
        have hl' : decide ((val.size : Int) ≤ 8192) = false := decide_eq_false (by omega)
        clear hn hl
        go_wp2
        go_ret
        exact ⟨by rw [E.out]; simp [hl'], HB1⟩

def mayLoadB (pr pn : Int) (has : Bool) (vr vn : Int) (val : ByteArray) : Bool := mayB pr pn && (mayVoteB has vr vn val && decide (cmpB vr vn pr pn ≤ 0))

set_option maxRecDepth 100000 in
set_option maxHeartbeats 6400000 in
theorem mayLoad_any (pr pn : Int) (has : Bool) (vr vn : Int) (val : ByteArray) (w : World) (hs : val.size ≤ 9223372036854775807) :
    Calls Try.prog 36 #[.agg #[.int .u64 pr, .int .i64 pn], .agg #[.bool has, .int .u64 vr, .int .i64 vn, .string val]] w fun e w' => e = .returned (.bool (mayLoadB pr pn has vr vn val)) ∧ Below w.heap.size w w' := by
  cases h1 : mayB pr pn
  · have E := Lib.hid (show mayLoadB pr pn has vr vn val = false by simp [mayLoadB, h1])
    have K1 := Lib.hid (fun (W : World) => h1 ▸ refMay_any pr pn W)
    clear h1
    go_enter Try.func36, Try.ntmps36
    go_upto_region 1 with fail
    generalize hw0 : (w.alloc (Obj.cells #[Value.int IntKind.u64 pr, Value.int IntKind.i64 pn] 24)).alloc (Obj.cells #[Value.bool has, Value.int IntKind.u64 vr, Value.int IntKind.i64 vn, Value.string val] 46) = w0
    have HS : ∀ W, Bel w0 W → W.cell? ⟨w.heap.size, 0, none⟩ = some (.int .u64 pr) ∧ W.cell? ⟨w.heap.size, 1, none⟩ = some (.int .i64 pn) ∧ W.cell? ⟨w.heap.size + 1, 0, none⟩ = some (.bool has) ∧ W.cell? ⟨w.heap.size + 1, 1, none⟩ = some (.int .u64 vr) ∧ W.cell? ⟨w.heap.size + 1, 2, none⟩ = some (.int .i64 vn) ∧ W.cell? ⟨w.heap.size + 1, 3, none⟩ = some (.string val) := by
      intro W hW
      subst hw0
      exact ⟨hW.cell (by go_simp), hW.cell (by go_simp), hW.cell (by go_simp), hW.cell (by go_simp), hW.cell (by go_simp), hW.cell (by go_simp)⟩
    have HB0 : Below w.heap.size w w0 := by subst hw0; exact ((Below.refl _ _).alloc (Nat.le_refl _) _).alloc (by simp) _
    have z0 : w.heap.size + 1 < w0.heap.size := by subst hw0; simp
    clear hw0
    go_wp2_with (with_reducible refine wpList_bel 5 rfl ?_)
    repeat (first
      | (refine q_skip (by rfl) ?_; simp only [Act.put, List.setIfInBounds_toArray, List.set_cons_zero, List.set_cons_succ])
      | (refine q_val (v := ?_) (by rfl) (fun W hW => ?_) ?_; rotate_left; (focus (obtain ⟨c0, c1, c2, c3, c4, c5⟩ := HS W hW; first | (go_simp; done) | (go_simp; with_reducible rfl))); rotate_left; simp only [Act.put, List.setIfInBounds_toArray, List.set_cons_zero, List.set_cons_succ])
      | (refine q_call _ _ _ (by rfl) (fun W hW => ?_) (fun W hW => q_calls hW (K1.out W)) ?_; (focus (obtain ⟨c0, c1, c2, c3, c4, c5⟩ := HS W hW; go_simp; done)); simp only [Act.put, List.setIfInBounds_toArray, List.set_cons_zero, List.set_cons_succ]))
    refine wpQuiet_nil ?_
    intro w1 hW1
    go_wp2
    go_ret
    exact ⟨by rw [E.out]; rfl, HB0.trans (Below.mono hW1 HB0.size)⟩
  · have K1 := Lib.hid (fun (W : World) => h1 ▸ refMay_any pr pn W)
    cases h2 : mayVoteB has vr vn val
    · have E := Lib.hid (show mayLoadB pr pn has vr vn val = false by simp [mayLoadB, h2])
      have K2 := Lib.hid (fun (W : World) => h2 ▸ refMayVote_any has vr vn val W hs)
      clear h1 h2
      go_enter Try.func36, Try.ntmps36
      go_upto_region 1 with fail
      generalize hw0 : (w.alloc (Obj.cells #[Value.int IntKind.u64 pr, Value.int IntKind.i64 pn] 24)).alloc (Obj.cells #[Value.bool has, Value.int IntKind.u64 vr, Value.int IntKind.i64 vn, Value.string val] 46) = w0
      have HS : ∀ W, Bel w0 W → W.cell? ⟨w.heap.size, 0, none⟩ = some (.int .u64 pr) ∧ W.cell? ⟨w.heap.size, 1, none⟩ = some (.int .i64 pn) ∧ W.cell? ⟨w.heap.size + 1, 0, none⟩ = some (.bool has) ∧ W.cell? ⟨w.heap.size + 1, 1, none⟩ = some (.int .u64 vr) ∧ W.cell? ⟨w.heap.size + 1, 2, none⟩ = some (.int .i64 vn) ∧ W.cell? ⟨w.heap.size + 1, 3, none⟩ = some (.string val) := by
        intro W hW
        subst hw0
        exact ⟨hW.cell (by go_simp), hW.cell (by go_simp), hW.cell (by go_simp), hW.cell (by go_simp), hW.cell (by go_simp), hW.cell (by go_simp)⟩
      have HB0 : Below w.heap.size w w0 := by subst hw0; exact ((Below.refl _ _).alloc (Nat.le_refl _) _).alloc (by simp) _
      have z0 : w.heap.size + 1 < w0.heap.size := by subst hw0; simp
      clear hw0
      go_wp2_with (with_reducible refine wpList_bel 5 rfl ?_)
      repeat (first
        | (refine q_skip (by rfl) ?_; simp only [Act.put, List.setIfInBounds_toArray, List.set_cons_zero, List.set_cons_succ])
        | (refine q_val (v := ?_) (by rfl) (fun W hW => ?_) ?_; rotate_left; (focus (obtain ⟨c0, c1, c2, c3, c4, c5⟩ := HS W hW; first | (go_simp; done) | (go_simp; with_reducible rfl))); rotate_left; simp only [Act.put, List.setIfInBounds_toArray, List.set_cons_zero, List.set_cons_succ])
        | (refine q_call _ _ _ (by rfl) (fun W hW => ?_) (fun W hW => q_calls hW (K1.out W)) ?_; (focus (obtain ⟨c0, c1, c2, c3, c4, c5⟩ := HS W hW; go_simp; done)); simp only [Act.put, List.setIfInBounds_toArray, List.set_cons_zero, List.set_cons_succ])
        | (refine q_call _ _ _ (by rfl) (fun W hW => ?_) (fun W hW => q_calls hW (K2.out W)) ?_; (focus (obtain ⟨c0, c1, c2, c3, c4, c5⟩ := HS W hW; go_simp; done)); simp only [Act.put, List.setIfInBounds_toArray, List.set_cons_zero, List.set_cons_succ]))
      refine wpQuiet_nil ?_
      intro w1 hW1
      go_wp2
      go_ret
      exact ⟨by rw [E.out]; rfl, HB0.trans (Below.mono hW1 HB0.size)⟩
    · have K2 := Lib.hid (fun (W : World) => h2 ▸ refMayVote_any has vr vn val W hs)
      have K3 := Lib.hid (fun (W : World) => above_any vr vn pr pn W)
      have E := Lib.hid (show mayLoadB pr pn has vr vn val = !aboveB vr vn pr pn by
        have := cmpB_above vr vn pr pn
        simp [mayLoadB, h1, h2]
        cases ha : aboveB vr vn pr pn <;> simp [ha] at this <;> simp <;> omega)
      clear h1 h2
      go_enter Try.func36, Try.ntmps36
      go_upto_region 1 with fail
      generalize hw0 : (w.alloc (Obj.cells #[Value.int IntKind.u64 pr, Value.int IntKind.i64 pn] 24)).alloc (Obj.cells #[Value.bool has, Value.int IntKind.u64 vr, Value.int IntKind.i64 vn, Value.string val] 46) = w0
      have HS : ∀ W, Bel w0 W → W.cell? ⟨w.heap.size, 0, none⟩ = some (.int .u64 pr) ∧ W.cell? ⟨w.heap.size, 1, none⟩ = some (.int .i64 pn) ∧ W.cell? ⟨w.heap.size + 1, 0, none⟩ = some (.bool has) ∧ W.cell? ⟨w.heap.size + 1, 1, none⟩ = some (.int .u64 vr) ∧ W.cell? ⟨w.heap.size + 1, 2, none⟩ = some (.int .i64 vn) ∧ W.cell? ⟨w.heap.size + 1, 3, none⟩ = some (.string val) := by
        intro W hW
        subst hw0
        exact ⟨hW.cell (by go_simp), hW.cell (by go_simp), hW.cell (by go_simp), hW.cell (by go_simp), hW.cell (by go_simp), hW.cell (by go_simp)⟩
      have HB0 : Below w.heap.size w w0 := by subst hw0; exact ((Below.refl _ _).alloc (Nat.le_refl _) _).alloc (by simp) _
      have z0 : w.heap.size + 1 < w0.heap.size := by subst hw0; simp
      clear hw0
      go_wp2_with (with_reducible refine wpList_bel 5 rfl ?_)
      repeat (first
        | (refine q_skip (by rfl) ?_; simp only [Act.put, List.setIfInBounds_toArray, List.set_cons_zero, List.set_cons_succ])
        | (refine q_val (v := ?_) (by rfl) (fun W hW => ?_) ?_; rotate_left; (focus (obtain ⟨c0, c1, c2, c3, c4, c5⟩ := HS W hW; first | (go_simp; done) | (go_simp; with_reducible rfl))); rotate_left; simp only [Act.put, List.setIfInBounds_toArray, List.set_cons_zero, List.set_cons_succ])
        | (refine q_call _ _ _ (by rfl) (fun W hW => ?_) (fun W hW => q_calls hW (K1.out W)) ?_; (focus (obtain ⟨c0, c1, c2, c3, c4, c5⟩ := HS W hW; go_simp; done)); simp only [Act.put, List.setIfInBounds_toArray, List.set_cons_zero, List.set_cons_succ])
        | (refine q_call _ _ _ (by rfl) (fun W hW => ?_) (fun W hW => q_calls hW (K2.out W)) ?_; (focus (obtain ⟨c0, c1, c2, c3, c4, c5⟩ := HS W hW; go_simp; done)); simp only [Act.put, List.setIfInBounds_toArray, List.set_cons_zero, List.set_cons_succ])
        | (refine q_call _ _ _ (by rfl) (fun W hW => ?_) (fun W hW => q_calls hW (K3.out W)) ?_; (focus (obtain ⟨c0, c1, c2, c3, c4, c5⟩ := HS W hW; go_simp; done)); simp only [Act.put, List.setIfInBounds_toArray, List.set_cons_zero, List.set_cons_succ]))
      refine wpQuiet_nil ?_
      intro w1 hW1
      go_wp2
      go_ret
      exact ⟨by rw [E.out]; rfl, HB0.trans (Below.mono hW1 HB0.size)⟩

/-- What Load answers: nil and an error; or an acceptor of its own. -/
def LoadPost (pr pn : Int) (has : Bool) (vr vn : Int) (val : ByteArray) (w : World) (e : Ending) (w' : World) : Prop :=
  (mayLoadB pr pn has vr vn val = false ∧ e = .returned (.tuple #[.pointer none, .int .i64 2]) ∧ Below w.heap.size w w') ∨
  (mayLoadB pr pn has vr vn val = true ∧ ∃ g, w.heap.size ≤ g ∧ e = .returned (.tuple #[.pointer (some ⟨g, 0, none⟩), .int .i64 0]) ∧ Bk w' g (Acc.mk pr pn has vr vn val).cells 116 ∧ Below w.heap.size w w')

set_option maxRecDepth 100000 in
set_option maxHeartbeats 6400000 in
theorem load_any (pr pn : Int) (has : Bool) (vr vn : Int) (val : ByteArray) (w : World) (hs : val.size ≤ 9223372036854775807) :
    Calls Try.prog 35 #[.agg #[.int .u64 pr, .int .i64 pn], .agg #[.bool has, .int .u64 vr, .int .i64 vn, .string val]] w (LoadPost pr pn has vr vn val w) := by
  cases h1 : mayB pr pn
  · have E := Lib.hid (show mayLoadB pr pn has vr vn val = false by simp [mayLoadB, h1])
    have K1 := Lib.hid (fun (W : World) => h1 ▸ may_any pr pn W)
    clear h1
    go_enter Try.func35, Try.ntmps35
    go_upto_region 1 with fail
    generalize hw0 : (w.alloc (Obj.cells #[Value.int IntKind.u64 pr, Value.int IntKind.i64 pn] 24)).alloc (Obj.cells #[Value.bool has, Value.int IntKind.u64 vr, Value.int IntKind.i64 vn, Value.string val] 46) = w0
    have HS : ∀ W, Bel w0 W → W.cell? ⟨w.heap.size, 0, none⟩ = some (.int .u64 pr) ∧ W.cell? ⟨w.heap.size, 1, none⟩ = some (.int .i64 pn) ∧ W.cell? ⟨w.heap.size + 1, 0, none⟩ = some (.bool has) ∧ W.cell? ⟨w.heap.size + 1, 1, none⟩ = some (.int .u64 vr) ∧ W.cell? ⟨w.heap.size + 1, 2, none⟩ = some (.int .i64 vn) ∧ W.cell? ⟨w.heap.size + 1, 3, none⟩ = some (.string val) := by
      intro W hW
      subst hw0
      exact ⟨hW.cell (by go_simp), hW.cell (by go_simp), hW.cell (by go_simp), hW.cell (by go_simp), hW.cell (by go_simp), hW.cell (by go_simp)⟩
    have HB0 : Below w.heap.size w w0 := by subst hw0; exact ((Below.refl _ _).alloc (Nat.le_refl _) _).alloc (by simp) _
    have z0 : w.heap.size + 1 < w0.heap.size := by subst hw0; simp
    clear hw0
    go_wp2_with (with_reducible refine wpList_bel 6 rfl ?_)
    repeat (first
      | (refine q_skip (by rfl) ?_; simp only [Act.put, List.setIfInBounds_toArray, List.set_cons_zero, List.set_cons_succ])
      | (refine q_val (v := ?_) (by rfl) (fun W hW => ?_) ?_; rotate_left; (focus (obtain ⟨c0, c1, c2, c3, c4, c5⟩ := HS W hW; first | (go_simp; done) | (go_simp; with_reducible rfl))); rotate_left; simp only [Act.put, List.setIfInBounds_toArray, List.set_cons_zero, List.set_cons_succ])
      | (refine q_call _ _ _ (by rfl) (fun W hW => ?_) (fun W hW => q_calls hW (K1.out W)) ?_; (focus (obtain ⟨c0, c1, c2, c3, c4, c5⟩ := HS W hW; go_simp; done)); simp only [Act.put, List.setIfInBounds_toArray, List.set_cons_zero, List.set_cons_succ]))
    refine wpQuiet_nil ?_
    intro w1 hW1
    go_wp2
    go_ret2
    exact .inl ⟨E.out, rfl, HB0.trans (Below.mono hW1 HB0.size)⟩
  · have K1 := Lib.hid (fun (W : World) => h1 ▸ may_any pr pn W)
    cases h2 : mayVoteB has vr vn val
    · have E := Lib.hid (show mayLoadB pr pn has vr vn val = false by simp [mayLoadB, h2])
      have K2 := Lib.hid (fun (W : World) => h2 ▸ mayVote_any has vr vn val W hs)
      clear h1 h2
      go_enter Try.func35, Try.ntmps35
      go_upto_region 1 with fail
      generalize hw0 : (w.alloc (Obj.cells #[Value.int IntKind.u64 pr, Value.int IntKind.i64 pn] 24)).alloc (Obj.cells #[Value.bool has, Value.int IntKind.u64 vr, Value.int IntKind.i64 vn, Value.string val] 46) = w0
      have HS : ∀ W, Bel w0 W → W.cell? ⟨w.heap.size, 0, none⟩ = some (.int .u64 pr) ∧ W.cell? ⟨w.heap.size, 1, none⟩ = some (.int .i64 pn) ∧ W.cell? ⟨w.heap.size + 1, 0, none⟩ = some (.bool has) ∧ W.cell? ⟨w.heap.size + 1, 1, none⟩ = some (.int .u64 vr) ∧ W.cell? ⟨w.heap.size + 1, 2, none⟩ = some (.int .i64 vn) ∧ W.cell? ⟨w.heap.size + 1, 3, none⟩ = some (.string val) := by
        intro W hW
        subst hw0
        exact ⟨hW.cell (by go_simp), hW.cell (by go_simp), hW.cell (by go_simp), hW.cell (by go_simp), hW.cell (by go_simp), hW.cell (by go_simp)⟩
      have HB0 : Below w.heap.size w w0 := by subst hw0; exact ((Below.refl _ _).alloc (Nat.le_refl _) _).alloc (by simp) _
      have z0 : w.heap.size + 1 < w0.heap.size := by subst hw0; simp
      clear hw0
      go_wp2_with (with_reducible refine wpList_bel 6 rfl ?_)
      repeat (first
        | (refine q_skip (by rfl) ?_; simp only [Act.put, List.setIfInBounds_toArray, List.set_cons_zero, List.set_cons_succ])
        | (refine q_val (v := ?_) (by rfl) (fun W hW => ?_) ?_; rotate_left; (focus (obtain ⟨c0, c1, c2, c3, c4, c5⟩ := HS W hW; first | (go_simp; done) | (go_simp; with_reducible rfl))); rotate_left; simp only [Act.put, List.setIfInBounds_toArray, List.set_cons_zero, List.set_cons_succ])
        | (refine q_call _ _ _ (by rfl) (fun W hW => ?_) (fun W hW => q_calls hW (K1.out W)) ?_; (focus (obtain ⟨c0, c1, c2, c3, c4, c5⟩ := HS W hW; go_simp; done)); simp only [Act.put, List.setIfInBounds_toArray, List.set_cons_zero, List.set_cons_succ])
        | (refine q_call _ _ _ (by rfl) (fun W hW => ?_) (fun W hW => q_calls hW (K2.out W)) ?_; (focus (obtain ⟨c0, c1, c2, c3, c4, c5⟩ := HS W hW; go_simp; done)); simp only [Act.put, List.setIfInBounds_toArray, List.set_cons_zero, List.set_cons_succ]))
      refine wpQuiet_nil ?_
      intro w1 hW1
      go_wp2
      go_ret2
      exact .inl ⟨E.out, rfl, HB0.trans (Below.mono hW1 HB0.size)⟩
    · have K2 := Lib.hid (fun (W : World) => h2 ▸ mayVote_any has vr vn val W hs)
      have K3 := Lib.hid (fun (W : World) => cmp_any vr vn pr pn W)
      by_cases h3 : cmpB vr vn pr pn ≤ 0
      · have E := Lib.hid (show mayLoadB pr pn has vr vn val = true by simp [mayLoadB, h1, h2, h3])
        have d3 : decide (0 < cmpB vr vn pr pn) = false := decide_eq_false (by omega)
        clear h1 h2 h3
        go_enter Try.func35, Try.ntmps35
        go_upto_region 1 with fail
        generalize hw0 : (w.alloc (Obj.cells #[Value.int IntKind.u64 pr, Value.int IntKind.i64 pn] 24)).alloc (Obj.cells #[Value.bool has, Value.int IntKind.u64 vr, Value.int IntKind.i64 vn, Value.string val] 46) = w0
        have HS : ∀ W, Bel w0 W → W.cell? ⟨w.heap.size, 0, none⟩ = some (.int .u64 pr) ∧ W.cell? ⟨w.heap.size, 1, none⟩ = some (.int .i64 pn) ∧ W.cell? ⟨w.heap.size + 1, 0, none⟩ = some (.bool has) ∧ W.cell? ⟨w.heap.size + 1, 1, none⟩ = some (.int .u64 vr) ∧ W.cell? ⟨w.heap.size + 1, 2, none⟩ = some (.int .i64 vn) ∧ W.cell? ⟨w.heap.size + 1, 3, none⟩ = some (.string val) := by
          intro W hW
          subst hw0
          exact ⟨hW.cell (by go_simp), hW.cell (by go_simp), hW.cell (by go_simp), hW.cell (by go_simp), hW.cell (by go_simp), hW.cell (by go_simp)⟩
        have HB0 : Below w.heap.size w w0 := by subst hw0; exact ((Below.refl _ _).alloc (Nat.le_refl _) _).alloc (by simp) _
        have z0 : w.heap.size + 1 < w0.heap.size := by subst hw0; simp
        clear hw0
        go_wp2_with (with_reducible refine wpList_bel 6 rfl ?_)
        repeat (first
          | (refine q_skip (by rfl) ?_; simp only [Act.put, List.setIfInBounds_toArray, List.set_cons_zero, List.set_cons_succ])
          | (refine q_val (v := ?_) (by rfl) (fun W hW => ?_) ?_; rotate_left; (focus (obtain ⟨c0, c1, c2, c3, c4, c5⟩ := HS W hW; first | (go_simp; done) | (go_simp; with_reducible rfl))); rotate_left; simp only [Act.put, List.setIfInBounds_toArray, List.set_cons_zero, List.set_cons_succ])
          | (refine q_call _ _ _ (by rfl) (fun W hW => ?_) (fun W hW => q_calls hW (K1.out W)) ?_; (focus (obtain ⟨c0, c1, c2, c3, c4, c5⟩ := HS W hW; go_simp; done)); simp only [Act.put, List.setIfInBounds_toArray, List.set_cons_zero, List.set_cons_succ])
          | (refine q_call _ _ _ (by rfl) (fun W hW => ?_) (fun W hW => q_calls hW (K2.out W)) ?_; (focus (obtain ⟨c0, c1, c2, c3, c4, c5⟩ := HS W hW; go_simp; done)); simp only [Act.put, List.setIfInBounds_toArray, List.set_cons_zero, List.set_cons_succ])
          | (refine q_call _ _ _ (by rfl) (fun W hW => ?_) (fun W hW => q_calls hW (K3.out W)) ?_; (focus (obtain ⟨c0, c1, c2, c3, c4, c5⟩ := HS W hW; go_simp; done)); simp only [Act.put, List.setIfInBounds_toArray, List.set_cons_zero, List.set_cons_succ]))
        refine wpQuiet_nil ?_
        intro w1 hW1
        obtain ⟨c0, c1, c2, c3, c4, c5⟩ := HS w1 hW1
        have HB1 := HB0.trans (Below.mono hW1 HB0.size)
        have hg := HB1.size
        clear HS HB0 hW1 z0
        go_wp2
        go_ret2
        exact .inr ⟨E.out, w1.heap.size, hg, rfl, Bk.new _ _ _, HB1.alloc HB1.size _⟩
      · have E := Lib.hid (show mayLoadB pr pn has vr vn val = false by simp [mayLoadB, h3])
        have d3 : decide (0 < cmpB vr vn pr pn) = true := decide_eq_true (by omega)
        clear h1 h2 h3
        go_enter Try.func35, Try.ntmps35
        go_upto_region 1 with fail
        generalize hw0 : (w.alloc (Obj.cells #[Value.int IntKind.u64 pr, Value.int IntKind.i64 pn] 24)).alloc (Obj.cells #[Value.bool has, Value.int IntKind.u64 vr, Value.int IntKind.i64 vn, Value.string val] 46) = w0
        have HS : ∀ W, Bel w0 W → W.cell? ⟨w.heap.size, 0, none⟩ = some (.int .u64 pr) ∧ W.cell? ⟨w.heap.size, 1, none⟩ = some (.int .i64 pn) ∧ W.cell? ⟨w.heap.size + 1, 0, none⟩ = some (.bool has) ∧ W.cell? ⟨w.heap.size + 1, 1, none⟩ = some (.int .u64 vr) ∧ W.cell? ⟨w.heap.size + 1, 2, none⟩ = some (.int .i64 vn) ∧ W.cell? ⟨w.heap.size + 1, 3, none⟩ = some (.string val) := by
          intro W hW
          subst hw0
          exact ⟨hW.cell (by go_simp), hW.cell (by go_simp), hW.cell (by go_simp), hW.cell (by go_simp), hW.cell (by go_simp), hW.cell (by go_simp)⟩
        have HB0 : Below w.heap.size w w0 := by subst hw0; exact ((Below.refl _ _).alloc (Nat.le_refl _) _).alloc (by simp) _
        have z0 : w.heap.size + 1 < w0.heap.size := by subst hw0; simp
        clear hw0
        go_wp2_with (with_reducible refine wpList_bel 6 rfl ?_)
        repeat (first
          | (refine q_skip (by rfl) ?_; simp only [Act.put, List.setIfInBounds_toArray, List.set_cons_zero, List.set_cons_succ])
          | (refine q_val (v := ?_) (by rfl) (fun W hW => ?_) ?_; rotate_left; (focus (obtain ⟨c0, c1, c2, c3, c4, c5⟩ := HS W hW; first | (go_simp; done) | (go_simp; with_reducible rfl))); rotate_left; simp only [Act.put, List.setIfInBounds_toArray, List.set_cons_zero, List.set_cons_succ])
          | (refine q_call _ _ _ (by rfl) (fun W hW => ?_) (fun W hW => q_calls hW (K1.out W)) ?_; (focus (obtain ⟨c0, c1, c2, c3, c4, c5⟩ := HS W hW; go_simp; done)); simp only [Act.put, List.setIfInBounds_toArray, List.set_cons_zero, List.set_cons_succ])
          | (refine q_call _ _ _ (by rfl) (fun W hW => ?_) (fun W hW => q_calls hW (K2.out W)) ?_; (focus (obtain ⟨c0, c1, c2, c3, c4, c5⟩ := HS W hW; go_simp; done)); simp only [Act.put, List.setIfInBounds_toArray, List.set_cons_zero, List.set_cons_succ])
          | (refine q_call _ _ _ (by rfl) (fun W hW => ?_) (fun W hW => q_calls hW (K3.out W)) ?_; (focus (obtain ⟨c0, c1, c2, c3, c4, c5⟩ := HS W hW; go_simp; done)); simp only [Act.put, List.setIfInBounds_toArray, List.set_cons_zero, List.set_cons_succ]))
        refine wpQuiet_nil ?_
        intro w1 hW1
        go_wp2
        go_ret2
        exact .inl ⟨E.out, rfl, HB0.trans (Below.mono hW1 HB0.size)⟩

end Go.Proofs.Ytlgljcfkoakogaa
