import Derived.Test.YtlgljcfkoakogaaA10
import Derived.Deep.DeepCutAuto
import Derived.OpenShut
namespace Go.Proofs.Ytlgljcfkoakogaa
open Go.RowKit
set_option linter.unusedSimpArgs false
set_option linter.unusedVariables false


set_option maxRecDepth 100000 in
set_option maxHeartbeats 12800000 in
theorem row_walk (ar an br bn cr cn k : Int) (w : World) (ha : 0 ≤ ar) :
    Calls Try.prog 4 #[.agg #[.int .u64 ar, .int .i64 an], .agg #[.int .u64 br, .int .i64 bn], .agg #[.int .u64 cr, .int .i64 cn], .int .i64 k] w fun e w' => e = .returned (.bool true) ∧ Below w.heap.size w w' := by
  have HA := Lib.hid ha
  clear ha
  have K0 := Lib.hid (fun W => works11_any W)
  go_enter Try.func4, Try.ntmps4
  go_upto_region 1 with fail
  generalize hw0 : (((w.alloc (Obj.cells #[Value.int IntKind.u64 ar, Value.int IntKind.i64 an] 24)).alloc (Obj.cells #[Value.int IntKind.u64 br, Value.int IntKind.i64 bn] 24)).alloc (Obj.cells #[Value.int IntKind.u64 cr, Value.int IntKind.i64 cn] 24)) = w0
  have HS : ∀ W, Bel w0 W → W.cell? ⟨w.heap.size, 0, none⟩ = some (.int .u64 ar) ∧ W.cell? ⟨w.heap.size, 1, none⟩ = some (.int .i64 an) ∧ W.cell? ⟨w.heap.size + 1, 0, none⟩ = some (.int .u64 br) ∧ W.cell? ⟨w.heap.size + 1, 1, none⟩ = some (.int .i64 bn) ∧ W.cell? ⟨w.heap.size + 1 + 1, 0, none⟩ = some (.int .u64 cr) ∧ W.cell? ⟨w.heap.size + 1 + 1, 1, none⟩ = some (.int .i64 cn) := by
    intro W hW
    subst hw0
    exact ⟨hW.cell (by go_simp), hW.cell (by go_simp), hW.cell (by go_simp), hW.cell (by go_simp), hW.cell (by go_simp), hW.cell (by go_simp)⟩
  have HB0 : Below w.heap.size w w0 := by subst hw0; exact (((Below.refl _ _).alloc (Nat.le_refl _) _).alloc (by simp) _).alloc (by simp; omega) _
  have z0 : w.heap.size + 1 + 1 < w0.heap.size := by subst hw0; simp
  clear hw0
  go_cut [28] (fun s wx => s = .bool false ∧ Bel w0 wx)
  case first =>
    by_cases h1 : ar = br
    · by_cases h2 : an = bn
      · subst h1 h2
        have hx0 : cmpB ar an ar an = 0 := by have := cmpB_vals ar an ar an; omega
        have K1 := Lib.hid (fun (W : World) => hx0 ▸ cmp_any ar an ar an W)
        clear hx0
        refine wp_bel (by kernel_rfl) ?_
        repeat (first
          | (refine q_skip (by rfl) ?_; simp only [Act.put, List.setIfInBounds_toArray, List.set_cons_zero, List.set_cons_succ])
          | (refine q_val (v := ?_) (by rfl) (fun W hW => ?_) ?_; rotate_left; (focus (obtain ⟨c0, c1, c2, c3, c4, c5⟩ := HS W hW; first | (go_simp; done) | (go_simp; with_reducible rfl))); rotate_left; simp only [Act.put, List.setIfInBounds_toArray, List.set_cons_zero, List.set_cons_succ])
          | (refine q_call _ _ _ (by rfl) (fun W hW => ?_) (fun W hW => q_calls hW (K1.out W)) ?_; (focus (obtain ⟨c0, c1, c2, c3, c4, c5⟩ := HS W hW; go_simp; done)); simp only [Act.put, List.setIfInBounds_toArray, List.set_cons_zero, List.set_cons_succ])
          | (refine q_call _ _ _ (by rfl) (fun W hW => ?_) (fun W hW => q_calls hW (K2.out W)) ?_; (focus (obtain ⟨c0, c1, c2, c3, c4, c5⟩ := HS W hW; go_simp; done)); simp only [Act.put, List.setIfInBounds_toArray, List.set_cons_zero, List.set_cons_succ]))
        refine wpQuiet_nil ?_
        intro w1 hW1
        go_wp2_with fail
        go_meet
        exact ⟨rfl, hW1⟩

      · subst h1
        have hx := cmpB_vals ar an ar bn
        have hs := cmpB_sym ar an ar bn
        have hw : (cmpB ar an ar bn != IntKind.i64.wrap (-cmpB ar bn ar an)) = false := by
          rw [hs]; rcases hx with ⟨h, _⟩ | ⟨h, _⟩ | ⟨h, _⟩ <;> rw [h] <;> decide
        have he : (an == bn) = false := by simpa using h2
        have h0 : (cmpB ar an ar bn == 0) = false := by simp; omega
        clear hx hs h2
        have K1 := Lib.hid (fun W => cmp_any ar an ar bn W)
        have K2 := Lib.hid (fun W => cmp_any ar bn ar an W)
        refine wp_bel (by kernel_rfl) ?_
        repeat (first
          | (refine q_skip (by rfl) ?_; simp only [Act.put, List.setIfInBounds_toArray, List.set_cons_zero, List.set_cons_succ])
          | (refine q_val (v := ?_) (by rfl) (fun W hW => ?_) ?_; rotate_left; (focus (obtain ⟨c0, c1, c2, c3, c4, c5⟩ := HS W hW; first | (go_simp; done) | (go_simp; with_reducible rfl))); rotate_left; simp only [Act.put, List.setIfInBounds_toArray, List.set_cons_zero, List.set_cons_succ])
          | (refine q_call _ _ _ (by rfl) (fun W hW => ?_) (fun W hW => q_calls hW (K1.out W)) ?_; (focus (obtain ⟨c0, c1, c2, c3, c4, c5⟩ := HS W hW; go_simp; done)); simp only [Act.put, List.setIfInBounds_toArray, List.set_cons_zero, List.set_cons_succ])
          | (refine q_call _ _ _ (by rfl) (fun W hW => ?_) (fun W hW => q_calls hW (K2.out W)) ?_; (focus (obtain ⟨c0, c1, c2, c3, c4, c5⟩ := HS W hW; go_simp; done)); simp only [Act.put, List.setIfInBounds_toArray, List.set_cons_zero, List.set_cons_succ]))
        refine wpQuiet_nil ?_
        intro w1 hW1
        go_wp2_with fail
        go_meet
        exact ⟨rfl, hW1⟩

    · have hx := cmpB_vals ar an br bn
      have hs := cmpB_sym ar an br bn
      have hw : (cmpB ar an br bn != IntKind.i64.wrap (-cmpB br bn ar an)) = false := by
        rw [hs]; rcases hx with ⟨h, _⟩ | ⟨h, _⟩ | ⟨h, _⟩ <;> rw [h] <;> decide
      have he : (ar == br) = false := by simpa using h1
      have h0 : (cmpB ar an br bn == 0) = false := by simp; omega
      clear hx hs h1
      have K1 := Lib.hid (fun W => cmp_any ar an br bn W)
      have K2 := Lib.hid (fun W => cmp_any br bn ar an W)
      refine wp_bel (by kernel_rfl) ?_
      repeat (first
        | (refine q_skip (by rfl) ?_; simp only [Act.put, List.setIfInBounds_toArray, List.set_cons_zero, List.set_cons_succ])
        | (refine q_val (v := ?_) (by rfl) (fun W hW => ?_) ?_; rotate_left; (focus (obtain ⟨c0, c1, c2, c3, c4, c5⟩ := HS W hW; first | (go_simp; done) | (go_simp; with_reducible rfl))); rotate_left; simp only [Act.put, List.setIfInBounds_toArray, List.set_cons_zero, List.set_cons_succ])
        | (refine q_call _ _ _ (by rfl) (fun W hW => ?_) (fun W hW => q_calls hW (K1.out W)) ?_; (focus (obtain ⟨c0, c1, c2, c3, c4, c5⟩ := HS W hW; go_simp; done)); simp only [Act.put, List.setIfInBounds_toArray, List.set_cons_zero, List.set_cons_succ])
        | (refine q_call _ _ _ (by rfl) (fun W hW => ?_) (fun W hW => q_calls hW (K2.out W)) ?_; (focus (obtain ⟨c0, c1, c2, c3, c4, c5⟩ := HS W hW; go_simp; done)); simp only [Act.put, List.setIfInBounds_toArray, List.set_cons_zero, List.set_cons_succ]))
      refine wpQuiet_nil ?_
      intro w1 hW1
      go_wp2_with fail
      go_meet
      exact ⟨rfl, hW1⟩
  case rest =>
    obtain ⟨rfl, hc0⟩ := hcut
    have HS1 : ∀ W, Bel wc W → _ := fun W hW => HS W (Bel.step hc0 hW)
    have HB1 := HB0.trans (Below.mono hc0 HB0.size)
    have z1 : w.heap.size + 1 + 1 < wc.heap.size := Nat.lt_of_lt_of_le z0 (Below.size hc0)
    clear HS HB0 z0 hc0
    generalize wc = w1 at *
    go_upto_region 3 with fail
    go_cut [44] (fun s wx => s = .bool false ∧ Bel w1 wx)
    case first =>
      have K1 := Lib.hid (fun (W : World) => cmp_any ar an br bn W)
      have K2 := Lib.hid (fun (W : World) => cmp_any br bn cr cn W)
      have K3 := Lib.hid (fun (W : World) => cmp_any ar an cr cn W)
      have HT := Lib.hid (cmpB_trans ar an br bn cr cn)
      by_cases h1 : cmpB ar an br bn ≤ 0
      · by_cases h2 : cmpB br bn cr cn ≤ 0
        · have h3 := HT.out h1 h2
          have d1 : decide (cmpB ar an br bn ≤ 0) = true := decide_eq_true h1
          have d2 : decide (cmpB br bn cr cn ≤ 0) = true := decide_eq_true h2
          have d3 : decide (0 < cmpB ar an cr cn) = false := decide_eq_false (by omega)
          clear h1 h2 h3
          go_wp2_with (with_reducible refine wpList_bel 29 rfl ?_)
          repeat (first
            | (refine q_skip (by rfl) ?_; simp only [Act.put, List.setIfInBounds_toArray, List.set_cons_zero, List.set_cons_succ])
            | (refine q_val (v := ?_) (by rfl) (fun W hW => ?_) ?_; rotate_left; (focus (obtain ⟨c0, c1, c2, c3, c4, c5⟩ := HS1 W hW; first | (go_simp; done) | (go_simp; with_reducible rfl))); rotate_left; simp only [Act.put, List.setIfInBounds_toArray, List.set_cons_zero, List.set_cons_succ])
            | (refine q_call _ _ _ (by rfl) (fun W hW => ?_) (fun W hW => q_calls hW (K1.out W)) ?_; (focus (obtain ⟨c0, c1, c2, c3, c4, c5⟩ := HS1 W hW; go_simp; done)); simp only [Act.put, List.setIfInBounds_toArray, List.set_cons_zero, List.set_cons_succ])
            | (refine q_call _ _ _ (by rfl) (fun W hW => ?_) (fun W hW => q_calls hW (K2.out W)) ?_; (focus (obtain ⟨c0, c1, c2, c3, c4, c5⟩ := HS1 W hW; go_simp; done)); simp only [Act.put, List.setIfInBounds_toArray, List.set_cons_zero, List.set_cons_succ])
            | (refine q_call _ _ _ (by rfl) (fun W hW => ?_) (fun W hW => q_calls hW (K3.out W)) ?_; (focus (obtain ⟨c0, c1, c2, c3, c4, c5⟩ := HS1 W hW; go_simp; done)); simp only [Act.put, List.setIfInBounds_toArray, List.set_cons_zero, List.set_cons_succ]))
          refine wpQuiet_nil ?_
          intro w2 hW2
          go_wp2_with fail
          go_meet
          exact ⟨rfl, hW2⟩

        · have d1 : decide (cmpB ar an br bn ≤ 0) = true := decide_eq_true h1
          have d2 : decide (cmpB br bn cr cn ≤ 0) = false := decide_eq_false h2
          clear h1 h2
          go_wp2_with (with_reducible refine wpList_bel 29 rfl ?_)
          repeat (first
            | (refine q_skip (by rfl) ?_; simp only [Act.put, List.setIfInBounds_toArray, List.set_cons_zero, List.set_cons_succ])
            | (refine q_val (v := ?_) (by rfl) (fun W hW => ?_) ?_; rotate_left; (focus (obtain ⟨c0, c1, c2, c3, c4, c5⟩ := HS1 W hW; first | (go_simp; done) | (go_simp; with_reducible rfl))); rotate_left; simp only [Act.put, List.setIfInBounds_toArray, List.set_cons_zero, List.set_cons_succ])
            | (refine q_call _ _ _ (by rfl) (fun W hW => ?_) (fun W hW => q_calls hW (K1.out W)) ?_; (focus (obtain ⟨c0, c1, c2, c3, c4, c5⟩ := HS1 W hW; go_simp; done)); simp only [Act.put, List.setIfInBounds_toArray, List.set_cons_zero, List.set_cons_succ])
            | (refine q_call _ _ _ (by rfl) (fun W hW => ?_) (fun W hW => q_calls hW (K2.out W)) ?_; (focus (obtain ⟨c0, c1, c2, c3, c4, c5⟩ := HS1 W hW; go_simp; done)); simp only [Act.put, List.setIfInBounds_toArray, List.set_cons_zero, List.set_cons_succ])
            | (refine q_call _ _ _ (by rfl) (fun W hW => ?_) (fun W hW => q_calls hW (K3.out W)) ?_; (focus (obtain ⟨c0, c1, c2, c3, c4, c5⟩ := HS1 W hW; go_simp; done)); simp only [Act.put, List.setIfInBounds_toArray, List.set_cons_zero, List.set_cons_succ]))
          refine wpQuiet_nil ?_
          intro w2 hW2
          go_wp2_with fail
          go_meet
          exact ⟨rfl, hW2⟩

      · have d1 : decide (cmpB ar an br bn ≤ 0) = false := decide_eq_false h1
        clear h1
        go_wp2_with (with_reducible refine wpList_bel 29 rfl ?_)
        repeat (first
          | (refine q_skip (by rfl) ?_; simp only [Act.put, List.setIfInBounds_toArray, List.set_cons_zero, List.set_cons_succ])
          | (refine q_val (v := ?_) (by rfl) (fun W hW => ?_) ?_; rotate_left; (focus (obtain ⟨c0, c1, c2, c3, c4, c5⟩ := HS1 W hW; first | (go_simp; done) | (go_simp; with_reducible rfl))); rotate_left; simp only [Act.put, List.setIfInBounds_toArray, List.set_cons_zero, List.set_cons_succ])
          | (refine q_call _ _ _ (by rfl) (fun W hW => ?_) (fun W hW => q_calls hW (K1.out W)) ?_; (focus (obtain ⟨c0, c1, c2, c3, c4, c5⟩ := HS1 W hW; go_simp; done)); simp only [Act.put, List.setIfInBounds_toArray, List.set_cons_zero, List.set_cons_succ])
          | (refine q_call _ _ _ (by rfl) (fun W hW => ?_) (fun W hW => q_calls hW (K2.out W)) ?_; (focus (obtain ⟨c0, c1, c2, c3, c4, c5⟩ := HS1 W hW; go_simp; done)); simp only [Act.put, List.setIfInBounds_toArray, List.set_cons_zero, List.set_cons_succ])
          | (refine q_call _ _ _ (by rfl) (fun W hW => ?_) (fun W hW => q_calls hW (K3.out W)) ?_; (focus (obtain ⟨c0, c1, c2, c3, c4, c5⟩ := HS1 W hW; go_simp; done)); simp only [Act.put, List.setIfInBounds_toArray, List.set_cons_zero, List.set_cons_succ]))
        refine wpQuiet_nil ?_
        intro w2 hW2
        go_wp2_with fail
        go_meet
        exact ⟨rfl, hW2⟩

    case rest =>
      obtain ⟨rfl, hc0⟩ := hcut
      have HS2 : ∀ W, Bel wc W → _ := fun W hW => HS1 W (Bel.step hc0 hW)
      have HB2 := HB1.trans (Below.mono hc0 HB1.size)
      have z2 : w.heap.size + 1 + 1 < wc.heap.size := Nat.lt_of_lt_of_le z1 (Below.size hc0)
      clear HS1 HB1 z1 hc0
      generalize wc = w2 at *
      obtain ⟨c0, c1, c2, c3, c4, c5⟩ := HS2 w2 (Bel.refl w2)
      go_wp2_with fail
      refine (next_any _ _ _ _ HA.out).mono ?_
      rintro e w3 ⟨rfl, hb3⟩
      obtain ⟨d0, d1, d2, d3, d4, d5⟩ := HS2 w3 hb3
      have HB3 := HB2.trans (hb3.mono HB2.size)
      have z3 : w.heap.size + 1 + 1 < w3.heap.size := Nat.lt_of_lt_of_le z2 hb3.size
      have y0 : w.heap.size < w3.heap.size := by omega
      have y1 : w.heap.size + 1 < w3.heap.size := by omega
      clear c0 c1 c2 c3 c4 c5 HB2 z2 HS2 hb3
      rcases nx_cases ar an k HA.out with h | h | ⟨x, h, hx1, hx2, hx3, hx4, hx5⟩
      · rw [h]
        clear h
        go_wp2_with (go_at_call 17; refine (works11_any _).mono ?_; rintro e w' ⟨rfl, hbw⟩)
        go_ret
        exact ⟨rfl, (HB3.alloc HB3.size _).trans (hbw.mono (by have := HB3.size; simp; omega))⟩
      · rw [h]
        clear h
        go_wp2_with (go_at_call 17; refine (works11_any _).mono ?_; rintro e w' ⟨rfl, hbw⟩)
        go_ret
        exact ⟨rfl, (HB3.alloc HB3.size _).trans (hbw.mono (by have := HB3.size; simp; omega))⟩
      · rw [h]
        clear h
        have HX := Lib.hid (And.intro hx1 (And.intro hx2 (And.intro hx3 (And.intro hx4 hx5))))
        clear hx1 hx2 hx3 hx4 hx5
        go_upto_region 8 with fail
        generalize hw4 : w3.alloc (Obj.cells #[Value.int IntKind.u64 x, Value.int IntKind.i64 k] 24) = w4
        have HS4 : ∀ W, Bel w4 W → W.cell? ⟨w.heap.size, 0, none⟩ = some (.int .u64 ar) ∧ W.cell? ⟨w.heap.size, 1, none⟩ = some (.int .i64 an) ∧ W.cell? ⟨w.heap.size + 1, 0, none⟩ = some (.int .u64 br) ∧ W.cell? ⟨w.heap.size + 1, 1, none⟩ = some (.int .i64 bn) ∧ W.cell? ⟨w.heap.size + 1 + 1, 0, none⟩ = some (.int .u64 cr) ∧ W.cell? ⟨w.heap.size + 1 + 1, 1, none⟩ = some (.int .i64 cn) ∧ W.cell? ⟨w3.heap.size, 0, none⟩ = some (.int .u64 x) ∧ W.cell? ⟨w3.heap.size, 1, none⟩ = some (.int .i64 k) := by
          intro W hW
          subst hw4
          exact ⟨hW.cell (by go_simp), hW.cell (by go_simp), hW.cell (by go_simp), hW.cell (by go_simp), hW.cell (by go_simp), hW.cell (by go_simp), hW.cell (by go_simp), hW.cell (by go_simp)⟩
        have HB4 : Below w.heap.size w w4 := by subst hw4; exact HB3.alloc HB3.size _
        clear hw4 HB3 d0 d1 d2 d3 d4 d5 z3 y0 y1
        go_cut [78] (fun s wx => s = .bool false ∧ Bel w4 wx)
        case first =>
          have K1 := Lib.hid (fun (W : World) => HX.out.2.2.1 ▸ cmp_any x k ar an W)
          have K2 := Lib.hid (fun (W : World) => HX.out.2.2.2.1 ▸ may_any x k W)
          have d1 : decide (x < 1) = false := decide_eq_false (by have := HX.out.1; omega)
          go_wp2_with (with_reducible refine wpList_bel 59 rfl ?_)
          repeat (first
            | (refine q_skip (by rfl) ?_; simp only [Act.put, List.setIfInBounds_toArray, List.set_cons_zero, List.set_cons_succ])
            | (refine q_val (v := ?_) (by rfl) (fun W hW => ?_) ?_; rotate_left; (focus (obtain ⟨c0, c1, c2, c3, c4, c5, c6, c7⟩ := HS4 W hW; first | (go_simp; done) | (go_simp; with_reducible rfl))); rotate_left; simp only [Act.put, List.setIfInBounds_toArray, List.set_cons_zero, List.set_cons_succ])
            | (refine q_call _ _ _ (by rfl) (fun W hW => ?_) (fun W hW => q_calls hW (K1.out W)) ?_; (focus (obtain ⟨c0, c1, c2, c3, c4, c5, c6, c7⟩ := HS4 W hW; go_simp; done)); simp only [Act.put, List.setIfInBounds_toArray, List.set_cons_zero, List.set_cons_succ])
            | (refine q_call _ _ _ (by rfl) (fun W hW => ?_) (fun W hW => q_calls hW (K2.out W)) ?_; (focus (obtain ⟨c0, c1, c2, c3, c4, c5, c6, c7⟩ := HS4 W hW; go_simp; done)); simp only [Act.put, List.setIfInBounds_toArray, List.set_cons_zero, List.set_cons_succ]))
          refine wpQuiet_nil ?_
          intro w5 hW5
          go_wp2_with fail
          go_meet
          exact ⟨rfl, hW5⟩

        case rest =>
          obtain ⟨rfl, hc0⟩ := hcut
          have HS5 : ∀ W, Bel wc W → _ := fun W hW => HS4 W (Bel.step hc0 hW)
          have HB5 := HB4.trans (Below.mono hc0 HB4.size)
          clear HS4 HB4 hc0
          generalize wc = w5 at *
          have K1 := Lib.hid (fun (W : World) => cmp_any cr cn ar an W)
          have K2 := Lib.hid (fun (W : World) => cmp_any cr cn x k W)
          by_cases hk : cn = k
          · have b1 : (cn != k) = false := by simpa using hk
            by_cases hc : cr < 1
            · have b2 : decide (cr < 1) = true := decide_eq_true hc
              clear hk hc
              go_wp2_with (with_reducible refine wpList_bel 79 rfl ?_)
              repeat (first
                | (refine q_skip (by rfl) ?_; simp only [Act.put, List.setIfInBounds_toArray, List.set_cons_zero, List.set_cons_succ])
                | (refine q_val (v := ?_) (by rfl) (fun W hW => ?_) ?_; rotate_left; (focus (obtain ⟨c0, c1, c2, c3, c4, c5, c6, c7⟩ := HS5 W hW; first | (go_simp; done) | (go_simp; with_reducible rfl))); rotate_left; simp only [Act.put, List.setIfInBounds_toArray, List.set_cons_zero, List.set_cons_succ])
                | (refine q_call _ _ _ (by rfl) (fun W hW => ?_) (fun W hW => q_calls hW (K0.out W)) ?_; (focus (obtain ⟨c0, c1, c2, c3, c4, c5, c6, c7⟩ := HS5 W hW; go_simp; done)); simp only [Act.put, List.setIfInBounds_toArray, List.set_cons_zero, List.set_cons_succ])
                | (refine q_call _ _ _ (by rfl) (fun W hW => ?_) (fun W hW => q_calls hW (K1.out W)) ?_; (focus (obtain ⟨c0, c1, c2, c3, c4, c5, c6, c7⟩ := HS5 W hW; go_simp; done)); simp only [Act.put, List.setIfInBounds_toArray, List.set_cons_zero, List.set_cons_succ])
                | (refine q_call _ _ _ (by rfl) (fun W hW => ?_) (fun W hW => q_calls hW (K2.out W)) ?_; (focus (obtain ⟨c0, c1, c2, c3, c4, c5, c6, c7⟩ := HS5 W hW; go_simp; done)); simp only [Act.put, List.setIfInBounds_toArray, List.set_cons_zero, List.set_cons_succ]))
              refine wpQuiet_nil ?_
              intro w6 hW6
              go_wp2
              go_ret
              exact ⟨rfl, HB5.trans (Below.mono hW6 HB5.size)⟩

            · have b2 : decide (cr < 1) = false := decide_eq_false hc
              by_cases h1 : cmpB cr cn ar an = 1
              · have h2 : 0 ≤ cmpB cr cn x k := by have := HX.out.2.2.2.2 cr (by omega) (hk ▸ h1); rw [hk]; exact this
                have b3 : (cmpB cr cn ar an != 1) = false := by simpa using h1
                have b4 : decide (0 ≤ cmpB cr cn x k) = true := decide_eq_true h2
                clear hk hc h1 h2
                go_wp2_with (with_reducible refine wpList_bel 79 rfl ?_)
                repeat (first
                  | (refine q_skip (by rfl) ?_; simp only [Act.put, List.setIfInBounds_toArray, List.set_cons_zero, List.set_cons_succ])
                  | (refine q_val (v := ?_) (by rfl) (fun W hW => ?_) ?_; rotate_left; (focus (obtain ⟨c0, c1, c2, c3, c4, c5, c6, c7⟩ := HS5 W hW; first | (go_simp; done) | (go_simp; with_reducible rfl))); rotate_left; simp only [Act.put, List.setIfInBounds_toArray, List.set_cons_zero, List.set_cons_succ])
                  | (refine q_call _ _ _ (by rfl) (fun W hW => ?_) (fun W hW => q_calls hW (K0.out W)) ?_; (focus (obtain ⟨c0, c1, c2, c3, c4, c5, c6, c7⟩ := HS5 W hW; go_simp; done)); simp only [Act.put, List.setIfInBounds_toArray, List.set_cons_zero, List.set_cons_succ])
                  | (refine q_call _ _ _ (by rfl) (fun W hW => ?_) (fun W hW => q_calls hW (K1.out W)) ?_; (focus (obtain ⟨c0, c1, c2, c3, c4, c5, c6, c7⟩ := HS5 W hW; go_simp; done)); simp only [Act.put, List.setIfInBounds_toArray, List.set_cons_zero, List.set_cons_succ])
                  | (refine q_call _ _ _ (by rfl) (fun W hW => ?_) (fun W hW => q_calls hW (K2.out W)) ?_; (focus (obtain ⟨c0, c1, c2, c3, c4, c5, c6, c7⟩ := HS5 W hW; go_simp; done)); simp only [Act.put, List.setIfInBounds_toArray, List.set_cons_zero, List.set_cons_succ]))
                refine wpQuiet_nil ?_
                intro w6 hW6
                go_wp2
                go_ret
                exact ⟨rfl, HB5.trans (Below.mono hW6 HB5.size)⟩

              · have b3 : (cmpB cr cn ar an != 1) = true := by simpa using h1
                clear hk hc h1
                go_wp2_with (with_reducible refine wpList_bel 79 rfl ?_)
                repeat (first
                  | (refine q_skip (by rfl) ?_; simp only [Act.put, List.setIfInBounds_toArray, List.set_cons_zero, List.set_cons_succ])
                  | (refine q_val (v := ?_) (by rfl) (fun W hW => ?_) ?_; rotate_left; (focus (obtain ⟨c0, c1, c2, c3, c4, c5, c6, c7⟩ := HS5 W hW; first | (go_simp; done) | (go_simp; with_reducible rfl))); rotate_left; simp only [Act.put, List.setIfInBounds_toArray, List.set_cons_zero, List.set_cons_succ])
                  | (refine q_call _ _ _ (by rfl) (fun W hW => ?_) (fun W hW => q_calls hW (K0.out W)) ?_; (focus (obtain ⟨c0, c1, c2, c3, c4, c5, c6, c7⟩ := HS5 W hW; go_simp; done)); simp only [Act.put, List.setIfInBounds_toArray, List.set_cons_zero, List.set_cons_succ])
                  | (refine q_call _ _ _ (by rfl) (fun W hW => ?_) (fun W hW => q_calls hW (K1.out W)) ?_; (focus (obtain ⟨c0, c1, c2, c3, c4, c5, c6, c7⟩ := HS5 W hW; go_simp; done)); simp only [Act.put, List.setIfInBounds_toArray, List.set_cons_zero, List.set_cons_succ])
                  | (refine q_call _ _ _ (by rfl) (fun W hW => ?_) (fun W hW => q_calls hW (K2.out W)) ?_; (focus (obtain ⟨c0, c1, c2, c3, c4, c5, c6, c7⟩ := HS5 W hW; go_simp; done)); simp only [Act.put, List.setIfInBounds_toArray, List.set_cons_zero, List.set_cons_succ]))
                refine wpQuiet_nil ?_
                intro w6 hW6
                go_wp2
                go_ret
                exact ⟨rfl, HB5.trans (Below.mono hW6 HB5.size)⟩

          · have b1 : (cn != k) = true := by simpa using hk
            clear hk
            go_wp2_with (with_reducible refine wpList_bel 79 rfl ?_)
            repeat (first
              | (refine q_skip (by rfl) ?_; simp only [Act.put, List.setIfInBounds_toArray, List.set_cons_zero, List.set_cons_succ])
              | (refine q_val (v := ?_) (by rfl) (fun W hW => ?_) ?_; rotate_left; (focus (obtain ⟨c0, c1, c2, c3, c4, c5, c6, c7⟩ := HS5 W hW; first | (go_simp; done) | (go_simp; with_reducible rfl))); rotate_left; simp only [Act.put, List.setIfInBounds_toArray, List.set_cons_zero, List.set_cons_succ])
              | (refine q_call _ _ _ (by rfl) (fun W hW => ?_) (fun W hW => q_calls hW (K0.out W)) ?_; (focus (obtain ⟨c0, c1, c2, c3, c4, c5, c6, c7⟩ := HS5 W hW; go_simp; done)); simp only [Act.put, List.setIfInBounds_toArray, List.set_cons_zero, List.set_cons_succ])
              | (refine q_call _ _ _ (by rfl) (fun W hW => ?_) (fun W hW => q_calls hW (K1.out W)) ?_; (focus (obtain ⟨c0, c1, c2, c3, c4, c5, c6, c7⟩ := HS5 W hW; go_simp; done)); simp only [Act.put, List.setIfInBounds_toArray, List.set_cons_zero, List.set_cons_succ])
              | (refine q_call _ _ _ (by rfl) (fun W hW => ?_) (fun W hW => q_calls hW (K2.out W)) ?_; (focus (obtain ⟨c0, c1, c2, c3, c4, c5, c6, c7⟩ := HS5 W hW; go_simp; done)); simp only [Act.put, List.setIfInBounds_toArray, List.set_cons_zero, List.set_cons_succ]))
            refine wpQuiet_nil ?_
            intro w6 hW6
            go_wp2
            go_ret
            exact ⟨rfl, HB5.trans (Below.mono hW6 HB5.size)⟩

theorem wfU {n : Int} (h : (Lit.int .u64 n).wf = true) : 0 ≤ n ∧ n ≤ 18446744073709551615 := by
  simp [Lit.wf, IntKind.min, IntKind.max, IntKind.signed, IntKind.bits] at h
  omega
theorem rowWalk (ar an br bn cr cn k : Int) (w : World) (wa : (Lit.int .u64 ar).wf = true) (_ : (Lit.int .i64 an).wf = true) (_ : (Lit.int .u64 br).wf = true) (_ : (Lit.int .i64 bn).wf = true) (_ : (Lit.int .u64 cr).wf = true) (_ : (Lit.int .i64 cn).wf = true) (_ : (Lit.int .i64 k).wf = true) :
    Calls Try.prog 4 #[.agg #[.int .u64 ar, .int .i64 an], .agg #[.int .u64 br, .int .i64 bn], .agg #[.int .u64 cr, .int .i64 cn], .int .i64 k] w fun e w' => e = .returned (.bool true) ∧ Below w.heap.size w w' :=
  row_walk ar an br bn cr cn k w (wfU wa).1

end Go.Proofs.Ytlgljcfkoakogaa
