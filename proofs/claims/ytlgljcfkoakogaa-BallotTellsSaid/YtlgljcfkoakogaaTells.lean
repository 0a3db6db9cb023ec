import Derived.Test.YtlgljcfkoakogaaA11
import Derived.Deep.DeepCutAuto
import Derived.OpenShut
namespace Go.Proofs.Ytlgljcfkoakogaa
open Go.RowKit
set_option linter.unusedSimpArgs false
set_option linter.unusedVariables false


set_option maxRecDepth 100000 in
set_option maxHeartbeats 12800000 in
theorem tells_walk (ar an br bn k : Int) (A : Option Addr) (ca : Nat) (xs : List Int) (n : Int) (w : World) (har : 0 ≤ ar) (hI : IntsAt w A xs) (hA : A = none → ca = 0) (hl : xs.length * 8 ≤ 140737488351232) (h1000 : ¬ 1000 < xs.length) :
    Calls Try.prog 3 #[.agg #[.int .u64 ar, .int .i64 an], .agg #[.int .u64 br, .int .i64 bn], .int .i64 k, .slice A xs.length ca, .int .i64 n] w fun e w' => e = .returned (.bool true) ∧ Below w.heap.size w w' := by
  have HK := Lib.hid har
  have HI := Lib.hid hI
  have HA := Lib.hid hA
  clear har hI hA
  have K0 := Lib.hid (fun (W : World) => works11_any W)
  have h1' : ¬ (1000 : Int) < (xs.length : Int) := by omega
  clear h1000
  go_enter Try.func3, Try.ntmps3
  go_wp2_with fail
  refine (above_any _ _ _ _ _).mono ?_
  rintro e w1 ⟨rfl, hb1⟩
  have HS : ∀ W, Bel w1 W → W.cell? ⟨w.heap.size, 0, none⟩ = some (.int .u64 ar) ∧ W.cell? ⟨w.heap.size, 1, none⟩ = some (.int .i64 an) ∧ W.cell? ⟨w.heap.size + 1, 0, none⟩ = some (.int .u64 br) ∧ W.cell? ⟨w.heap.size + 1, 1, none⟩ = some (.int .i64 bn) := by
    intro W hW
    have hW := Bel.step (show Bel _ w1 from hb1) hW
    exact ⟨hW.cell (by go_simp), hW.cell (by go_simp), hW.cell (by go_simp), hW.cell (by go_simp)⟩
  have HB1 : Below w.heap.size w w1 := (((Below.refl _ _).alloc (Nat.le_refl _) _).alloc (by simp) _).trans (hb1.mono (by simp; omega))
  have z1 : w.heap.size + 1 < w1.heap.size := (by have := hb1.size; (try simp at this); omega)
  clear hb1
  obtain ⟨C, hC⟩ : ∃ C, C = cmpB ar an br bn := ⟨_, rfl⟩
  have HC := Lib.hid hC
  clear hC
  go_upto_if 28 with fail
  go_cut [11] (fun c wx => c = .int .i64 C ∧ Bel w1 wx)
  case first =>
    cases ha : aboveB ar an br bn
    · obtain ⟨c0, c1, c2, c3⟩ := HS w1 (Bel.refl w1)
      go_wp2_with fail
      refine (above_any _ _ _ _ _).mono ?_
      rintro e w2 ⟨rfl, hb2⟩
      cases hb : aboveB br bn ar an
      · have e0 : C = 0 := by have h1 := above_cmp ar an br bn; have h2 := above_sym ar an br bn; have h3 := cmpB_vals ar an br bn; have := HC.out; simp [ha] at h1; simp [hb] at h2; omega
        have E := Lib.hid e0
        clear e0 ha
        go_wp2
        go_meet
        exact ⟨by rw [E.out], hb2⟩
      · have e0 : C = -1 := by rw [HC.out]; exact (above_sym ar an br bn).1 hb
        have E := Lib.hid e0
        clear e0 ha
        go_wp2
        go_meet
        exact ⟨by rw [E.out], hb2⟩
    · have e0 : C = 1 := by rw [HC.out]; exact (above_cmp ar an br bn).1 ha
      have E := Lib.hid e0
      clear e0
      go_wp2
      go_meet
      exact ⟨by rw [E.out], Bel.refl _⟩
  case rest =>
    obtain ⟨rfl, hc0⟩ := hcut
    have HS2 : ∀ W, Bel wc W → _ := fun W hW => HS W (Bel.step hc0 hW)
    have HB2 := HB1.trans (Below.mono hc0 HB1.size)
    have z2 : w.heap.size + 1 < wc.heap.size := Nat.lt_of_lt_of_le z1 (Below.size hc0)
    clear HS HB1 z1 hc0
    generalize wc = w2 at *
    have K3 := Lib.hid (fun (W : World) => may_any ar an W)
    have K4 := Lib.hid (fun (W : World) => refMay_any ar an W)
    have K5 := Lib.hid (fun (W : World) => HC.out ▸ cmp_any ar an br bn W)
    go_upto_region 8 with fail
    refine wp_bel (by kernel_rfl) ?_
    repeat (first
      | (refine q_skip (by rfl) ?_; simp only [Act.put, List.setIfInBounds_toArray, List.set_cons_zero, List.set_cons_succ])
      | (refine q_val (v := ?_) (by rfl) (fun W hW => ?_) ?_; rotate_left; (focus (obtain ⟨c0, c1, c2, c3⟩ := HS2 W hW; first | (go_simp; done) | (go_simp; with_reducible rfl))); rotate_left; simp only [Act.put, List.setIfInBounds_toArray, List.set_cons_zero, List.set_cons_succ])
      | (refine q_call _ _ _ (by rfl) (fun W hW => ?_) (fun W hW => q_calls hW (K3.out W)) ?_; (focus (obtain ⟨c0, c1, c2, c3⟩ := HS2 W hW; go_simp; done)); simp only [Act.put, List.setIfInBounds_toArray, List.set_cons_zero, List.set_cons_succ])
      | (refine q_call _ _ _ (by rfl) (fun W hW => ?_) (fun W hW => q_calls hW (K4.out W)) ?_; (focus (obtain ⟨c0, c1, c2, c3⟩ := HS2 W hW; go_simp; done)); simp only [Act.put, List.setIfInBounds_toArray, List.set_cons_zero, List.set_cons_succ])
      | (refine q_call _ _ _ (by rfl) (fun W hW => ?_) (fun W hW => q_calls hW (K5.out W)) ?_; (focus (obtain ⟨c0, c1, c2, c3⟩ := HS2 W hW; go_simp; done)); simp only [Act.put, List.setIfInBounds_toArray, List.set_cons_zero, List.set_cons_succ]))
    refine wpQuiet_nil ?_
    intro w3 hW3
    have HS3 : ∀ W, Bel w3 W → _ := fun W hW => HS2 W (Bel.step hW3 hW)
    have HB3 := HB2.trans (Below.mono hW3 HB2.size)
    have z3 : w.heap.size + 1 < w3.heap.size := Nat.lt_of_lt_of_le z2 (Below.size hW3)
    clear HS2 HB2 z2 hW3
    obtain ⟨c0, c1, c2, c3⟩ := HS3 w3 (Bel.refl w3)
    go_wp2_with fail
    refine (next_any _ _ _ _ HK.out).mono ?_
    rintro e w4 ⟨rfl, hb4⟩
    have HB4 := HB3.trans (hb4.mono HB3.size)
    obtain ⟨c0', c1', _, _⟩ := HS3 w4 hb4
    have z4 : w.heap.size < w4.heap.size := (by have := hb4.size; omega)
    clear c0 c1 c2 c3 HS3 HB3 hb4 z3
    obtain ⟨⟨X, Y, E⟩, hN⟩ : ∃ x, nx ar an k = x := ⟨_, rfl⟩
    rw [hN]
    have HN := Lib.hid hN
    clear hN
    go_upto_region 12 with fail
    generalize hw5 : (w4.alloc (Obj.cells #[Value.int IntKind.u64 X, Value.int IntKind.i64 Y] 24)).alloc (Obj.cells #[Value.int IntKind.u64 0, Value.int IntKind.i64 0] 24) = w5
    have HS5 : ∀ W, Bel w5 W → W.cell? ⟨w.heap.size, 0, none⟩ = some (.int .u64 ar) ∧ W.cell? ⟨w.heap.size, 1, none⟩ = some (.int .i64 an) ∧ W.cell? ⟨w4.heap.size, 0, none⟩ = some (.int .u64 X) ∧ W.cell? ⟨w4.heap.size, 1, none⟩ = some (.int .i64 Y) ∧ W.cell? ⟨w4.heap.size + 1, 0, none⟩ = some (.int .u64 0) ∧ W.cell? ⟨w4.heap.size + 1, 1, none⟩ = some (.int .i64 0) ∧ W.frozen? ⟨w4.heap.size + 1, 0, none⟩ = false ∧ W.frozen? ⟨w4.heap.size + 1, 1, none⟩ = false := by
      intro W hW
      subst hw5
      have hfz : ∀ o, W.frozen? ⟨w4.heap.size + 1, o, none⟩ = false := fun o => (Below.frozen hW (p := ⟨w4.heap.size + 1, o, none⟩) (by simp)).trans (by go_simp)
      exact ⟨hW.cell (by go_simp), hW.cell (by go_simp), hW.cell (by go_simp), hW.cell (by go_simp), hW.cell (by go_simp), hW.cell (by go_simp), hfz 0, hfz 1⟩
    have HB5 : Below w.heap.size w w5 := by subst hw5; exact (HB4.alloc HB4.size _).alloc (by have := HB4.size; simp; omega) _
    have z5 : w4.heap.size + 1 < w5.heap.size := by subst hw5; simp
    clear hw5 c0' c1' HB4

    by_cases hgood : mayB ar an = true ∧ 0 ≤ k ∧ k < 7
    · obtain ⟨hm, hk0, hk7⟩ := hgood
      have K6 := Lib.hid (fun (W : World) => hm ▸ refMay_any ar an W)
      have g1 : decide (0 ≤ k) = true := decide_eq_true hk0
      have g2 : decide (k < 7) = true := decide_eq_true hk7
      go_wp2_with (with_reducible refine wpList_bel 51 rfl ?_)
      repeat (first
        | (refine q_skip (by rfl) ?_; simp only [Act.put, List.setIfInBounds_toArray, List.set_cons_zero, List.set_cons_succ])
        | (refine q_val (v := ?_) (by rfl) (fun W hW => ?_) ?_; rotate_left; (focus (obtain ⟨c0, c1, c2, c3, c4, c5, c6, c7⟩ := HS5 W hW; first | (go_simp; done) | (go_simp; with_reducible rfl))); rotate_left; simp only [Act.put, List.setIfInBounds_toArray, List.set_cons_zero, List.set_cons_succ])
        | (refine q_call _ _ _ (by rfl) (fun W hW => ?_) (fun W hW => q_calls hW (K6.out W)) ?_; (focus (obtain ⟨c0, c1, c2, c3, c4, c5, c6, c7⟩ := HS5 W hW; go_simp; done)); simp only [Act.put, List.setIfInBounds_toArray, List.set_cons_zero, List.set_cons_succ]))
      refine wpQuiet_nil ?_
      intro w6 hW6
      obtain ⟨c0, c1, c2, c3, c4, c5, c6, c7⟩ := HS5 w6 hW6
      have HB6 := HB5.trans (Below.mono hW6 HB5.size)
      go_wp2_with fail
      refine (refNext_any _ _ _ _ HK.out hm ⟨hk0, hk7⟩).mono ?_
      rintro e w7 ⟨rfl, hb7⟩
      rw [HN.out]
      obtain ⟨d0, d1, d2, d3, d4, d5, d6, d7⟩ := HS5 w7 (Bel.step hW6 hb7)
      have HB7 := HB6.trans (Below.mono hb7 HB6.size)
      have hz7 : w.heap.size ≤ w4.heap.size + 1 := by omega
      clear HB6 c0 c1 c2 c3 c4 c5 c6 c7 HS5 HN hW6 hb7 g1 g2 hm
      go_upto_region 16 with fail
      have HB6 : Below w.heap.size w ((w7.setCell ⟨w4.heap.size + 1, 0, none⟩ (.int .u64 X)).setCell ⟨w4.heap.size + 1, 1, none⟩ (.int .i64 Y)) := (HB7.setCell (by exact hz7) _).setCell (by exact hz7) _
      generalize (w7.setCell ⟨w4.heap.size + 1, 0, none⟩ (.int .u64 X)).setCell ⟨w4.heap.size + 1, 1, none⟩ (.int .i64 Y) = w6 at *
      clear d0 d1 d2 d3 d4 d5 d6 d7 HB7 hz7 HB5
      have HI6 := Lib.hid (HI.out.below HB6)
      go_wp2_with fail
      refine (majority_any _ _).mono ?_
      rintro e w7 ⟨rfl, rfl⟩
      go_wp2_with (at_builtin; refine app_nil rfl _ _ rfl rfl A ca xs rfl HI6.out HA.out hl ?_)
      intro A1 c1 w7 hI7 hb7
      go_wp2_with fail
      refine (quorum_any _ _ _ _ _ hI7 (by omega)).mono ?_
      rintro e w8 ⟨rfl, hb8⟩
      have HB8 := (HB6.trans (hb7.mono HB6.size)).trans (hb8.mono (Nat.le_trans HB6.size hb7.size))
      have HI8 := Lib.hid (HI.out.below HB8)
      clear hb7 hb8 HI6 hI7 HB6
      by_cases hn : n < 1 ∨ 7 < n
      · have E1 := Lib.hid (maj_bad hn)
        have E2 := Lib.hid (quo_bad (xs := xs) hn)
        rw [E1.out, E2.out]
        have hd : n < 1 ∨ 7 < n := hn
        clear hn
        rcases hd with hd | hd
        · have g1 : decide (1 ≤ n) = false := decide_eq_false (by omega)
          clear hd
          go_wp2_with (go_at_call 17; refine (works11_any _).mono ?_; rintro e w' ⟨rfl, hbw⟩)
          go_ret
          exact ⟨rfl, HB8.trans (hbw.mono HB8.size)⟩
        · have g1 : decide (1 ≤ n) = true := decide_eq_true (by omega)
          have g2 : decide (n ≤ 7) = false := decide_eq_false (by omega)
          clear hd
          go_wp2_with (go_at_call 17; refine (works11_any _).mono ?_; rintro e w' ⟨rfl, hbw⟩)
          go_ret
          exact ⟨rfl, HB8.trans (hbw.mono HB8.size)⟩
      · have hn1 : 1 ≤ n := by omega
        have hn7 : n ≤ 7 := by omega
        have E1 := Lib.hid (maj_good ⟨hn1, hn7⟩)
        have hq := quo_good (xs := xs) hn1 hn7
        have hqv := quo_votes (xs := xs) hn1 hn7
        have hq : quo xs n = (votesOk xs n && quoB xs n, if votesOk xs n = true then 0 else 2) := by
          cases hv : votesOk xs n
          · rw [hqv hv]; simp
          · rw [hq hv]; simp
        have E2 := Lib.hid hq
        clear hn hq hqv
        obtain ⟨QB, hQB⟩ : ∃ b, b = (votesOk xs n && quoB xs n) := ⟨_, rfl⟩
        obtain ⟨QE, hQE⟩ : ∃ b : Int, b = if votesOk xs n = true then 0 else 2 := ⟨_, rfl⟩
        rw [E1.out, E2.out, ← hQB, ← hQE]
        have HQB := Lib.hid hQB
        have HQE := Lib.hid hQE
        clear hQB hQE E1 E2
        have g1 : decide (1 ≤ n) = true := decide_eq_true hn1
        have g2 : decide (n ≤ 7) = true := decide_eq_true hn7
        go_wp2_with (go_at_call 26; refine (refMajority_any _ _ hn1 hn7).mono ?_; rintro e w' ⟨rfl, rfl⟩)
        go_loop [20, 21] (fun m i => ∃ q : Nat, q ≤ xs.length ∧ i = .int .i64 q ∧ m = .bool (votesOk (xs.take q) n)) (fun _ i => xs.length - (intOf i).toNat)
        case atStart => exact ⟨0, by omega, rfl, by rw [List.take_zero, votesOk_nil]⟩
        case round =>
          obtain ⟨q, hq, rfl, rfl⟩ := hrel
          by_cases hlt : q < xs.length
          · obtain ⟨v, hv⟩ : ∃ v, v = xs.getD q 0 := ⟨_, rfl⟩
            obtain ⟨b, o, rfl, hcv⟩ : ∃ b o, A = some ⟨b, o, none⟩ ∧ w8.cell? ⟨b, o + q, none⟩ = some (.int .i64 v) := by
              rcases HI8.out with h0 | ⟨b, o, e, h⟩
              · rw [h0] at hlt; simp at hlt
              · exact ⟨b, o, e, by rw [hv]; exact h q hlt⟩
            have HS := Lib.hid (votesOk_snoc xs n q hlt)
            have HV := Lib.hid hv
            clear hv
            cases hm : votesOk (xs.take q) n
            · go_wp2
              go_round
              case rel => exact ⟨q + 1, by omega, by go_num, by rw [HS.out, hm]; simp⟩
              case measure => simp [intOf]; omega
            · by_cases hv0 : 0 ≤ v
              · have g3 : decide (0 ≤ v) = true := decide_eq_true hv0
                clear hv0
                go_wp2
                go_round
                case rel => exact ⟨q + 1, by omega, by go_num, by rw [HS.out, hm, ← HV.out, g3]; simp⟩
                case measure => simp [intOf]; omega
              · have g3 : decide (0 ≤ v) = false := decide_eq_false hv0
                clear hv0
                go_wp2
                go_round
                case rel => exact ⟨q + 1, by omega, by go_num, by rw [HS.out, hm, ← HV.out, g3]; simp⟩
                case measure => simp [intOf]; omega
          · have hall : votesOk (xs.take q) n = votesOk xs n := by rw [List.take_of_length_le (by omega)]
            rw [hall]
            have e1 := HQB.out
            have e2 := HQE.out
            cases hv : votesOk xs n
            · rw [hv] at e1 e2
              simp at e1 e2
              subst e1 e2
              clear hall HQB HQE
              go_wp2_with (go_at_call 17; refine (works11_any _).mono ?_; rintro e w' ⟨rfl, hbw⟩)
              go_ret
              exact ⟨rfl, HB8.trans (hbw.mono HB8.size)⟩
            · rw [hv] at e1 e2
              simp at e1 e2
              subst e1 e2
              clear hall HQB HQE
              go_wp2_with (first | (go_at_call 17; refine (works11_any _).mono ?_; rintro e w' ⟨rfl, hbw⟩) | (go_at_call 27; refine (refQuorum_any _ _ xs _ _ hn1 hn7 HI8.out (by omega)).mono ?_; rintro e w' ⟨rfl, rfl⟩))
              go_ret
              exact ⟨rfl, HB8.trans (hbw.mono HB8.size)⟩
    · have hbad : nx ar an k = (0, 0, 2) := by
        unfold nx; rw [if_neg hgood]
      rw [HN.out] at hbad
      simp only [Prod.mk.injEq] at hbad
      obtain ⟨rfl, rfl, rfl⟩ := hbad
      cases hm : mayB ar an
      · have K6 := Lib.hid (fun (W : World) => hm ▸ refMay_any ar an W)
        go_wp2_with (with_reducible refine wpList_bel 51 rfl ?_)
        repeat (first
          | (refine q_skip (by rfl) ?_; simp only [Act.put, List.setIfInBounds_toArray, List.set_cons_zero, List.set_cons_succ])
          | (refine q_val (v := ?_) (by rfl) (fun W hW => ?_) ?_; rotate_left; (focus (obtain ⟨c0, c1, c2, c3, c4, c5, c6, c7⟩ := HS5 W hW; first | (go_simp; done) | (go_simp; with_reducible rfl))); rotate_left; simp only [Act.put, List.setIfInBounds_toArray, List.set_cons_zero, List.set_cons_succ])
          | (refine q_call _ _ _ (by rfl) (fun W hW => ?_) (fun W hW => q_calls hW (K6.out W)) ?_; (focus (obtain ⟨c0, c1, c2, c3, c4, c5, c6, c7⟩ := HS5 W hW; go_simp; done)); simp only [Act.put, List.setIfInBounds_toArray, List.set_cons_zero, List.set_cons_succ]))
        refine wpQuiet_nil ?_
        intro w6 hW6
        obtain ⟨c0, c1, c2, c3, c4, c5, c6, c7⟩ := HS5 w6 hW6
        have HB6 := HB5.trans (Below.mono hW6 HB5.size)
        go_upto_region 16 with fail
        clear c0 c1 c2 c3 c4 c5 c6 c7 HB5 HS5 HN hm
        have HI6 := Lib.hid (HI.out.below HB6)
        go_wp2_with fail
        refine (majority_any _ _).mono ?_
        rintro e w7 ⟨rfl, rfl⟩
        go_wp2_with (at_builtin; refine app_nil rfl _ _ rfl rfl A ca xs rfl HI6.out HA.out hl ?_)
        intro A1 c1 w7 hI7 hb7
        go_wp2_with fail
        refine (quorum_any _ _ _ _ _ hI7 (by omega)).mono ?_
        rintro e w8 ⟨rfl, hb8⟩
        have HB8 := (HB6.trans (hb7.mono HB6.size)).trans (hb8.mono (Nat.le_trans HB6.size hb7.size))
        have HI8 := Lib.hid (HI.out.below HB8)
        clear hb7 hb8 HI6 hI7 HB6
        by_cases hn : n < 1 ∨ 7 < n
        · have E1 := Lib.hid (maj_bad hn)
          have E2 := Lib.hid (quo_bad (xs := xs) hn)
          rw [E1.out, E2.out]
          have hd : n < 1 ∨ 7 < n := hn
          clear hn
          rcases hd with hd | hd
          · have g1 : decide (1 ≤ n) = false := decide_eq_false (by omega)
            clear hd
            go_wp2_with (go_at_call 17; refine (works11_any _).mono ?_; rintro e w' ⟨rfl, hbw⟩)
            go_ret
            exact ⟨rfl, HB8.trans (hbw.mono HB8.size)⟩
          · have g1 : decide (1 ≤ n) = true := decide_eq_true (by omega)
            have g2 : decide (n ≤ 7) = false := decide_eq_false (by omega)
            clear hd
            go_wp2_with (go_at_call 17; refine (works11_any _).mono ?_; rintro e w' ⟨rfl, hbw⟩)
            go_ret
            exact ⟨rfl, HB8.trans (hbw.mono HB8.size)⟩
        · have hn1 : 1 ≤ n := by omega
          have hn7 : n ≤ 7 := by omega
          have E1 := Lib.hid (maj_good ⟨hn1, hn7⟩)
          have hq := quo_good (xs := xs) hn1 hn7
          have hqv := quo_votes (xs := xs) hn1 hn7
          have hq : quo xs n = (votesOk xs n && quoB xs n, if votesOk xs n = true then 0 else 2) := by
            cases hv : votesOk xs n
            · rw [hqv hv]; simp
            · rw [hq hv]; simp
          have E2 := Lib.hid hq
          clear hn hq hqv
          obtain ⟨QB, hQB⟩ : ∃ b, b = (votesOk xs n && quoB xs n) := ⟨_, rfl⟩
          obtain ⟨QE, hQE⟩ : ∃ b : Int, b = if votesOk xs n = true then 0 else 2 := ⟨_, rfl⟩
          rw [E1.out, E2.out, ← hQB, ← hQE]
          have HQB := Lib.hid hQB
          have HQE := Lib.hid hQE
          clear hQB hQE E1 E2
          have g1 : decide (1 ≤ n) = true := decide_eq_true hn1
          have g2 : decide (n ≤ 7) = true := decide_eq_true hn7
          go_wp2_with (go_at_call 26; refine (refMajority_any _ _ hn1 hn7).mono ?_; rintro e w' ⟨rfl, rfl⟩)
          go_loop [20, 21] (fun m i => ∃ q : Nat, q ≤ xs.length ∧ i = .int .i64 q ∧ m = .bool (votesOk (xs.take q) n)) (fun _ i => xs.length - (intOf i).toNat)
          case atStart => exact ⟨0, by omega, rfl, by rw [List.take_zero, votesOk_nil]⟩
          case round =>
            obtain ⟨q, hq, rfl, rfl⟩ := hrel
            by_cases hlt : q < xs.length
            · obtain ⟨v, hv⟩ : ∃ v, v = xs.getD q 0 := ⟨_, rfl⟩
              obtain ⟨b, o, rfl, hcv⟩ : ∃ b o, A = some ⟨b, o, none⟩ ∧ w8.cell? ⟨b, o + q, none⟩ = some (.int .i64 v) := by
                rcases HI8.out with h0 | ⟨b, o, e, h⟩
                · rw [h0] at hlt; simp at hlt
                · exact ⟨b, o, e, by rw [hv]; exact h q hlt⟩
              have HS := Lib.hid (votesOk_snoc xs n q hlt)
              have HV := Lib.hid hv
              clear hv
              cases hm : votesOk (xs.take q) n
              · go_wp2
                go_round
                case rel => exact ⟨q + 1, by omega, by go_num, by rw [HS.out, hm]; simp⟩
                case measure => simp [intOf]; omega
              · by_cases hv0 : 0 ≤ v
                · have g3 : decide (0 ≤ v) = true := decide_eq_true hv0
                  clear hv0
                  go_wp2
                  go_round
                  case rel => exact ⟨q + 1, by omega, by go_num, by rw [HS.out, hm, ← HV.out, g3]; simp⟩
                  case measure => simp [intOf]; omega
                · have g3 : decide (0 ≤ v) = false := decide_eq_false hv0
                  clear hv0
                  go_wp2
                  go_round
                  case rel => exact ⟨q + 1, by omega, by go_num, by rw [HS.out, hm, ← HV.out, g3]; simp⟩
                  case measure => simp [intOf]; omega
            · have hall : votesOk (xs.take q) n = votesOk xs n := by rw [List.take_of_length_le (by omega)]
              rw [hall]
              have e1 := HQB.out
              have e2 := HQE.out
              cases hv : votesOk xs n
              · rw [hv] at e1 e2
                simp at e1 e2
                subst e1 e2
                clear hall HQB HQE
                go_wp2_with (go_at_call 17; refine (works11_any _).mono ?_; rintro e w' ⟨rfl, hbw⟩)
                go_ret
                exact ⟨rfl, HB8.trans (hbw.mono HB8.size)⟩
              · rw [hv] at e1 e2
                simp at e1 e2
                subst e1 e2
                clear hall HQB HQE
                go_wp2_with (first | (go_at_call 17; refine (works11_any _).mono ?_; rintro e w' ⟨rfl, hbw⟩) | (go_at_call 27; refine (refQuorum_any _ _ xs _ _ hn1 hn7 HI8.out (by omega)).mono ?_; rintro e w' ⟨rfl, rfl⟩))
                go_ret
                exact ⟨rfl, HB8.trans (hbw.mono HB8.size)⟩
      · have K6 := Lib.hid (fun (W : World) => hm ▸ refMay_any ar an W)
        have hkb : decide (0 ≤ k) = false ∨ decide (0 ≤ k) = true ∧ decide (k < 7) = false := by
          by_cases h0 : 0 ≤ k
          · exact .inr ⟨decide_eq_true h0, decide_eq_false (fun h => hgood ⟨hm, h0, h⟩)⟩
          · exact .inl (decide_eq_false h0)
        clear hgood
        rcases hkb with g1 | ⟨g1, g2⟩
        · skip
          go_wp2_with (with_reducible refine wpList_bel 51 rfl ?_)
          repeat (first
            | (refine q_skip (by rfl) ?_; simp only [Act.put, List.setIfInBounds_toArray, List.set_cons_zero, List.set_cons_succ])
            | (refine q_val (v := ?_) (by rfl) (fun W hW => ?_) ?_; rotate_left; (focus (obtain ⟨c0, c1, c2, c3, c4, c5, c6, c7⟩ := HS5 W hW; first | (go_simp; done) | (go_simp; with_reducible rfl))); rotate_left; simp only [Act.put, List.setIfInBounds_toArray, List.set_cons_zero, List.set_cons_succ])
            | (refine q_call _ _ _ (by rfl) (fun W hW => ?_) (fun W hW => q_calls hW (K6.out W)) ?_; (focus (obtain ⟨c0, c1, c2, c3, c4, c5, c6, c7⟩ := HS5 W hW; go_simp; done)); simp only [Act.put, List.setIfInBounds_toArray, List.set_cons_zero, List.set_cons_succ]))
          refine wpQuiet_nil ?_
          intro w6 hW6
          obtain ⟨c0, c1, c2, c3, c4, c5, c6, c7⟩ := HS5 w6 hW6
          have HB6 := HB5.trans (Below.mono hW6 HB5.size)
          go_upto_region 16 with fail
          clear c0 c1 c2 c3 c4 c5 c6 c7 HB5 HS5 HN hm
          have HI6 := Lib.hid (HI.out.below HB6)
          go_wp2_with fail
          refine (majority_any _ _).mono ?_
          rintro e w7 ⟨rfl, rfl⟩
          go_wp2_with (at_builtin; refine app_nil rfl _ _ rfl rfl A ca xs rfl HI6.out HA.out hl ?_)
          intro A1 c1 w7 hI7 hb7
          go_wp2_with fail
          refine (quorum_any _ _ _ _ _ hI7 (by omega)).mono ?_
          rintro e w8 ⟨rfl, hb8⟩
          have HB8 := (HB6.trans (hb7.mono HB6.size)).trans (hb8.mono (Nat.le_trans HB6.size hb7.size))
          have HI8 := Lib.hid (HI.out.below HB8)
          clear hb7 hb8 HI6 hI7 HB6
          by_cases hn : n < 1 ∨ 7 < n
          · have E1 := Lib.hid (maj_bad hn)
            have E2 := Lib.hid (quo_bad (xs := xs) hn)
            rw [E1.out, E2.out]
            have hd : n < 1 ∨ 7 < n := hn
            clear hn
            rcases hd with hd | hd
            · have g1 : decide (1 ≤ n) = false := decide_eq_false (by omega)
              clear hd
              go_wp2_with (go_at_call 17; refine (works11_any _).mono ?_; rintro e w' ⟨rfl, hbw⟩)
              go_ret
              exact ⟨rfl, HB8.trans (hbw.mono HB8.size)⟩
            · have g1 : decide (1 ≤ n) = true := decide_eq_true (by omega)
              have g2 : decide (n ≤ 7) = false := decide_eq_false (by omega)
              clear hd
              go_wp2_with (go_at_call 17; refine (works11_any _).mono ?_; rintro e w' ⟨rfl, hbw⟩)
              go_ret
              exact ⟨rfl, HB8.trans (hbw.mono HB8.size)⟩
          · have hn1 : 1 ≤ n := by omega
            have hn7 : n ≤ 7 := by omega
            have E1 := Lib.hid (maj_good ⟨hn1, hn7⟩)
            have hq := quo_good (xs := xs) hn1 hn7
            have hqv := quo_votes (xs := xs) hn1 hn7
            have hq : quo xs n = (votesOk xs n && quoB xs n, if votesOk xs n = true then 0 else 2) := by
              cases hv : votesOk xs n
              · rw [hqv hv]; simp
              · rw [hq hv]; simp
            have E2 := Lib.hid hq
            clear hn hq hqv
            obtain ⟨QB, hQB⟩ : ∃ b, b = (votesOk xs n && quoB xs n) := ⟨_, rfl⟩
            obtain ⟨QE, hQE⟩ : ∃ b : Int, b = if votesOk xs n = true then 0 else 2 := ⟨_, rfl⟩
            rw [E1.out, E2.out, ← hQB, ← hQE]
            have HQB := Lib.hid hQB
            have HQE := Lib.hid hQE
            clear hQB hQE E1 E2
            have g1 : decide (1 ≤ n) = true := decide_eq_true hn1
            have g2 : decide (n ≤ 7) = true := decide_eq_true hn7
            go_wp2_with (go_at_call 26; refine (refMajority_any _ _ hn1 hn7).mono ?_; rintro e w' ⟨rfl, rfl⟩)
            go_loop [20, 21] (fun m i => ∃ q : Nat, q ≤ xs.length ∧ i = .int .i64 q ∧ m = .bool (votesOk (xs.take q) n)) (fun _ i => xs.length - (intOf i).toNat)
            case atStart => exact ⟨0, by omega, rfl, by rw [List.take_zero, votesOk_nil]⟩
            case round =>
              obtain ⟨q, hq, rfl, rfl⟩ := hrel
              by_cases hlt : q < xs.length
              · obtain ⟨v, hv⟩ : ∃ v, v = xs.getD q 0 := ⟨_, rfl⟩
                obtain ⟨b, o, rfl, hcv⟩ : ∃ b o, A = some ⟨b, o, none⟩ ∧ w8.cell? ⟨b, o + q, none⟩ = some (.int .i64 v) := by
                  rcases HI8.out with h0 | ⟨b, o, e, h⟩
                  · rw [h0] at hlt; simp at hlt
                  · exact ⟨b, o, e, by rw [hv]; exact h q hlt⟩
                have HS := Lib.hid (votesOk_snoc xs n q hlt)
                have HV := Lib.hid hv
                clear hv
                cases hm : votesOk (xs.take q) n
                · go_wp2
                  go_round
                  case rel => exact ⟨q + 1, by omega, by go_num, by rw [HS.out, hm]; simp⟩
                  case measure => simp [intOf]; omega
                · by_cases hv0 : 0 ≤ v
                  · have g3 : decide (0 ≤ v) = true := decide_eq_true hv0
                    clear hv0
                    go_wp2
                    go_round
                    case rel => exact ⟨q + 1, by omega, by go_num, by rw [HS.out, hm, ← HV.out, g3]; simp⟩
                    case measure => simp [intOf]; omega
                  · have g3 : decide (0 ≤ v) = false := decide_eq_false hv0
                    clear hv0
                    go_wp2
                    go_round
                    case rel => exact ⟨q + 1, by omega, by go_num, by rw [HS.out, hm, ← HV.out, g3]; simp⟩
                    case measure => simp [intOf]; omega
              · have hall : votesOk (xs.take q) n = votesOk xs n := by rw [List.take_of_length_le (by omega)]
                rw [hall]
                have e1 := HQB.out
                have e2 := HQE.out
                cases hv : votesOk xs n
                · rw [hv] at e1 e2
                  simp at e1 e2
                  subst e1 e2
                  clear hall HQB HQE
                  go_wp2_with (go_at_call 17; refine (works11_any _).mono ?_; rintro e w' ⟨rfl, hbw⟩)
                  go_ret
                  exact ⟨rfl, HB8.trans (hbw.mono HB8.size)⟩
                · rw [hv] at e1 e2
                  simp at e1 e2
                  subst e1 e2
                  clear hall HQB HQE
                  go_wp2_with (first | (go_at_call 17; refine (works11_any _).mono ?_; rintro e w' ⟨rfl, hbw⟩) | (go_at_call 27; refine (refQuorum_any _ _ xs _ _ hn1 hn7 HI8.out (by omega)).mono ?_; rintro e w' ⟨rfl, rfl⟩))
                  go_ret
                  exact ⟨rfl, HB8.trans (hbw.mono HB8.size)⟩
        · skip
          go_wp2_with (with_reducible refine wpList_bel 51 rfl ?_)
          repeat (first
            | (refine q_skip (by rfl) ?_; simp only [Act.put, List.setIfInBounds_toArray, List.set_cons_zero, List.set_cons_succ])
            | (refine q_val (v := ?_) (by rfl) (fun W hW => ?_) ?_; rotate_left; (focus (obtain ⟨c0, c1, c2, c3, c4, c5, c6, c7⟩ := HS5 W hW; first | (go_simp; done) | (go_simp; with_reducible rfl))); rotate_left; simp only [Act.put, List.setIfInBounds_toArray, List.set_cons_zero, List.set_cons_succ])
            | (refine q_call _ _ _ (by rfl) (fun W hW => ?_) (fun W hW => q_calls hW (K6.out W)) ?_; (focus (obtain ⟨c0, c1, c2, c3, c4, c5, c6, c7⟩ := HS5 W hW; go_simp; done)); simp only [Act.put, List.setIfInBounds_toArray, List.set_cons_zero, List.set_cons_succ]))
          refine wpQuiet_nil ?_
          intro w6 hW6
          obtain ⟨c0, c1, c2, c3, c4, c5, c6, c7⟩ := HS5 w6 hW6
          have HB6 := HB5.trans (Below.mono hW6 HB5.size)
          go_upto_region 16 with fail
          clear c0 c1 c2 c3 c4 c5 c6 c7 HB5 HS5 HN hm
          have HI6 := Lib.hid (HI.out.below HB6)
          go_wp2_with fail
          refine (majority_any _ _).mono ?_
          rintro e w7 ⟨rfl, rfl⟩
          go_wp2_with (at_builtin; refine app_nil rfl _ _ rfl rfl A ca xs rfl HI6.out HA.out hl ?_)
          intro A1 c1 w7 hI7 hb7
          go_wp2_with fail
          refine (quorum_any _ _ _ _ _ hI7 (by omega)).mono ?_
          rintro e w8 ⟨rfl, hb8⟩
          have HB8 := (HB6.trans (hb7.mono HB6.size)).trans (hb8.mono (Nat.le_trans HB6.size hb7.size))
          have HI8 := Lib.hid (HI.out.below HB8)
          clear hb7 hb8 HI6 hI7 HB6
          by_cases hn : n < 1 ∨ 7 < n
          · have E1 := Lib.hid (maj_bad hn)
            have E2 := Lib.hid (quo_bad (xs := xs) hn)
            rw [E1.out, E2.out]
            have hd : n < 1 ∨ 7 < n := hn
            clear hn
            rcases hd with hd | hd
            · have g1 : decide (1 ≤ n) = false := decide_eq_false (by omega)
              clear hd
              go_wp2_with (go_at_call 17; refine (works11_any _).mono ?_; rintro e w' ⟨rfl, hbw⟩)
              go_ret
              exact ⟨rfl, HB8.trans (hbw.mono HB8.size)⟩
            · have g1 : decide (1 ≤ n) = true := decide_eq_true (by omega)
              have g2 : decide (n ≤ 7) = false := decide_eq_false (by omega)
              clear hd
              go_wp2_with (go_at_call 17; refine (works11_any _).mono ?_; rintro e w' ⟨rfl, hbw⟩)
              go_ret
              exact ⟨rfl, HB8.trans (hbw.mono HB8.size)⟩
          · have hn1 : 1 ≤ n := by omega
            have hn7 : n ≤ 7 := by omega
            have E1 := Lib.hid (maj_good ⟨hn1, hn7⟩)
            have hq := quo_good (xs := xs) hn1 hn7
            have hqv := quo_votes (xs := xs) hn1 hn7
            have hq : quo xs n = (votesOk xs n && quoB xs n, if votesOk xs n = true then 0 else 2) := by
              cases hv : votesOk xs n
              · rw [hqv hv]; simp
              · rw [hq hv]; simp
            have E2 := Lib.hid hq
            clear hn hq hqv
            obtain ⟨QB, hQB⟩ : ∃ b, b = (votesOk xs n && quoB xs n) := ⟨_, rfl⟩
            obtain ⟨QE, hQE⟩ : ∃ b : Int, b = if votesOk xs n = true then 0 else 2 := ⟨_, rfl⟩
            rw [E1.out, E2.out, ← hQB, ← hQE]
            have HQB := Lib.hid hQB
            have HQE := Lib.hid hQE
            clear hQB hQE E1 E2
            have g1 : decide (1 ≤ n) = true := decide_eq_true hn1
            have g2 : decide (n ≤ 7) = true := decide_eq_true hn7
            go_wp2_with (go_at_call 26; refine (refMajority_any _ _ hn1 hn7).mono ?_; rintro e w' ⟨rfl, rfl⟩)
            go_loop [20, 21] (fun m i => ∃ q : Nat, q ≤ xs.length ∧ i = .int .i64 q ∧ m = .bool (votesOk (xs.take q) n)) (fun _ i => xs.length - (intOf i).toNat)
            case atStart => exact ⟨0, by omega, rfl, by rw [List.take_zero, votesOk_nil]⟩
            case round =>
              obtain ⟨q, hq, rfl, rfl⟩ := hrel
              by_cases hlt : q < xs.length
              · obtain ⟨v, hv⟩ : ∃ v, v = xs.getD q 0 := ⟨_, rfl⟩
                obtain ⟨b, o, rfl, hcv⟩ : ∃ b o, A = some ⟨b, o, none⟩ ∧ w8.cell? ⟨b, o + q, none⟩ = some (.int .i64 v) := by
                  rcases HI8.out with h0 | ⟨b, o, e, h⟩
                  · rw [h0] at hlt; simp at hlt
                  · exact ⟨b, o, e, by rw [hv]; exact h q hlt⟩
                have HS := Lib.hid (votesOk_snoc xs n q hlt)
                have HV := Lib.hid hv
                clear hv
                cases hm : votesOk (xs.take q) n
                · go_wp2
                  go_round
                  case rel => exact ⟨q + 1, by omega, by go_num, by rw [HS.out, hm]; simp⟩
                  case measure => simp [intOf]; omega
                · by_cases hv0 : 0 ≤ v
                  · have g3 : decide (0 ≤ v) = true := decide_eq_true hv0
                    clear hv0
                    go_wp2
                    go_round
                    case rel => exact ⟨q + 1, by omega, by go_num, by rw [HS.out, hm, ← HV.out, g3]; simp⟩
                    case measure => simp [intOf]; omega
                  · have g3 : decide (0 ≤ v) = false := decide_eq_false hv0
                    clear hv0
                    go_wp2
                    go_round
                    case rel => exact ⟨q + 1, by omega, by go_num, by rw [HS.out, hm, ← HV.out, g3]; simp⟩
                    case measure => simp [intOf]; omega
              · have hall : votesOk (xs.take q) n = votesOk xs n := by rw [List.take_of_length_le (by omega)]
                rw [hall]
                have e1 := HQB.out
                have e2 := HQE.out
                cases hv : votesOk xs n
                · rw [hv] at e1 e2
                  simp at e1 e2
                  subst e1 e2
                  clear hall HQB HQE
                  go_wp2_with (go_at_call 17; refine (works11_any _).mono ?_; rintro e w' ⟨rfl, hbw⟩)
                  go_ret
                  exact ⟨rfl, HB8.trans (hbw.mono HB8.size)⟩
                · rw [hv] at e1 e2
                  simp at e1 e2
                  subst e1 e2
                  clear hall HQB HQE
                  go_wp2_with (first | (go_at_call 17; refine (works11_any _).mono ?_; rintro e w' ⟨rfl, hbw⟩) | (go_at_call 27; refine (refQuorum_any _ _ xs _ _ hn1 hn7 HI8.out (by omega)).mono ?_; rintro e w' ⟨rfl, rfl⟩))
                  go_ret
                  exact ⟨rfl, HB8.trans (hbw.mono HB8.size)⟩

end Go.Proofs.Ytlgljcfkoakogaa
