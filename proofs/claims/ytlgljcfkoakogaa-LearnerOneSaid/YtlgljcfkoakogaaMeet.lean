import Derived.Test.YtlgljcfkoakogaaA8
namespace Go.Proofs.Ytlgljcfkoakogaa
open Go.RowKit
set_option linter.unusedSimpArgs false
set_option linter.unusedVariables false


def InRow (w : World) (a : Option Addr) (len cap : Nat) (zs : List Int) : Prop :=
  (a = none ∧ len = 0 ∧ cap = 0 ∧ zs = []) ∨ ∃ x, a = some x ∧ len ≤ cap ∧ cap ≤ maxLen ∧ zs.length = cap ∧ (∀ i, i < zs.length → w.cell? (x.add i) = some (.int .i64 (zs.getD i 0))) ∧ ∀ n ∈ zs, (Lit.int .i64 n).wf = true
/-- An argument that is a slice of whole numbers, as the walks want it. -/
theorem intsAt_arg {w : World} {a : Option Addr} {len cap : Nat} {zs : List Int} (h : InRow w a len cap zs) :
    ∃ xs : List Int, xs.length = len ∧ IntsAt w a xs ∧ (a = none → cap = 0) := by
  rcases h with ⟨rfl, rfl, rfl, rfl⟩ | ⟨x, rfl, hl, hm, hz, hc, _⟩
  · exact ⟨[], rfl, .inl rfl, fun _ => rfl⟩
  · refine ⟨zs.take len, by simp; omega, ?_, fun h => by cases h⟩
    by_cases h0 : len = 0
    · subst h0; exact .inl (by simp)
    · obtain ⟨b, off, rfl, hc2⟩ := ints_at hc (by omega)
      refine .inr ⟨b, off, rfl, fun j hj => ?_⟩
      rw [List.length_take] at hj
      rw [hc2 j (by omega)]
      congr 2
      rw [List.getD_eq_getElem?_getD, List.getD_eq_getElem?_getD, List.getElem?_take, if_pos (by omega)]

/-- Two quorums have a node in common. -/
theorem cnt_disjoint (a b : List Int) (h : ∀ x ∈ a, x ∉ b) (m : Nat) : cnt a m + cnt b m ≤ m := by
  induction m with
  | zero => simp [cnt]
  | succ m ih =>
    simp only [cnt]
    by_cases h1 : (m : Int) ∈ a
    · rw [if_pos h1, if_neg (h _ h1)]; omega
    · rw [if_neg h1]; split <;> omega
theorem quorums_meet {a b : List Int} {n : Int} (ha : quo a n = (true, 0)) (hb : quo b n = (true, 0)) : ∃ i k, i < a.length ∧ k < b.length ∧ a.getD i 0 = b.getD k 0 := by
  by_cases hall : ∀ x ∈ a, x ∉ b
  · exfalso
    unfold quo at ha hb
    by_cases hn : n < 1 ∨ 7 < n
    · rw [if_pos hn] at ha; simp at ha
    · rw [if_neg hn] at ha hb
      cases hva : votesOk a n
      · rw [hva] at ha; simp at ha
      · cases hvb : votesOk b n
        · rw [hvb] at hb; simp at hb
        · rw [hva] at ha; rw [hvb] at hb
          simp [quoB] at ha hb
          have := cnt_disjoint a b hall n.toNat
          omega
  · simp at hall
    obtain ⟨x, hx, hxb⟩ := hall
    obtain ⟨i, hi, e1⟩ := List.getElem_of_mem hx
    obtain ⟨k, hk, e2⟩ := List.getElem_of_mem hxb
    exact ⟨i, k, hi, hk, by simp [List.getD_eq_getElem?_getD, hi, hk, e1, e2]⟩

theorem bel_drewN {B : Nat} {a w : World} (h : Below B a w) (n : Nat) : Below B a (w.drewN n) := ⟨h.os, h.tape, h.output, h.size, h.block⟩
theorem quo_cases (xs : List Int) (n : Int) : quo xs n = (true, 0) ∨ quo xs n = (false, 0) ∨ quo xs n = (false, 2) := by
  unfold quo
  split
  · exact .inr (.inr rfl)
  · split
    · cases quoB xs n
      · exact .inr (.inl rfl)
      · exact .inl rfl
    · exact .inr (.inr rfl)

set_option maxHeartbeats 6400000 in
theorem meet_walk (A B : Option Addr) (ca cb : Nat) (a b : List Int) (n : Int) (w : World) (ha : IntsAt w A a) (hb : IntsAt w B b) (hca : A = none → ca = 0) (hcb : B = none → cb = 0)
    (la : a.length * 8 ≤ 140737488351232) (lb : b.length * 8 ≤ 140737488351232) :
    Calls Try.prog 5 #[.slice A a.length ca, .slice B b.length cb, .int .i64 n] w fun e w' => e = .returned (.bool true) ∧ Below w.heap.size w w' := by
  have HA := Lib.hid ha
  have HB := Lib.hid hb
  have HCA := Lib.hid hca
  have HCB := Lib.hid hcb
  clear ha hb hca hcb
  by_cases h1 : 100 < a.length
  · have h1' : (100 : Int) < (a.length : Int) := by omega
    go_enter Try.func5, Try.ntmps5
    go_wp2_with (go_at_call 17; refine (works11_any _).mono ?_; rintro e w' ⟨rfl, hbw⟩)
    go_ret
    exact ⟨rfl, hbw⟩
  · by_cases h2 : 100 < b.length
    · have h1' : ¬ (100 : Int) < (a.length : Int) := by omega
      have h2' : (100 : Int) < (b.length : Int) := by omega
      go_enter Try.func5, Try.ntmps5
      go_wp2_with (go_at_call 17; refine (works11_any _).mono ?_; rintro e w' ⟨rfl, hbw⟩)
      go_ret
      exact ⟨rfl, hbw⟩
    · have h1' : ¬ (100 : Int) < (a.length : Int) := by omega
      have h2' : ¬ (100 : Int) < (b.length : Int) := by omega
      go_enter Try.func5, Try.ntmps5
      go_wp2_with (at_builtin; refine app_nil rfl _ _ rfl rfl A ca a rfl HA.out HCA.out la ?_)
      intro A1 c1 w1 hI1 hb1
      go_wp2_with fail
      refine (quorum_any _ _ _ _ _ hI1 (by omega)).mono ?_
      rintro e w2 ⟨rfl, hb2⟩
      have HB2 := hb1.trans (hb2.mono hb1.size)
      have HB' := Lib.hid (HB.out.below HB2)
      go_wp2_with (at_builtin; refine app_nil rfl _ _ rfl rfl B cb b rfl HB'.out HCB.out lb ?_)
      intro A3 c3 w3 hI3 hb3
      go_wp2_with fail
      refine (quorum_any _ _ _ _ _ hI3 (by omega)).mono ?_
      rintro e w4 ⟨rfl, hb4⟩
      have HB3 := HB2.trans (hb3.mono HB2.size)
      have HB4 := HB3.trans (hb4.mono HB3.size)
      have ha4 := Lib.hid (HA.out.below HB4)
      have hb4' := Lib.hid (HB.out.below HB4)
      clear hb1 hb2 hb3 hb4 HA HB HB'
      rcases quo_cases a n with qa | qa | qa
      · rcases quo_cases b n with qb | qb | qb
        · rw [qa, qb]
          have HM := Lib.hid (quorums_meet qa qb)
          clear qa qb
          go_wp2
          go_loopw [11, 12] (fun i _ wr => ∃ k : Nat, k ≤ a.length ∧ i = .int .i64 k ∧ Hid (∀ i', i' < k → ∀ j, j < b.length → a.getD i' 0 ≠ b.getD j 0) ∧ ∃ nq, wr = w4.drewN nq) (fun i _ _ => a.length - (intOf i).toNat)
          case atStart => exact ⟨0, by omega, rfl, Lib.hid (fun i hi => by omega), 0, rfl⟩
          case round =>
            obtain ⟨k, hk, rfl, HN, nq, rfl⟩ := hrel
            by_cases hlt : k < a.length
            · obtain ⟨x, hx⟩ : ∃ x, x = a.getD k 0 := ⟨_, rfl⟩
              obtain ⟨ba, oa, rfl, hcx⟩ : ∃ ba oa, A = some ⟨ba, oa, none⟩ ∧ w4.cell? ⟨ba, oa + k, none⟩ = some (.int .i64 x) := by
                rcases ha4.out with h0 | ⟨ba, oa, e, h⟩
                · rw [h0] at hlt; simp at hlt
                · exact ⟨ba, oa, e, by rw [hx]; exact h k hlt⟩
              have HX := Lib.hid hx
              clear hx
              go_wp2
              go_loopw [12] (fun j wr => ∃ q : Nat, q ≤ b.length ∧ j = .int .i64 q ∧ Hid (∀ j, j < q → x ≠ b.getD j 0) ∧ ∃ nq, wr = w4.drewN nq) (fun j _ => b.length - (intOf j).toNat)
              case atStart => exact ⟨0, by omega, rfl, Lib.hid (fun j hj => by omega), nq, rfl⟩
              case round =>
                obtain ⟨q, hq, rfl, HQ, mq, rfl⟩ := hrel
                by_cases hlq : q < b.length
                · obtain ⟨y, hy⟩ : ∃ y, y = b.getD q 0 := ⟨_, rfl⟩
                  obtain ⟨bb, ob, rfl, hcy⟩ : ∃ bb ob, B = some ⟨bb, ob, none⟩ ∧ w4.cell? ⟨bb, ob + q, none⟩ = some (.int .i64 y) := by
                    rcases hb4'.out with h0 | ⟨bb, ob, e, h⟩
                    · rw [h0] at hlq; simp at hlq
                    · exact ⟨bb, ob, e, by rw [hy]; exact h q hlq⟩
                  have HY := Lib.hid hy
                  clear hy
                  have i1 : (0 : Int) ≤ (k : Int) := by omega
                  have i2 : (k : Int) < (a.length : Int) := by omega
                  have i3 : (0 : Int) ≤ (q : Int) := by omega
                  have i4 : (q : Int) < (b.length : Int) := by omega
                  by_cases hxy : x = y
                  · have hb : (x == y) = true := by simpa using hxy
                    have HXY := Lib.hid hxy
                    clear hxy
                    go_wp2
                    go_quiet (fail)
                    go_wp2_with (go_at_call 17; refine (works11_any _).mono ?_; rintro e w' ⟨rfl, hbw⟩)
                    go_ret
                    exact ⟨rfl, (bel_drewN HB4 _).trans (hbw.mono HB4.size)⟩
                  · have hb : (x == y) = false := by simpa using hxy
                    have HXY := Lib.hid hxy
                    clear hxy
                    go_wp2
                    go_quiet (fail)
                    go_wp2
                    go_roundw
                    case rel =>
                      refine ⟨q + 1, by omega, by go_num, Lib.hid (fun j hj => ?_), _, rfl⟩
                      rcases Nat.lt_or_ge j q with h | h
                      · exact HQ.out j h
                      · obtain rfl : j = q := by omega
                        rw [← HY.out]; exact HXY.out
                    case measure => simp [intOf]; omega
                · go_wp2
                  go_roundw
                  case rel =>
                    refine ⟨k + 1, by omega, by go_num, Lib.hid (fun i hi j hj => ?_), _, rfl⟩
                    rcases Nat.lt_or_ge i k with h | h
                    · exact HN.out i h j hj
                    · obtain rfl : i = k := by omega
                      rw [← HX.out]; exact HQ.out j (by omega)
                  case measure => simp [intOf]; omega
            · exfalso
              obtain ⟨i, j, hi, hj, e⟩ := HM.out
              exact HN.out i (by omega) j hj e
        all_goals
          rw [qa, qb]
          clear qa qb
          go_wp2_with (go_at_call 17; refine (works11_any _).mono ?_; rintro e w' ⟨rfl, hbw⟩)
          go_ret
          exact ⟨rfl, HB4.trans (hbw.mono HB4.size)⟩
      all_goals
        rw [qa]
        clear qa
        rcases quo_cases b n with qb | qb | qb
        all_goals
          rw [qb]
          clear qb
          go_wp2_with (go_at_call 17; refine (works11_any _).mono ?_; rintro e w' ⟨rfl, hbw⟩)
          go_ret
          exact ⟨rfl, HB4.trans (hbw.mono HB4.size)⟩

theorem walk (a0 : Option Addr) (len0 cap0 : Nat) (z0 : List Int) (a1 : Option Addr) (len1 cap1 : Nat) (z1 : List Int) (n : Int) (w : World) (h0 : InRow w a0 len0 cap0 z0) (y0 : len0 * 8 ≤ 140737488351232)
    (h1 : InRow w a1 len1 cap1 z1) (y1 : len1 * 8 ≤ 140737488351232) (_ : (Lit.int .i64 n).wf = true) :
    Calls Try.prog 5 #[.slice a0 len0 cap0, .slice a1 len1 cap1, .int .i64 n] w fun e w' => e = .returned (.bool true) ∧ Below w.heap.size w w' := by
  obtain ⟨xs, rfl, i0, c0⟩ := intsAt_arg h0
  obtain ⟨ys, rfl, i1, c1⟩ := intsAt_arg h1
  exact meet_walk a0 a1 cap0 cap1 xs ys n w i0 i1 c0 c1 y0 y1

end Go.Proofs.Ytlgljcfkoakogaa
