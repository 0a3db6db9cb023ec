import Derived.Test.YtlgljcfkoakogaaLR4
import Derived.Test.YtlgljcfkoakogaaLP1
import Derived.Deep.DeepCutAuto
namespace Go.Proofs.Ytlgljcfkoakogaa
open Go.RowKit
set_option linter.unusedSimpArgs false
set_option linter.unusedVariables false


open Go.Maps Go.Shelf
theorem LrnAt.of {W W' : World} {g mb : Nat} {L : Lrn} (h : LrnAt W g mb L) (hg : W'.heap[g]? = W.heap[g]?) (hm : W'.heap[mb]? = W.heap[mb]?) : LrnAt W' g mb L := ⟨hg.trans h.bk, h.said.kept hm, h.pos, h.few, h.keys⟩
theorem lAcc_nn (L : Lrn) (x r n : Int) (v : ByteArray) : (lAcc L x r n v).2.2.nn ≤ L.nn + 1 := by
  unfold lAcc lNew
  split
  · exact Nat.le_succ _
  · split
    · exact Nat.le_succ _
    · split
      · exact Nat.le_succ _
      · split
        · exact Nat.le_succ _
        · split
          · exact Nat.le_succ _
          · exact Nat.le_refl _
theorem lTold_nn (L : Lrn) (v : ByteArray) : (lTold L v).2.2.nn ≤ L.nn + 1 := by
  unfold lTold
  split
  · exact Nat.le_succ _
  · split
    · split
      · exact Nat.le_succ _
      · exact Nat.le_succ _
    · exact Nat.le_succ _
set_option maxRecDepth 100000
set_option maxHeartbeats 6400000
theorem lplays_walk (nn : Int) (A : Option Addr) (cap : Nat) (l : List St4) (w : World) (hx : St4sAt w A l) (hl : l.length ≤ 9223372036854775807) :
    Calls Try.prog 11 #[.int .i64 nn, .slice A l.length cap] w fun e w' => e = .returned (.bool true) ∧ Below w.heap.size w w' := by
  have HX := Lib.hid hx
  go_enter Try.func11, Try.ntmps11
  go_wp2_with fail
  refine (heavy14_any A cap l _ hx hl).mono ?_
  rintro e w0 ⟨b, rfl, hlen, rfl⟩
  clear hx
  cases b with
  | true =>
    go_wp2_with (go_at_call 40; refine (works14_any _).mono ?_; rintro e w' ⟨rfl, hbw⟩)
    go_ret
    exact ⟨rfl, hbw⟩
  | false =>
  have hlen := hlen rfl
  by_cases hn : nn < 1 ∨ 7 < nn
  · go_wp2_with fail
    refine (lnew_bad _ hn _).mono ?_
    rintro e w1 ⟨rfl, rfl⟩
    rcases hn with hn | hn
    · go_wp2_with (go_at_call 40; refine (works14_any _).mono ?_; rintro e w' ⟨rfl, hbw⟩)
      go_ret
      exact ⟨rfl, hbw⟩
    · have hn' : ¬ nn < 1 := by omega
      go_wp2_with (go_at_call 40; refine (works14_any _).mono ?_; rintro e w' ⟨rfl, hbw⟩)
      go_ret
      exact ⟨rfl, hbw⟩
  · obtain ⟨N, rfl⟩ : ∃ N : Nat, nn = N := ⟨nn.toNat, by omega⟩
    have g1 : 1 ≤ N := by omega
    have g7 : N ≤ 7 := by omega
    have g1' : ¬ (N : Int) < 1 := by omega
    have g7' : ¬ (7 : Int) < (N : Int) := by omega
    clear hn
    go_wp2_with fail
    refine (lnew_good N g1 g7 _).mono ?_
    rintro e w1 ⟨rfl, H1, hb1⟩
    have gl1 := H1.cells.2.2.2.2
    go_wp2_with fail
    refine (rnew_good N g1 g7 _).mono ?_
    rintro e w2 ⟨g, q, rfl, R2, hg, hq, hb2⟩
    have H2 := Lib.hid (H1.keep hb2)
    have R2 := Lib.hid R2
    have HB2 := hb1.trans (hb2.mono hb1.size)
    have hg' : w.heap.size + 1 < g := by omega
    have hq' : w.heap.size + 1 < q := by omega
    clear H1 hb1 hb2 gl1 hg hq
    go_wp2_with fail
    go_loopw [8] (fun i wr => ∃ (k : Nat) (L : Lrn), k ≤ l.length ∧ i = .int .i64 k ∧ L.nn ≤ k ∧ Hid (LrnAt wr (w.heap.size + 1) w.heap.size L) ∧ Hid (RefAt wr g q L) ∧ Below w.heap.size w wr) (fun i _ => l.length + 1 - (intOf i).toNat)
    case atStart => exact ⟨0, lrnNew N, by omega, rfl, Nat.le_refl _, H2, R2, HB2⟩
    case round =>
      obtain ⟨k, L, hk, rfl, hnn, HL, HR, HB⟩ := hrel
      have hlk : (k : Int) ≤ (l.length : Int) := by omega
      by_cases hlt : k < l.length
      · have hne : ¬ (k : Int) = (l.length : Int) := by omega
        obtain ⟨⟨x, r, n, v, told⟩, hs⟩ : ∃ s, l[k]? = some s := ⟨_, List.getElem?_eq_getElem hlt⟩
        obtain ⟨b, o, rfl, c0, c1, c2, c3, c4⟩ : ∃ b o, A = some ⟨b, o, none⟩ ∧ St4At wr b (o + k * 5) ⟨x, r, n, v, told⟩ := by
          rcases HX.out with h0 | ⟨b, o, e, h⟩
          · rw [h0] at hlt; simp at hlt
          · exact ⟨b, o, e, (h k _ hs).bel HB⟩
        clear hs
        dsimp only at c0 c1 c2 c3 c4
        have kb := (Below.refl wr.heap.size wr).alloc (Nat.le_refl _) (.cells #[.int .i64 x, .int .u64 r, .int .i64 n, .string v, .bool told] 73)
        have K := Bk.new wr #[.int .i64 x, .int .u64 r, .int .i64 n, .string v, .bool told] 73
        have H1 := HL.out.keep kb
        have R1 := HR.out.keep kb
        have HB1 := HB.trans (kb.mono HB.size)
        have hg2 := HR.out.bk.lt
        have hq2 := HR.out.lt
        have hw0 := HB.size
        have hgl := HL.out.cells.2.2.2.2
        go_upto_region 15 with fail
        clear c0 c1 c2 c3 c4 HL HR HB kb
        generalize wr.alloc (.cells #[.int .i64 x, .int .u64 r, .int .i64 n, .string v, .bool told] 73) = w5 at K H1 R1 HB1 ⊢
        generalize wr.heap.size = p at *
        obtain ⟨m0, m1, m2, m3, m4⟩ : w5.cell? ⟨p, 0, none⟩ = some (.int .i64 x) ∧ w5.cell? ⟨p, 1, none⟩ = some (.int .u64 r) ∧ w5.cell? ⟨p, 2, none⟩ = some (.int .i64 n) ∧ w5.cell? ⟨p, 3, none⟩ = some (.string v) ∧ w5.cell? ⟨p, 4, none⟩ = some (.bool told) := ⟨K.cell 0, K.cell 1, K.cell 2, K.cell 3, K.cell 4⟩
        cases told with
        | true =>
          go_wp2_with fail
          refine (ltold_any v H1).mono ?_
          rintro e w6 ⟨rfl, H2, k2⟩
          have R2 := R1.of (k2.block g R1.bk.lt (by omega)) (k2.block q R1.lt (by omega))
          have HB2 := k2.below HB1 (fun k e => by omega) HB1.size
          have K2 := K.kept k2 (by omega)
          clear m0 m1 m2 m3 m4 H1 R1 HB1 K k2
          have m3 : w6.cell? ⟨p, 3, none⟩ = some (.string v) := K2.cell 3
          go_wp2_with fail
          refine (rtold_any v R2).mono ?_
          rintro e w7 ⟨rfl, R3, k3⟩
          have H3 := H2.of (k3.block _ H2.bk.lt (by omega)) (k3.block _ H2.said.lt (by omega))
          have HB3 := k3.below HB2 (fun k e => by omega) HB2.size
          have hn4 := lTold_nn L v
          clear m3 H2 R2 HB2 K2 k3
          generalize (lTold L v).2.2 = L' at *
          generalize (lTold L v).2.1 = e' at *
          generalize (lTold L v).1 = b' at *
          have H3 := Lib.hid H3
          have R3 := Lib.hid R3
          go_wp2_with fail
          refine (lchosen_any H3.out).mono ?_
          rintro e w4 ⟨rfl, hb4⟩
          have H4 := Lib.hid (H3.out.keep hb4)
          have R4 := Lib.hid (R3.out.keep hb4)
          have HB4 := Lib.hid (HB3.trans (hb4.mono HB3.size))
          obtain ⟨y0, y1, y2, y3, yz⟩ := R4.out.cells
          clear hb4 H3 R3 HB3
          go_wp2_with fail
          go_roundw
          case rel => exact ⟨k + 1, L', by omega, by go_num, by omega, H4, R4, HB4.out⟩
          case measure => simp [intOf]; omega
        | false =>
          go_wp2_with fail
          refine (lacc_any x r n v H1 (by omega)).mono ?_
          rintro e w6 ⟨rfl, H2, k2⟩
          have R2 := R1.of (k2.block g R1.bk.lt (by omega)) (k2.block q R1.lt (by omega))
          have HB2 := k2.below HB1 (fun k e => by omega) HB1.size
          have K2 := K.kept k2 (by omega)
          have hkeys := H1.keys
          clear m0 m1 m2 m3 m4 H1 R1 HB1 K k2
          obtain ⟨m0, m1, m2, m3⟩ : w6.cell? ⟨p, 0, none⟩ = some (.int .i64 x) ∧ w6.cell? ⟨p, 1, none⟩ = some (.int .u64 r) ∧ w6.cell? ⟨p, 2, none⟩ = some (.int .i64 n) ∧ w6.cell? ⟨p, 3, none⟩ = some (.string v) := ⟨K2.cell 0, K2.cell 1, K2.cell 2, K2.cell 3⟩
          go_wp2_with fail
          refine (racc_any r n v R2 x hkeys).mono ?_
          rintro e w7 ⟨rfl, R3, k3⟩
          have H3 := H2.of (k3.block _ H2.bk.lt (by omega)) (k3.block _ H2.said.lt (by omega))
          have HB3 := k3.below HB2 (fun k e => by omega) HB2.size
          have hn4 := lAcc_nn L x r n v
          clear m0 m1 m2 m3 H2 R2 HB2 K2 k3
          generalize (lAcc L x r n v).2.2 = L' at *
          generalize (lAcc L x r n v).2.1 = e' at *
          generalize (lAcc L x r n v).1 = b' at *
          have H3 := Lib.hid H3
          have R3 := Lib.hid R3
          go_wp2_with fail
          refine (lchosen_any H3.out).mono ?_
          rintro e w4 ⟨rfl, hb4⟩
          have H4 := Lib.hid (H3.out.keep hb4)
          have R4 := Lib.hid (R3.out.keep hb4)
          have HB4 := Lib.hid (HB3.trans (hb4.mono HB3.size))
          obtain ⟨y0, y1, y2, y3, yz⟩ := R4.out.cells
          clear hb4 H3 R3 HB3
          go_wp2_with fail
          go_roundw
          case rel => exact ⟨k + 1, L', by omega, by go_num, by omega, H4, R4, HB4.out⟩
          case measure => simp [intOf]; omega
      · obtain rfl : k = l.length := by omega
        go_wp2_with (go_at_call 40; refine (works14_any _).mono ?_; rintro e w' ⟨rfl, hbw⟩)
        go_ret
        exact ⟨rfl, HB.trans (hbw.mono HB.size)⟩
theorem lplaysWalk (nn : Int) (A : Option Addr) (len cap : Nat) (l : List St4) (w : World) (_ : (Lit.int .i64 nn).wf = true) (hlen : l.length = len) (hl : len ≤ 9223372036854775807) (hoks : ∀ s ∈ l, s.ok) (hx : St4sAt w A l) :
    Calls Try.prog 11 #[.int .i64 nn, .slice A len cap] w fun e w' => e = .returned (.bool true) ∧ Below w.heap.size w w' := by
  subst hlen
  exact lplays_walk nn A cap l w hx hl

end Go.Proofs.Ytlgljcfkoakogaa
