import Derived.Test.YtlgljcfkoakogaaLO1
import Derived.Deep.DeepCutAuto
import Derived.OwnWalk
import Derived.OpenShut
namespace Go.Proofs.Ytlgljcfkoakogaa
open Go.RowKit
set_option linter.unusedSimpArgs false
set_option linter.unusedVariables false


open Go.Maps Go.Shelf
def U8At (w : World) (A : Option Addr) (zs : List Int) : Prop :=
  zs = [] ∨ ∃ b o, A = some ⟨b, o, none⟩ ∧ ∀ j, j < zs.length → w.cell? ⟨b, o + j, none⟩ = some (.int .u8 (zs.getD j 0))
theorem Try.info4 : (Try.prog.info? 4).map (fun i => (i.zero, i.size, i.bytes)) = some (some (.bool false), 1, 1) := by kernel_rfl
set_option maxRecDepth 100000
set_option maxHeartbeats 6400000
theorem row_kept {w w' : World} {base q : Nat} {e : TypeId} {size n c : Nat} {xs : List Value} (h : w.ownsRow base e size (.slice (some ⟨q, 0, none⟩) n c) n xs) (hk : w'.heap[q]? = w.heap[q]?) : w'.ownsRow base e size (.slice (some ⟨q, 0, none⟩) n c) n xs := by
  rcases h with ⟨h1, h2⟩
  refine ⟨h1, ?_⟩
  rcases h2 with ⟨h, _⟩ | ⟨g, cap, cur, h3, h4, h5, h6⟩
  · cases h
  · injection h3 with h7 h8 h9
    injection h7 with h7
    injection h7 with h7
    subst h7
    exact .inr ⟨q, cap, cur, by rw [h9], h4, hk.trans h5, h6⟩
theorem row_lt {w : World} {base q : Nat} {e : TypeId} {size n c : Nat} {xs : List Value} (h : w.ownsRow base e size (.slice (some ⟨q, 0, none⟩) n c) n xs) : q < w.heap.size := (h.lt q rfl).2
theorem lorder_big (nn r n : Int) (v : ByteArray) (A : Option Addr) (len cap : Nat) (w : World) (h : 100 < len ∨ 1024 < v.size) :
    Calls Try.prog 13 #[.int .i64 nn, .agg #[.int .u64 r, .int .i64 n], .string v, .slice A len cap] w fun e w' => e = .returned (.bool true) ∧ Below w.heap.size w w' := by
  by_cases h1 : 100 < len
  · have h1' : (100 : Int) < (len : Int) := by omega
    clear h h1
    go_enter Try.func13, Try.ntmps13
    go_wp2_with (go_at_call 40; refine (works14_any _).mono ?_; rintro e w' ⟨rfl, hbw⟩)
    go_ret
    exact ⟨rfl, ((Below.refl _ _).alloc (Nat.le_refl _) _).trans (hbw.mono (by simp))⟩
  · have h1' : ¬ (100 : Int) < (len : Int) := by omega
    have h2' : (1024 : Int) < (v.size : Int) := by omega
    clear h h1
    go_enter Try.func13, Try.ntmps13
    go_wp2_with (go_at_call 40; refine (works14_any _).mono ?_; rintro e w' ⟨rfl, hbw⟩)
    go_ret
    exact ⟨rfl, ((Below.refl _ _).alloc (Nat.le_refl _) _).trans (hbw.mono (by simp))⟩
theorem lorder_bad (nn r n : Int) (v : ByteArray) (A : Option Addr) (len cap : Nat) (w : World) (h : nn < 1 ∨ 7 < nn) (h1 : ¬ 100 < len) (h2 : ¬ 1024 < v.size) :
    Calls Try.prog 13 #[.int .i64 nn, .agg #[.int .u64 r, .int .i64 n], .string v, .slice A len cap] w fun e w' => e = .returned (.bool true) ∧ Below w.heap.size w w' := by
  have h1' : ¬ (100 : Int) < (len : Int) := by omega
  have h2' : ¬ (1024 : Int) < (v.size : Int) := by omega
  clear h1 h2
  go_enter Try.func13, Try.ntmps13
  go_wp2_with fail
  refine (lnew_bad _ h _).mono ?_
  rintro e w1 ⟨rfl, rfl⟩
  clear h
  go_wp2_with (go_at_call 40; refine (works14_any _).mono ?_; rintro e w' ⟨rfl, hbw⟩)
  go_ret
  exact ⟨rfl, ((Below.refl _ _).alloc (Nat.le_refl _) _).trans (hbw.mono (by simp))⟩
theorem lorder_good (N : Nat) (r n : Int) (v : ByteArray) (A : Option Addr) (cap : Nat) (zs : List Int) (w : World) (g1 : 1 ≤ N) (g7 : N ≤ 7) (h1 : ¬ 100 < zs.length) (h2 : ¬ 1024 < v.size) (hz : U8At w A zs) (hzr : ∀ z ∈ zs, 0 ≤ z ∧ z ≤ 255) :
    Calls Try.prog 13 #[.int .i64 N, .agg #[.int .u64 r, .int .i64 n], .string v, .slice A zs.length cap] w fun e w' => e = .returned (.bool true) ∧ Below w.heap.size w w' := by
  have h1' : ¬ (100 : Int) < (zs.length : Int) := by omega
  have h2' : ¬ (1024 : Int) < (v.size : Int) := by omega
  obtain ⟨i0, hi, iz0, iz1, iz2⟩ := info_parts Try.info4
  have HZ := Lib.hid hz
  have HR := Lib.hid hzr
  clear hz hzr
  go_enter Try.func13, Try.ntmps13
  go_wp2_with fail
  have hb0 := (Below.refl w.heap.size w).alloc (Nat.le_refl _) (.cells #[.int .u64 r, .int .i64 n] 24)
  have B0 := Bk.new w #[.int .u64 r, .int .i64 n] 24
  have z0 : (w.alloc (.cells #[.int .u64 r, .int .i64 n] 24)).heap.size = w.heap.size + 1 := World.size_alloc _ _
  refine (lnew_good N g1 g7 _).mono ?_
  rintro e w1 ⟨rfl, H0, hb1⟩
  have B1 := B0.bel hb1
  rw [z0] at H0
  have HB1 := hb0.trans (hb1.mono (by rw [z0]; omega))
  have s1 := HB1.size
  have gl := H0.cells.2.2.2.2
  have H0 := Lib.hid H0
  clear hb1 hb0 B0
  go_wp2_with (at_make; refine wpList_make_full _ rfl _ _ 84 rfl w1.heap.size 4 i0 (.bool false) 1 Try.underlying84 hi iz0 iz1 _ _ _ _ N rfl rfl rfl rfl (by rw [iz2]; omega) (by unfold maxLen; omega) (Nat.le_refl _) ?_)
  intro w2 hown hgrow
  have hb2 : Below w1.heap.size w1 w2 := (Below.refl _ _).grown hgrow (Nat.le_refl _) (fun k e => by cases e)
  have H2 := H0.out.keep hb2
  have B2 := B1.bel hb2
  have HB2 := HB1.trans (hb2.mono s1)
  have hown : w2.ownsRow w1.heap.size 4 1 (.slice (some ⟨w1.heap.size, 0, none⟩) N N) N ((List.replicate N false).map Value.bool) := by
    have h9 := toList_madeCells_one (.bool false) N
    rw [List.map_replicate, ← h9]
    simpa using hown
  clear hgrow hb2 B1 HB1 H0 s1 z0
  generalize hqq : w1.heap.size = q at *
  clear hqq
  go_wp2_with fail
  go_loopw [12, 13] (fun c i wr => ∃ (k : Nat) (hs : List Bool) (L : Lrn), k ≤ zs.length ∧ c = .int .i64 (hs.count true : Nat) ∧ i = .int .i64 k ∧ OrdAt N r n v hs L ∧ L.nn ≤ k ∧ LrnAt wr (w.heap.size + 1 + 1) (w.heap.size + 1) L ∧
      wr.ownsRow q 4 1 (.slice (some ⟨q, 0, none⟩) N N) N (hs.map Value.bool) ∧ Bk wr w.heap.size #[.int .u64 r, .int .i64 n] 24 ∧ Below w.heap.size w wr) (fun _ i _ => zs.length + 1 - (intOf i).toNat)
  case atStart => exact ⟨0, List.replicate N false, lrnNew N, Nat.zero_le _, by rw [List.count_replicate]; simp, rfl, ord_start N r n v, Nat.le_refl _, H2, hown, B2, HB2⟩
  case round =>
    obtain ⟨k, hs, L, hk, rfl, rfl, HO, hnn, HL, hrow, B0, HB⟩ := hrel
    clear H2 B2 HB2 hown
    have HO := Lib.hid HO
    have HL := Lib.hid HL
    have hlk : (k : Int) ≤ (zs.length : Int) := by omega
    by_cases hlt : k < zs.length
    · have hne : ¬ (k : Int) = (zs.length : Int) := by omega
      obtain ⟨b, o, rfl, hc⟩ : ∃ b o, A = some ⟨b, o, none⟩ ∧ w.cell? ⟨b, o + k, none⟩ = some (.int .u8 (zs.getD k 0)) := by
        rcases HZ.out with h0 | ⟨b, o, e, h⟩
        · rw [h0] at hlt; simp at hlt
        · exact ⟨b, o, e, h k hlt⟩
      have hcz := (HB.cell (p := ⟨b, o + k, none⟩) (World.block_lt_of_cell? w _ hc)).trans hc
      have hzr := HR.out (zs.getD k 0) (by rw [List.getD_eq_getElem?_getD, List.getElem?_eq_getElem hlt]; exact List.getElem_mem hlt)
      clear hc
      generalize zs.getD k 0 = z at hcz hzr
      obtain ⟨z0, z1⟩ := hzr
      go_upto_region 14 with fail
      have y0 : 0 ≤ z % (N : Int) := Int.emod_nonneg _ (by omega)
      have y1 : z % (N : Int) < N := Int.emod_lt_of_pos _ (by omega)
      obtain ⟨j, hj⟩ : ∃ j : Nat, z % (N : Int) = j := ⟨(z % (N : Int)).toNat, by omega⟩
      rw [hj] at y1 ⊢
      clear y0 hj hcz z0 z1
      have hjN : j < N := by omega
      have hjl : j < hs.length := by rw [HO.out.len]; exact hjN
      have hqw := row_lt hrow
      go_wp2_with fail
      refine (lchosen_any HL.out).mono ?_
      rintro e w3 ⟨rfl, hb3⟩
      have HL3 := HL.out.keep hb3
      have hrow3 := row_kept hrow (hb3.block _ hqw)
      have B3 := B0.bel hb3
      have HB3 := HB.trans (hb3.mono HB.size)
      have m0 : w3.cell? ⟨w.heap.size, 0, none⟩ = some (.int .u64 r) := B3.cell 0
      have m1 : w3.cell? ⟨w.heap.size, 1, none⟩ = some (.int .i64 n) := B3.cell 1
      clear hb3 hrow B0 HB HL
      go_wp2_with fail
      refine (lacc_any (j : Int) r n v HL3 (by omega)).mono ?_
      rintro e w4 ⟨rfl, HL4, kp4⟩
      have hrow4 := row_kept hrow3 (kp4.block _ (row_lt hrow3) (by omega))
      have B4 := B3.kept kp4 (by omega)
      have HB4 := kp4.below HB3 (fun k e => by omega) HB3.size
      clear kp4 hrow3 B3 HB3 HL3 m0 m1
      by_cases hnm : namedB r n = true
      · obtain ⟨e1, e2, HO4, hnn4⟩ := ord_step HO.out g1 g7 (x := (j : Int)) (by omega) (by omega) hnm (by omega)
        rw [e1, e2]
        clear e1 e2
        generalize (lAcc L j r n v).2.2 = L4 at HL4 HO4 hnn4 ⊢
        have HO4 := Lib.hid HO4
        have hcl : hs.count true ≤ N := by rw [← HO.out.len]; exact List.count_le_length
        have hcp := count_put hjl
        rw [Int.toNat_natCast] at HO4
        have hcell := hrow4.cellAt j (by omega)
        have hfr := hrow4.frozenAt j
        rw [List.getElem?_map, List.getElem?_eq_getElem hjl] at hcell
        have hgd : hs.getD j false = hs[j] := by simp [List.getD_eq_getElem?_getD, List.getElem?_eq_getElem hjl]
        rw [hgd] at hcp
        generalize hc : hs.count true = c at *
        cases hbj : hs[j] with
        | false =>
          rw [hbj] at hcell hcp
          simp only [Option.map_some] at hcell
          have HLW : LrnAt (w4.setCell ⟨q, j, none⟩ (.bool true)) (w.heap.size + 1 + 1) (w.heap.size + 1) L4 := ⟨HL4.bk.far (by dsimp only; omega) _, HL4.said.kept (far_block (by dsimp only; omega) _), HL4.pos, HL4.few, HL4.keys⟩
          have hrowW := (hrow4.stored j (.bool true)).1
          rw [← List.map_set] at hrowW
          have BW := B4.far (p := ⟨q, j, none⟩) (by dsimp only; omega) (.bool true)
          have HBW := HB4.setCell (p := ⟨q, j, none⟩) (by dsimp only; omega) (.bool true)
          have hcW : ((c + 1 : Nat) : Int) = ((hs.set j true).count true : Int) := by rw [hcp]; simp
          clear hrow4 HL4 B4 HB4
          go_wp2_with fail
          refine (lchosen_any HLW).mono ?_
          rintro e w6 ⟨rfl, hb6⟩
          have HL6 := Lib.hid (HLW.keep hb6)
          have hrow6 := Lib.hid (row_kept hrowW (hb6.block _ (row_lt hrowW)))
          have B6 := Lib.hid (BW.bel hb6)
          have HB6 := Lib.hid (HBW.trans (hb6.mono HBW.size))
          clear hb6 HLW hrowW BW HBW
          have hkn := HO4.out.known
          have hval := HO4.out.val
          have hcs := hcW
          cases hk4 : L4.known
          · rw [hk4] at hkn
            have hle : ¬ (N : Int) < 2 * ((c + 1 : Nat) : Int) := by
              intro hh
              rw [hcs] at hh
              rw [decide_eq_true hh] at hkn
              cases hkn
            simp only [Bool.false_and]
            clear hkn hval
            go_wp2_with fail
            go_roundw
            case rel => exact ⟨k + 1, hs.set j true, L4, by omega, by first | (rw [← hcs]; done) | (rw [← hcs]; go_num), by go_num, HO4.out, by omega, HL6.out, hrow6.out, B6.out, HB6.out⟩
            case measure => simp [intOf]; omega
          · rw [hk4] at hkn
            have hgt : (N : Int) < 2 * ((c + 1 : Nat) : Int) := by
              rw [hcs]
              exact of_decide_eq_true hkn.symm
            have hval := hval hk4
            simp only [Bool.true_and]
            rw [hval]
            clear hkn
            cases hk1 : L.known
            · simp only [Bool.not_false]
              go_wp2_with fail
              go_roundw
              case rel => exact ⟨k + 1, hs.set j true, L4, by omega, by first | (rw [← hcs]; done) | (rw [← hcs]; go_num), by go_num, HO4.out, by omega, HL6.out, hrow6.out, B6.out, HB6.out⟩
              case measure => simp [intOf]; omega
            · simp only [Bool.not_true]
              go_wp2_with fail
              go_roundw
              case rel => exact ⟨k + 1, hs.set j true, L4, by omega, by first | (rw [← hcs]; done) | (rw [← hcs]; go_num), by go_num, HO4.out, by omega, HL6.out, hrow6.out, B6.out, HB6.out⟩
              case measure => simp [intOf]; omega
        | true =>
          rw [hbj] at hcell hcp
          simp only [Option.map_some] at hcell
          have HLW := HL4
          have hrowW : w4.ownsRow q 4 1 (.slice (some ⟨q, 0, none⟩) N N) N ((hs.set j true).map Value.bool) := by
            have : hs.set j true = hs := by
              rw [← hbj]
              exact List.set_getElem_self hjl
            rw [this]
            exact hrow4
          have BW := B4
          have HBW := HB4
          have hcW : ((c : Nat) : Int) = ((hs.set j true).count true : Int) := by rw [hcp]; simp
          clear hrow4 HL4 B4 HB4
          go_wp2_with fail
          refine (lchosen_any HLW).mono ?_
          rintro e w6 ⟨rfl, hb6⟩
          have HL6 := Lib.hid (HLW.keep hb6)
          have hrow6 := Lib.hid (row_kept hrowW (hb6.block _ (row_lt hrowW)))
          have B6 := Lib.hid (BW.bel hb6)
          have HB6 := Lib.hid (HBW.trans (hb6.mono HBW.size))
          clear hb6 HLW hrowW BW HBW
          have hkn := HO4.out.known
          have hval := HO4.out.val
          have hcs := hcW
          cases hk4 : L4.known
          · rw [hk4] at hkn
            have hle : ¬ (N : Int) < 2 * (c : Int) := by
              intro hh
              rw [hcs] at hh
              rw [decide_eq_true hh] at hkn
              cases hkn
            simp only [Bool.false_and]
            clear hkn hval
            go_wp2_with fail
            go_roundw
            case rel => exact ⟨k + 1, hs.set j true, L4, by omega, by first | (rw [← hcs]; done) | (rw [← hcs]; go_num), by go_num, HO4.out, by omega, HL6.out, hrow6.out, B6.out, HB6.out⟩
            case measure => simp [intOf]; omega
          · rw [hk4] at hkn
            have hgt : (N : Int) < 2 * (c : Int) := by
              rw [hcs]
              exact of_decide_eq_true hkn.symm
            have hval := hval hk4
            simp only [Bool.true_and]
            rw [hval]
            clear hkn
            cases hk1 : L.known
            · simp only [Bool.not_false]
              go_wp2_with fail
              go_roundw
              case rel => exact ⟨k + 1, hs.set j true, L4, by omega, by first | (rw [← hcs]; done) | (rw [← hcs]; go_num), by go_num, HO4.out, by omega, HL6.out, hrow6.out, B6.out, HB6.out⟩
              case measure => simp [intOf]; omega
            · simp only [Bool.not_true]
              go_wp2_with fail
              go_roundw
              case rel => exact ⟨k + 1, hs.set j true, L4, by omega, by first | (rw [← hcs]; done) | (rw [← hcs]; go_num), by go_num, HO4.out, by omega, HL6.out, hrow6.out, B6.out, HB6.out⟩
              case measure => simp [intOf]; omega
      · have hl2 : lAcc L (j : Int) r n v = (false, 2, L) := by
          unfold lAcc
          rw [if_pos (fun h => hnm h.2.2)]
        rw [hl2]
        go_wp2_with (go_at_call 40; refine (works14_any _).mono ?_; rintro e w' ⟨rfl, hbw⟩)
        go_ret
        exact ⟨rfl, HB4.trans (hbw.mono HB4.size)⟩
    · obtain rfl : k = zs.length := by omega
      go_wp2_with (go_at_call 40; refine (works14_any _).mono ?_; rintro e w' ⟨rfl, hbw⟩)
      go_ret
      exact ⟨rfl, HB.trans (hbw.mono HB.size)⟩
theorem lorderWalk (nn r n : Int) (v : ByteArray) (a : Option Addr) (len cap : Nat) (zs : List Int) (w : World) (_ : (Lit.int .i64 nn).wf = true) (_ : (Lit.int .u64 r).wf = true) (_ : (Lit.int .i64 n).wf = true) (_ : v.size ≤ 140737488351232)
    (h : (a = none ∧ len = 0 ∧ cap = 0 ∧ zs = []) ∨ ∃ x, a = some x ∧ len ≤ cap ∧ cap ≤ maxLen ∧ zs.length = cap ∧ (∀ i, i < zs.length → w.cell? (x.add i) = some (.int .u8 (zs.getD i 0))) ∧ ∀ n ∈ zs, (Lit.int .u8 n).wf = true) (_ : len * 1 ≤ 140737488351232) :
    Calls Try.prog 13 #[.int .i64 nn, .agg #[.int .u64 r, .int .i64 n], .string v, .slice a len cap] w fun e w' => e = .returned (.bool true) ∧ Below w.heap.size w w' := by
  by_cases hb : 100 < len ∨ 1024 < v.size
  · exact lorder_big nn r n v a len cap w hb
  · have hb1 : ¬ 100 < len := fun e => hb (.inl e)
    have hb2 : ¬ 1024 < v.size := fun e => hb (.inr e)
    by_cases hn : nn < 1 ∨ 7 < nn
    · exact lorder_bad nn r n v a len cap w hn hb1 hb2
    · obtain ⟨xs, rfl, hx, hr⟩ : ∃ xs : List Int, xs.length = len ∧ U8At w a xs ∧ ∀ z ∈ xs, 0 ≤ z ∧ z ≤ 255 := by
        rcases h with ⟨rfl, rfl, rfl, rfl⟩ | ⟨x, rfl, hl, hm, hz, hc, hw⟩
        · exact ⟨[], rfl, .inl rfl, by simp⟩
        · refine ⟨zs.take len, by simp; omega, ?_, fun z hz => Go.bounds_u8 (hw z (List.mem_of_mem_take hz))⟩
          by_cases h0 : len = 0
          · subst h0; exact .inl (by simp)
          · obtain ⟨b, off, rfl, hc2⟩ := Go.ints_at hc (by omega)
            refine .inr ⟨b, off, rfl, fun j hj => ?_⟩
            rw [List.length_take] at hj
            rw [hc2 j (by omega)]
            congr 2
            rw [List.getD_eq_getElem?_getD, List.getD_eq_getElem?_getD, List.getElem?_take, if_pos (by omega)]
      obtain ⟨N, rfl⟩ : ∃ N : Nat, nn = N := ⟨nn.toNat, by omega⟩
      exact lorder_good N r n v a cap xs w (by omega) (by omega) hb1 hb2 hx hr

end Go.Proofs.Ytlgljcfkoakogaa
