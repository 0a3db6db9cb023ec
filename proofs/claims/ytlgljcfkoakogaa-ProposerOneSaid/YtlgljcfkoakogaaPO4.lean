import Derived.Test.YtlgljcfkoakogaaPO5
import Derived.Test.YtlgljcfkoakogaaD4
namespace Go.Proofs.Ytlgljcfkoakogaa
open Go.RowKit
set_option linter.unusedSimpArgs false
set_option linter.unusedVariables false


open Go.Maps Go.Shelf
theorem named_ok (r n : Int) (h0 : 1 ≤ r) (h1 : r ≤ 1000) (h2 : 0 ≤ n) (h3 : n < 7) : namedB r n = true := by
  unfold namedB mayB
  rw [decide_eq_true h2, decide_eq_true h3, decide_eq_true (show r ≤ 281474976710656 by omega)]
  have : (r == 0) = false := by simp; omega
  rw [this]
  rfl
set_option maxRecDepth 100000
set_option maxHeartbeats 25600000
theorem pone_good (N : Nat) (A C : Option Addr) (ca cc : Nat) (l : List ByteArray) (hs : List Int) (w : World) (g1 : 1 ≤ N) (g7 : N ≤ 7) (h12 : l.length ≤ 12) (h100 : hs.length ≤ 100) (hx : StrsAt w A l) (hm : ∀ v ∈ l, v.size ≤ 140737488351232) (hh : U16At w C hs) (hr : ∀ z ∈ hs, 0 ≤ z ∧ z ≤ 65535) :
    Calls Try.prog 15 #[.int .i64 N, .slice A l.length ca, .slice C hs.length cc] w fun e w' => e = .returned (.bool true) ∧ Below w.heap.size w w' := by
  have HX := Lib.hid hx
  have HH := Lib.hid hh
  have HM := Lib.hid hm
  have n1 : ¬ (N : Int) < 1 := by omega
  have n7 : ¬ (7 : Int) < (N : Int) := by omega
  have n12 : ¬ (12 : Int) < (l.length : Int) := by omega
  have n100 : ¬ (100 : Int) < (hs.length : Int) := by omega
  obtain ⟨i0, hi, iz0, iz1, iz2⟩ := info_parts Try.info44
  clear hx hh hm
  go_enter Try.func15, Try.ntmps15
  go_wp2_with fail
  go_loopw [7, 8] (fun c i wr => ∃ k : Nat, k ≤ l.length ∧ c = .int .i64 (sizes (l.take k) : Nat) ∧ i = .int .i64 k ∧ w = wr) (fun _ i _ => l.length + 1 - (intOf i).toNat)
  case atStart => exact ⟨0, Nat.zero_le _, rfl, rfl, rfl⟩
  case round =>
    obtain ⟨k, hk, rfl, rfl, rfl⟩ := hrel
    have hki : (k : Int) ≤ (l.length : Int) := by omega
    by_cases hlt : k < l.length
    · have hne : (k : Int) < (l.length : Int) := by omega
      obtain ⟨v, hv⟩ : ∃ v, l[k]? = some v := ⟨_, List.getElem?_eq_getElem hlt⟩
      obtain ⟨b, o, rfl, hc⟩ : ∃ b o, A = some ⟨b, o, none⟩ ∧ w.cell? ⟨b, o + k, none⟩ = some (.string v) := by
        rcases HX.out with h0 | ⟨b, o, e, h⟩
        · rw [h0] at hlt; simp at hlt
        · exact ⟨b, o, e, h k v hv⟩
      have htk : sizes (l.take (k + 1)) = sizes (l.take k) + v.size := by
        rw [List.take_add_one, hv]
        exact sizes_snoc _ _
      have hs1 := sizes_bound (l := l.take k) (m := 140737488351232) (fun v hv => HM.out v (List.mem_of_mem_take hv))
      have hs2 := HM.out v (List.mem_of_getElem? hv)
      have hs3 : (l.take k).length ≤ 12 := by rw [List.length_take]; omega
      have hs4 : sizes (l.take k) ≤ 12 * 140737488351232 := Nat.le_trans hs1 (Nat.mul_le_mul_right _ hs3)
      have HTK := Lib.hid htk
      clear hs1 hs3 htk hv
      generalize sizes (l.take k) = z at *
      go_wp2_with fail
      go_roundw
      case rel => exact ⟨k + 1, by omega, by rw [HTK.out]; go_num, by go_num, by first | rfl | trivial⟩
      case measure => simp [intOf]; omega
    · obtain rfl : k = l.length := by omega
      rw [List.take_length]
      by_cases hbig : (4096 : Int) < (sizes l : Int)
      · go_wp2_with (go_at_call 53; refine (works13_any _).mono ?_; rintro e w' ⟨rfl, hbw⟩)
        go_ret
        exact ⟨rfl, hbw⟩
      · have hsm := Lib.hid (show ∀ v ∈ l, v.size ≤ 4096 from fun v hv => by have := sizes_le hv; omega)
        clear hlt hki hk
        generalize sizes l = z at *
        go_wp2_with (at_make; refine wpList_make_full _ rfl _ _ 92 rfl 0 44 i0 (.pointer none) 1 Try.underlying92 hi iz0 iz1 _ _ _ _ N rfl rfl rfl rfl (by rw [iz2]; omega) (by unfold maxLen; omega) (Nat.zero_le _) ?_)
        intro w1 hown hgrow
        have hb1 : Below w.heap.size w w1 := (Below.refl _ _).grown hgrow (Nat.le_refl _) (fun k e => by cases e)
        have hown : w1.ownsRow 0 44 1 (.slice (some ⟨w.heap.size, 0, none⟩) N N) N (List.replicate N (.pointer none)) := by
          have h9 := toList_madeCells_one (.pointer none) N
          rw [← h9]
          simpa using hown
        have hq1 := row_lt4 hown
        clear hgrow hbig
        generalize hB : w1.heap.size = B at *
        go_wp2_with fail
        go_loopw [10] (fun i wr => ∃ (k : Nat) (xs : List Value), k ≤ N ∧ i = .int .i64 k ∧ wr.heap.size = B + k ∧ wr.ownsRow 0 44 1 (.slice (some ⟨w.heap.size, 0, none⟩) N N) N xs ∧ (∀ j, j < N → xs[j]? = some (.pointer (if j < k then some ⟨B + j, 0, none⟩ else none))) ∧ (∀ j, j < k → Bk wr (B + j) Acc.zero.cells 116) ∧ Below w.heap.size w wr) (fun i _ => N + 1 - (intOf i).toNat)
        case atStart =>
          refine ⟨0, _, Nat.zero_le _, rfl, by omega, hown, fun j hj => ?_, fun j hj => by omega, hb1⟩
          rw [List.getElem?_replicate, if_pos hj, if_neg (by omega)]
        case round =>
          obtain ⟨k, xs, hk, rfl, hsz, hrow, hxs, hbk, HB⟩ := hrel
          have hki : (k : Int) ≤ (N : Int) := by omega
          by_cases hlt : k < N
          · have hne : (k : Int) < (N : Int) := by omega
            have hck := (hrow.cellAt k (by omega)).trans (hxs k hlt)
            rw [if_neg (by omega)] at hck
            have hb2 := (Below.refl wr.heap.size wr).alloc (Nat.le_refl _) (.cells Acc.zero.cells 116)
            have hrow2 := hrow.alloc (.cells Acc.zero.cells 116)
            have hck2 := Bel.cell hb2 hck
            have hfk2 := hrow2.frozenAt k
            have hst := (hrow2.stored k (.pointer (some ⟨B + k, 0, none⟩))).1
            have HX2 := Lib.hid hst
            have hq2 := row_lt4 hrow
            clear hst hck hrow hown
            go_wp2_with fail
            refine (accNew_any _).mono ?_
            rintro e w4 ⟨rfl, rfl⟩
            rw [hsz]
            have hBN := Lib.hid (show Bk (wr.alloc (.cells Acc.zero.cells 116)) (B + k) Acc.zero.cells 116 by rw [← hsz]; exact Bk.new _ _ _)
            have hz2 : (wr.alloc (.cells Acc.zero.cells 116)).heap.size = B + (k + 1) := by rw [World.size_alloc, hsz]; omega
            have HBB := Lib.hid (HB.trans (hb2.mono HB.size))
            have HKK := Lib.hid (show ∀ j, j < k → Bk (wr.alloc (.cells Acc.zero.cells 116)) (B + j) Acc.zero.cells 116 from fun j hj => (hbk j hj).alloc _)
            clear hb2 hbk HB
            generalize wr.alloc (.cells Acc.zero.cells 116) = w5 at *
            go_wp2_with fail
            go_roundw
            case rel =>
              refine ⟨k + 1, _, by omega, by go_num, by simpa [World.setCell] using hz2, HX2.out, fun j hj => ?_, fun j hj => ?_, HBB.out.setCell (p := ⟨w.heap.size, k, none⟩) (Nat.le_refl _) _⟩
              · rw [List.getElem?_set]
                by_cases e : k = j
                · subst e
                  have hxl : k < xs.length := by
                    rcases Nat.lt_or_ge k xs.length with h1 | h1
                    · exact h1
                    · have := hxs k hj; rw [List.getElem?_eq_none h1] at this; cases this
                  rw [if_pos rfl, if_pos hxl, if_pos (by omega)]
                · rw [if_neg e, hxs j hj]
                  by_cases e2 : j < k
                  · rw [if_pos e2, if_pos (by omega)]
                  · rw [if_neg e2, if_neg (by omega)]
              · refine Bk.far ?_ (by dsimp only; omega) _
                by_cases e : j = k
                · subst e; exact hBN.out
                · exact HKK.out j (by omega)
            case measure => simp [intOf]; omega
          · obtain rfl : N = k := by omega
            have HN := Lib.hid (show NodesAt wr N w.heap.size B (fun _ => Acc.zero) from ⟨fun j hj => by
              have := (hrow.cellAt j (by omega)).trans (hxs j hj)
              rw [if_pos hj] at this
              exact this, fun j hj => hbk j hj, by omega, by omega⟩)
            have HB0 := Lib.hid HB
            clear hown hb1 hsz hrow hxs hbk HB hk hlt hki
            go_wp2_with fail
            go_loopw [11, 12, 13, 14] (fun c h kk ii wr => ∃ (i m : Nat) (ac : Nat → Acc) (ch : ByteArray) (hz : Bool), i ≤ l.length ∧ m ≤ 2 * i ∧ c = .string ch ∧ h = .bool hz ∧ kk = .int .i64 m ∧ ii = .int .i64 i ∧ Hid (Good N i ac ch hz) ∧ Hid (NodesAt wr N w.heap.size B ac) ∧ Hid (Below w.heap.size w wr)) (fun _ _ _ ii _ => l.length + 1 - (intOf ii).toNat)
            case atStart => exact ⟨0, 0, _, _, _, Nat.zero_le _, Nat.le_refl _, rfl, rfl, rfl, rfl, Lib.hid (good_start N), HN, HB0⟩
            case round =>
              obtain ⟨i, m, ac, ch, hz, hil, hm2, rfl, rfl, rfl, rfl, HG, HNo, HB⟩ := hrel
              clear HN HB0
              have hii : (i : Int) ≤ (l.length : Int) := by omega
              by_cases hlt : i < l.length
              · have hne : (i : Int) < (l.length : Int) := by omega
                obtain ⟨v, hv⟩ : ∃ v, l[i]? = some v := ⟨_, List.getElem?_eq_getElem hlt⟩
                obtain ⟨b, o, rfl, hc⟩ : ∃ b o, A = some ⟨b, o, none⟩ ∧ w.cell? ⟨b, o + i, none⟩ = some (.string v) := by
                  rcases HX.out with h0 | ⟨b, o, e, h⟩
                  · rw [h0] at hlt; simp at hlt
                  · exact ⟨b, o, e, h i v hv⟩
                have hvs := hsm.out v (List.mem_of_getElem? hv)
                have hmod0 : 0 ≤ (i : Int) % 7 := Int.emod_nonneg _ (by decide)
                have hmod7 : (i : Int) % 7 < 7 := Int.emod_lt_of_pos _ (by decide)
                have hi12 : i < 12 := by omega
                have kb := (Below.refl wr.heap.size wr).alloc (Nat.le_refl _) (.cells #[.int .u64 ((i : Int) + 1), .int .i64 ((i : Int) % 7)] 24)
                have K0 := Bk.new wr #[.int .u64 ((i : Int) + 1), .int .i64 ((i : Int) % 7)] 24
                have hcw := Bel.cell kb (Bel.cell HB.out hc)
                have HNo5 := Lib.hid (HNo.out.keep kb)
                have HB5 := Lib.hid (HB.out.trans (kb.mono HB.out.size))
                have htop := HNo.out.top
                clear hv hc HNo HB kb
                go_upto_region 23 with fail
                generalize wr.alloc (.cells #[.int .u64 ((i : Int) + 1), .int .i64 ((i : Int) % 7)] 24) = w5 at K0 hcw HNo5 HB5 ⊢
                generalize wr.heap.size = p at *
                have K0 := Lib.hid K0
                have hpl := K0.out.lt
                have HS := Lib.hid (show ∀ w', Bel w5 w' → w'.cell? ⟨p, 0, none⟩ = some (.int .u64 ((i : Int) + 1)) ∧ w'.cell? ⟨p, 1, none⟩ = some (.int .i64 ((i : Int) % 7)) ∧ w'.cell? ⟨b, o + i, none⟩ = some (.string v) from fun w' hw => ⟨(K0.out.bel hw).cell 0, (K0.out.bel hw).cell 1, Bel.cell hw hcw⟩)
                have hW0 : Bel w5 w5.drew := (Bel.refl w5).drew
                refine wp_aw 12 #[false, false, false, false, false, false, false, false, false, false, false, false] rfl rfl ?_
                refine aw_join 6 ?L23 ?F23 w5.drew (fun END => ?_) ?_
                case refine_1 =>
                  refine awt1 1 0 (o := ({ dst := some 92, op := Go.Op.move (Go.Operand.tmp 0), type := 3, pos := "law.go:151", after := #[], guard := none })) (v := ?_) rfl (by kernel_rfl) (by kernel_rfl) (by kernel_rfl) (fun _ _ _ h => h) (by rfl) (by rfl) (fun ev hc hf h0 W => ?_) ?_; rotate_left; (focus (first | (go_simp; done) | (go_simp; with_reducible rfl))); rotate_left; simp only [Act.put, List.setIfInBounds_toArray, List.set_cons_zero, List.set_cons_succ]
                  refine awt1 2 1 (o := ({ dst := some 93, op := Go.Op.move (Go.Operand.tmp 1), type := 90, pos := "law.go:151", after := #[], guard := none })) (v := ?_) rfl (by kernel_rfl) (by kernel_rfl) (by kernel_rfl) (fun _ _ _ h => h) (by rfl) (by rfl) (fun ev hc hf h0 W => ?_) ?_; rotate_left; (focus (first | (go_simp; done) | (go_simp; with_reducible rfl))); rotate_left; simp only [Act.put, List.setIfInBounds_toArray, List.set_cons_zero, List.set_cons_succ]
                  refine awt1 3 14 (o := ({ dst := some 94, op := Go.Op.move (Go.Operand.tmp 14), type := 3, pos := "law.go:151", after := #[], guard := none })) (v := ?_) rfl (by kernel_rfl) (by kernel_rfl) (by kernel_rfl) (fun _ _ _ h => h) (by rfl) (by rfl) (fun ev hc hf h0 W => ?_) ?_; rotate_left; (focus (first | (go_simp; done) | (go_simp; with_reducible rfl))); rotate_left; simp only [Act.put, List.setIfInBounds_toArray, List.set_cons_zero, List.set_cons_succ]
                  refine awt2 4 93 94 (o := ({ dst := some 95, op := Go.Op.indexAddr 90 (Go.Operand.tmp 93) (Go.Operand.tmp 94), type := 0, pos := "law.go:151", after := #[{ on := 2, ground := Go.Ground.data }, { on := 3, ground := Go.Ground.data }], guard := none })) (v := ?_) rfl (by kernel_rfl) (by kernel_rfl) (by kernel_rfl) (fun _ _ _ h => h) (by rfl) (by rfl) (by rfl) (fun ev hc hf h0 h1 W => ?_) ?_; rotate_left; (focus (first | (go_simp; done) | (go_simp; with_reducible rfl))); rotate_left; simp only [Act.put, List.setIfInBounds_toArray, List.set_cons_zero, List.set_cons_succ]
                  refine aw_all [0, 5] (by kernel_rfl) (by simp) ?_
                  refine arv1 (o := ({ dst := some 91, op := Go.Op.load 24 (Go.Operand.tmp 15), type := 24, pos := "law.go:151", after := #[], guard := none })) 15 (v := ?_) (W' := ?_) rfl (by rfl) (by rfl) (fun ev hc hf h0 => ?_) ?_ ?_; rotate_left 2; (focus (obtain ⟨e0, e1, e2⟩ := HS.out _ hW0; first | (go_simp; done) | (go_simp; with_reducible rfl) | (go_simp; constructor <;> with_reducible rfl)))
                  · simp only [Act.put, List.setIfInBounds_toArray, List.set_cons_zero, List.set_cons_succ]
                    refine aw_all [5] (by kernel_rfl) (by simp) ?_
                    refine arv1 (o := ({ dst := some 96, op := Go.Op.load 9 (Go.Operand.tmp 95), type := 9, pos := "law.go:151", after := #[{ on := 4, ground := Go.Ground.data }], guard := none })) 95 (v := ?_) (W' := ?_) rfl (by rfl) (by rfl) (fun ev hc hf h0 => ?_) ?_ ?_; rotate_left 2; (focus (obtain ⟨e0, e1, e2⟩ := HS.out _ hW0; first | (go_simp; done) | (go_simp; with_reducible rfl) | (go_simp; constructor <;> with_reducible rfl)))
                    · simp only [Act.put, List.setIfInBounds_toArray, List.set_cons_zero, List.set_cons_succ]
                      exact END
                    exact ar_nil
                  refine arv1 (o := ({ dst := some 96, op := Go.Op.load 9 (Go.Operand.tmp 95), type := 9, pos := "law.go:151", after := #[{ on := 4, ground := Go.Ground.data }], guard := none })) 95 (v := ?_) (W' := ?_) rfl (by rfl) (by rfl) (fun ev hc hf h0 => ?_) ?_ ?_; rotate_left 2; (focus (obtain ⟨e0, e1, e2⟩ := HS.out _ hW0; first | (go_simp; done) | (go_simp; with_reducible rfl) | (go_simp; constructor <;> with_reducible rfl)))
                  · simp only [Act.put, List.setIfInBounds_toArray, List.set_cons_zero, List.set_cons_succ]
                    refine aw_all [0] (by kernel_rfl) (by simp) ?_
                    refine arv1 (o := ({ dst := some 91, op := Go.Op.load 24 (Go.Operand.tmp 15), type := 24, pos := "law.go:151", after := #[], guard := none })) 15 (v := ?_) (W' := ?_) rfl (by rfl) (by rfl) (fun ev hc hf h0 => ?_) ?_ ?_; rotate_left 2; (focus (obtain ⟨e0, e1, e2⟩ := HS.out _ hW0; first | (go_simp; done) | (go_simp; with_reducible rfl) | (go_simp; constructor <;> with_reducible rfl)))
                    · simp only [Act.put, List.setIfInBounds_toArray, List.set_cons_zero, List.set_cons_succ]
                      exact END
                    exact ar_nil
                  exact ar_nil
                refine aw_all [6] (by kernel_rfl) (by simp) ?_
                refine arcx3 (o := ({ dst := some 97, op := Go.Op.call { callee := Go.Callee.value (Go.Operand.func 54), args := #[Go.Operand.tmp 91, Go.Operand.tmp 92, Go.Operand.tmp 96], argTypes := #[24, 3, 9] }, type := 93, pos := "law.go:151", after := #[{ on := 0, ground := Go.Ground.data }, { on := 1, ground := Go.Ground.data }, { on := 5, ground := Go.Ground.data }], guard := none })) (R := fun vv w6 => ∃ g pm am, vv = .tuple #[.pointer (some ⟨g, 0, none⟩), .int .i64 0] ∧ PropAt w6 g pm am (.slice none 0 0) (prpNew ((i : Int) + 1) ((i : Int) % 7) N v) ∧ w5.heap.size ≤ g ∧ w5.heap.size ≤ pm ∧ w5.heap.size ≤ am ∧ Below w5.heap.size w5 w6) 91 92 96 _ _ rfl (by rfl) (by rfl) (by rfl) (by rfl) (fun ev hc hf h0 h1 h2 => ?_) ((pnew_good ((i : Int) + 1) ((i : Int) % 7) N v w5.drew (named_ok _ _ (by omega) (by omega) hmod0 hmod7) g1 g7 (by omega)).mono fun e W' ⟨g, pm, am, a1, a2, a3, a4, a5, a6⟩ => ⟨_, a1, g, pm, am, rfl, a2, a3, a4, a5, (Below.refl w5.heap.size w5).drew.trans a6⟩) (fun vv w6 hc6 => ?_) ?_
                · focus (go_simp; done)
                · obtain ⟨g, pm, am, rfl, hP, hg, hp, ha, hb6⟩ := hc6
                  simp only [Act.put, List.setIfInBounds_toArray, List.set_cons_zero, List.set_cons_succ]
                  refine awt1 7 97 (o := ({ dst := some 90, op := Go.Op.move (Go.Operand.tmp 97), type := 93, pos := "law.go:151", after := #[{ on := 6, ground := Go.Ground.data }], guard := none })) (v := ?_) rfl (by kernel_rfl) (by kernel_rfl) (by kernel_rfl) (fun _ _ _ h => h) (by rfl) (by rfl) (fun ev hc hf h0 W => ?_) ?_; rotate_left; (focus (first | (go_simp; done) | (go_simp; with_reducible rfl))); rotate_left; simp only [Act.put, List.setIfInBounds_toArray, List.set_cons_zero, List.set_cons_succ]
                  refine awt1 8 90 (o := ({ dst := some 98, op := Go.Op.extract (Go.Operand.tmp 90) 0, type := 86, pos := "law.go:151", after := #[{ on := 7, ground := Go.Ground.data }], guard := none })) (v := ?_) rfl (by kernel_rfl) (by kernel_rfl) (by kernel_rfl) (fun _ _ _ h => h) (by rfl) (by rfl) (fun ev hc hf h0 W => ?_) ?_; rotate_left; (focus (first | (go_simp; done) | (go_simp; with_reducible rfl))); rotate_left; simp only [Act.put, List.setIfInBounds_toArray, List.set_cons_zero, List.set_cons_succ]
                  refine awt1 9 90 (o := ({ dst := some 99, op := Go.Op.extract (Go.Operand.tmp 90) 1, type := 30, pos := "law.go:151", after := #[{ on := 7, ground := Go.Ground.data }, { on := 10, ground := Go.Ground.gcOnly Go.Departure.lateStores }], guard := none })) (v := ?_) rfl (by kernel_rfl) (by kernel_rfl) (by kernel_rfl) (fun _ _ _ h => h) (by rfl) (by rfl) (fun ev hc hf h0 W => ?_) ?_; rotate_left; (focus (first | (go_simp; done) | (go_simp; with_reducible rfl))); rotate_left; simp only [Act.put, List.setIfInBounds_toArray, List.set_cons_zero, List.set_cons_succ]
                  refine awt1 10 98 (o := ({ dst := some 16, op := Go.Op.assign (Go.Operand.tmp 98), type := 86, pos := "law.go:151", after := #[{ on := 8, ground := Go.Ground.data }, { on := 6, ground := Go.Ground.chain }, { on := 0, ground := Go.Ground.phase }, { on := 1, ground := Go.Ground.phase }, { on := 2, ground := Go.Ground.phase }, { on := 3, ground := Go.Ground.phase }, { on := 4, ground := Go.Ground.phase }, { on := 5, ground := Go.Ground.phase }, { on := 6, ground := Go.Ground.phase }, { on := 7, ground := Go.Ground.phase }, { on := 8, ground := Go.Ground.phase }, { on := 9, ground := Go.Ground.textOnly Go.Departure.lateStores }], guard := none })) (v := ?_) rfl (by kernel_rfl) (by kernel_rfl) (by kernel_rfl) (fun _ _ _ h => h) (by rfl) (by rfl) (fun ev hc hf h0 W => ?_) ?_; rotate_left; (focus (first | (go_simp; done) | (go_simp; with_reducible rfl))); rotate_left; simp only [Act.put, List.setIfInBounds_toArray, List.set_cons_zero, List.set_cons_succ]
                  refine awt1 11 99 (o := ({ dst := some 17, op := Go.Op.assign (Go.Operand.tmp 99), type := 30, pos := "law.go:151", after := #[{ on := 9, ground := Go.Ground.data }, { on := 10, ground := Go.Ground.chain }, { on := 0, ground := Go.Ground.phase }, { on := 1, ground := Go.Ground.phase }, { on := 2, ground := Go.Ground.phase }, { on := 3, ground := Go.Ground.phase }, { on := 4, ground := Go.Ground.phase }, { on := 5, ground := Go.Ground.phase }, { on := 6, ground := Go.Ground.phase }, { on := 7, ground := Go.Ground.phase }, { on := 8, ground := Go.Ground.phase }, { on := 9, ground := Go.Ground.phase }, { on := 10, ground := Go.Ground.phase }], guard := none })) (v := ?_) rfl (by kernel_rfl) (by kernel_rfl) (by kernel_rfl) (fun _ _ _ h => h) (by rfl) (by rfl) (fun ev hc hf h0 W => ?_) ?_; rotate_left; (focus (first | (go_simp; done) | (go_simp; with_reducible rfl))); rotate_left; simp only [Act.put, List.setIfInBounds_toArray, List.set_cons_zero, List.set_cons_succ]
                  refine aw_done (by kernel_rfl) ?_
                  have K6 := Lib.hid (K0.out.bel (show Bel w5 w6 from hb6))
                  have HNo6 := Lib.hid (HNo5.out.keep (show Bel w5 w6 from hb6))
                  have HB6 := Lib.hid (HB5.out.trans (Below.mono (show Bel w5 w6 from hb6) HB5.out.size))
                  have hg : w5.heap.size ≤ g := hg
                  have hp : w5.heap.size ≤ pm := hp
                  have ha : w5.heap.size ≤ am := ha
                  have hw56 : w5.heap.size ≤ w6.heap.size := hb6.size
                  have HP := Lib.hid hP
                  clear hb6 hP HS hW0 K0 HNo5 HB5 hcw
                  go_wp2_with fail
                  go_loopw [18] (fun jj wr => ∃ (j : Nat) (ac2 : Nat → Acc) (s : Value) (P : Prp), j ≤ N ∧ jj = .int .i64 j ∧ Hid (InPrep N ((i : Int) + 1) ((i : Int) % 7) v j ac2 ch hz P) ∧ Hid (NodesAt wr N w.heap.size B ac2) ∧ Hid (PropAt wr g pm am s P) ∧ Hid (Bk wr p #[.int .u64 ((i : Int) + 1), .int .i64 ((i : Int) % 7)] 24) ∧ (∀ k, s.ownBlock = some k → p + 1 ≤ k) ∧ Hid (Below w.heap.size w wr)) (fun jj _ => N + 1 - (intOf jj).toNat)
                  case atStart => exact ⟨0, ac, _, _, Nat.zero_le _, rfl, Lib.hid (prep_start HG.out), HNo6, HP, K6, (fun k hk => by cases hk), HB6⟩
                  case round =>
                    obtain ⟨j, ac2, s, P, hjN, rfl, HI, HNo7, HP7, K7, hs7, HB7⟩ := hrel
                    clear HNo6 HP K6 HB6
                    have hji : (j : Int) ≤ (N : Int) := by omega
                    by_cases hjlt : j < N
                    · have hjne : (j : Int) < (N : Int) := by omega
                      by_cases hmh : m < hs.length
                      · have hmi : (m : Int) < (hs.length : Int) := by omega
                        obtain ⟨b2, o2, rfl, hc2⟩ : ∃ b2 o2, C = some ⟨b2, o2, none⟩ ∧ w.cell? ⟨b2, o2 + m, none⟩ = some (.int .u16 (hs.getD m 0)) := by
                          rcases HH.out with h0 | ⟨b2, o2, e, h⟩
                          · rw [h0] at hmh; simp at hmh
                          · exact ⟨b2, o2, e, h m hmh⟩
                        have hcr := Bel.cell HB7.out hc2
                        have hzr := hr (hs.getD m 0) (by rw [List.getD_eq_getElem?_getD, List.getElem?_eq_getElem hmh]; exact List.getElem_mem hmh)
                        clear hc2
                        generalize hs.getD m 0 = zz at hcr hzr
                        obtain ⟨zz0, zz1⟩ := hzr
                        go_upto_region 30 with fail
                        · refine ⟨⟨j + 1, ac2, s, P, by omega, by go_num, Lib.hid HI.out.skip, HNo7, HP7, K7, hs7, HB7⟩, ?_⟩
                          simp [intOf]
                          omega
                        · have HS := Lib.hid (show ∀ w', Bel wr w' → w'.cell? ⟨w.heap.size, j, none⟩ = some (.pointer (some ⟨B + j, 0, none⟩)) ∧ w'.cell? ⟨p, 0, none⟩ = some (.int .u64 ((i : Int) + 1)) ∧ w'.cell? ⟨p, 1, none⟩ = some (.int .i64 ((i : Int) % 7)) from fun w' hw => ⟨(HNo7.out.keep hw).row j hjlt, (K7.out.bel hw).cell 0, (K7.out.bel hw).cell 1⟩)
                          have hnamed : namedB ((i : Int) + 1) ((i : Int) % 7) = true := named_ok _ _ (by omega) (by omega) hmod0 hmod7
                          have HPREP := Lib.hid (show ∀ W, Bel wr W → Calls Try.prog 29 #[.pointer (some ⟨B + j, 0, none⟩), .agg #[.int .u64 ((i : Int) + 1), .int .i64 ((i : Int) % 7)]] W fun e W' => e = .returned (.tuple #[.bool true, .agg #[.bool (ac2 j).has, .int .u64 (ac2 j).vr, .int .i64 (ac2 j).vn, .string (ac2 j).val], .int .i64 0]) ∧ (Bk W' (B + j) ((ac2 j).promise ((i : Int) + 1) ((i : Int) % 7)).cells 116 ∧ W.grownBy W' (some (B + j))) from fun W hW => by
                            have h9 := prepare_any (B + j) (ac2 j) ((i : Int) + 1) ((i : Int) % 7) W ((HNo7.out.node j hjlt).bel hW)
                            unfold PrepPost at h9
                            rw [prep_ok HI.out hjlt hnamed] at h9
                            exact h9)
                          have hW0 : Bel wr wr.drew := (Bel.refl wr).drew
                          have htop7 := HNo7.out.top
                          refine wp_aw 14 #[false, false, false, false, false, false, false, false, false, false, false, false, false, false] rfl rfl ?_
                          refine aw_meet 3 ?L30A ?F30A (C := fun gg W => W.heap[gg]? = some (.cells #[.bool false, .int .u64 0, .int .i64 0, .string ⟨#[]⟩] 46 (0, 0)) ∧ wr.heap.size ≤ gg ∧ Kept (fun k => k = B + j) wr W ∧ Bk W (B + j) ((ac2 j).promise ((i : Int) + 1) ((i : Int) % 7)).cells 116) (fun END => ?_) ?_
                          case refine_1 =>
                            refine awt1 0 9 (o := ({ dst := some 127, op := Go.Op.move (Go.Operand.tmp 9), type := 92, pos := "law.go:159", after := #[], guard := none })) (v := ?_) rfl (by kernel_rfl) (by kernel_rfl) (by kernel_rfl) (fun _ _ _ h => h) (by rfl) (by rfl) (fun ev hc hf h0 W => ?_) ?_; rotate_left; (focus (first | (go_simp; done) | (go_simp; with_reducible rfl))); rotate_left; simp only [Act.put, List.setIfInBounds_toArray, List.set_cons_zero, List.set_cons_succ]
                            refine awt1 1 18 (o := ({ dst := some 128, op := Go.Op.move (Go.Operand.tmp 18), type := 3, pos := "law.go:159", after := #[], guard := none })) (v := ?_) rfl (by kernel_rfl) (by kernel_rfl) (by kernel_rfl) (fun _ _ _ h => h) (by rfl) (by rfl) (fun ev hc hf h0 W => ?_) ?_; rotate_left; (focus (first | (go_simp; done) | (go_simp; with_reducible rfl))); rotate_left; simp only [Act.put, List.setIfInBounds_toArray, List.set_cons_zero, List.set_cons_succ]
                            refine awt2 2 127 128 (o := ({ dst := some 129, op := Go.Op.indexAddr 92 (Go.Operand.tmp 127) (Go.Operand.tmp 128), type := 0, pos := "law.go:159", after := #[{ on := 0, ground := Go.Ground.data }, { on := 1, ground := Go.Ground.data }], guard := none })) (v := ?_) rfl (by kernel_rfl) (by kernel_rfl) (by kernel_rfl) (fun _ _ _ h => h) (by rfl) (by rfl) (by rfl) (fun ev hc hf h0 h1 W => ?_) ?_; rotate_left; (focus (first | (go_simp; done) | (go_simp; with_reducible rfl))); rotate_left; simp only [Act.put, List.setIfInBounds_toArray, List.set_cons_zero, List.set_cons_succ]
                            refine aw_all [3, 4, 10] (by kernel_rfl) (by simp) ?_
                            refine arv1 (o := ({ dst := some 130, op := Go.Op.load 44 (Go.Operand.tmp 129), type := 44, pos := "law.go:159", after := #[{ on := 2, ground := Go.Ground.data }], guard := none })) 129 (v := ?_) (W' := ?_) rfl (by rfl) (by rfl) (fun ev hc hf h0 => ?_) ?_ ?_; rotate_left 2; (focus (obtain ⟨e0, e1, e2⟩ := HS.out _ hW0; first | (go_simp; done) | (go_simp; with_reducible rfl) | (go_simp; constructor <;> with_reducible rfl)))
                            · simp only [Act.put, List.setIfInBounds_toArray, List.set_cons_zero, List.set_cons_succ]
                              refine aw_all [4, 10] (by kernel_rfl) (by simp) ?_
                              refine arv1 (o := ({ dst := some 131, op := Go.Op.load 24 (Go.Operand.tmp 15), type := 24, pos := "law.go:159", after := #[], guard := none })) 15 (v := ?_) (W' := ?_) rfl (by rfl) (by rfl) (fun ev hc hf h0 => ?_) ?_ ?_; rotate_left 2; (focus (obtain ⟨e0, e1, e2⟩ := HS.out _ hW0; first | (go_simp; done) | (go_simp; with_reducible rfl) | (go_simp; constructor <;> with_reducible rfl)))
                              · simp only [Act.put, List.setIfInBounds_toArray, List.set_cons_zero, List.set_cons_succ]
                                refine aw_all [5, 10] (by kernel_rfl) (by simp) ?_
                                refine arc2 (o := ({ dst := some 132, op := Go.Op.call { callee := Go.Callee.value (Go.Operand.func 29), args := #[Go.Operand.tmp 130, Go.Operand.tmp 131], argTypes := #[44, 24] }, type := 47, pos := "law.go:159", after := #[{ on := 3, ground := Go.Ground.data }, { on := 4, ground := Go.Ground.data }], guard := none })) 130 131 _ _ _ rfl (by rfl) (by rfl) (by rfl) (fun ev hc hf h0 h1 => ?_) (HPREP.out _ hW0) (fun W3 hc3 => ?_) ?_
                                · focus (go_simp; done)
                                · simp only [Act.put, List.setIfInBounds_toArray, List.set_cons_zero, List.set_cons_succ]
                                  refine awt1 6 132 (o := ({ dst := some 126, op := Go.Op.move (Go.Operand.tmp 132), type := 47, pos := "law.go:159", after := #[{ on := 5, ground := Go.Ground.data }], guard := none })) (v := ?_) rfl (by kernel_rfl) (by kernel_rfl) (by kernel_rfl) (fun _ _ _ h => h) (by rfl) (by rfl) (fun ev hc hf h0 W => ?_) ?_; rotate_left; (focus (first | (go_simp; done) | (go_simp; with_reducible rfl))); rotate_left; simp only [Act.put, List.setIfInBounds_toArray, List.set_cons_zero, List.set_cons_succ]
                                  refine awt1 7 126 (o := ({ dst := some 133, op := Go.Op.extract (Go.Operand.tmp 126) 0, type := 4, pos := "law.go:159", after := #[{ on := 6, ground := Go.Ground.data }], guard := none })) (v := ?_) rfl (by kernel_rfl) (by kernel_rfl) (by kernel_rfl) (fun _ _ _ h => h) (by rfl) (by rfl) (fun ev hc hf h0 W => ?_) ?_; rotate_left; (focus (first | (go_simp; done) | (go_simp; with_reducible rfl))); rotate_left; simp only [Act.put, List.setIfInBounds_toArray, List.set_cons_zero, List.set_cons_succ]
                                  refine awt1 8 126 (o := ({ dst := some 134, op := Go.Op.extract (Go.Operand.tmp 126) 1, type := 46, pos := "law.go:159", after := #[{ on := 6, ground := Go.Ground.data }, { on := 11, ground := Go.Ground.gcOnly Go.Departure.lateStores }], guard := none })) (v := ?_) rfl (by kernel_rfl) (by kernel_rfl) (by kernel_rfl) (fun _ _ _ h => h) (by rfl) (by rfl) (fun ev hc hf h0 W => ?_) ?_; rotate_left; (focus (first | (go_simp; done) | (go_simp; with_reducible rfl))); rotate_left; simp only [Act.put, List.setIfInBounds_toArray, List.set_cons_zero, List.set_cons_succ]
                                  refine awt1 9 126 (o := ({ dst := some 135, op := Go.Op.extract (Go.Operand.tmp 126) 2, type := 30, pos := "law.go:159", after := #[{ on := 6, ground := Go.Ground.data }, { on := 12, ground := Go.Ground.gcOnly Go.Departure.lateStores }], guard := none })) (v := ?_) rfl (by kernel_rfl) (by kernel_rfl) (by kernel_rfl) (fun _ _ _ h => h) (by rfl) (by rfl) (fun ev hc hf h0 W => ?_) ?_; rotate_left; (focus (first | (go_simp; done) | (go_simp; with_reducible rfl))); rotate_left; simp only [Act.put, List.setIfInBounds_toArray, List.set_cons_zero, List.set_cons_succ]
                                  refine aw_all [10] (by kernel_rfl) (by simp) ?_
                                  refine ar_alloc (o := ({ dst := some 20, op := Go.Op.alloc 46, type := 0, pos := "law.go:159", after := #[], guard := none })) rfl (by rfl) (fun ev => rfl) (Bel.refl _) (fun g4 W4 hg4 hW4 hgo4 => ?_) ?_
                                  · simp only [Act.put, List.setIfInBounds_toArray, List.set_cons_zero, List.set_cons_succ]
                                    exact END g4 W4 ⟨hgo4, Nat.le_trans (Nat.le_trans (show Bel wr _ from hW0).size hc3.2.size) hg4, ((show Kept (fun k => k = B + j) wr _ from Kept.of_below (show Bel wr _ from hW0)).grownF hc3.2 (fun k e => by injection e with e; exact .inl e.symm)).trans (Kept.of_below hW4), hc3.1.bel hW4⟩
                                  exact ar_nil
                                refine ar_alloc (o := ({ dst := some 20, op := Go.Op.alloc 46, type := 0, pos := "law.go:159", after := #[], guard := none })) rfl (by rfl) (fun ev => rfl) hW0 (fun g5 W5 hg5 hW5 hgo5 => ?_) ?_
                                · simp only [Act.put, List.setIfInBounds_toArray, List.set_cons_zero, List.set_cons_succ]
                                  refine aw_all [5] (by kernel_rfl) (by simp) ?_
                                  refine arc2 (o := ({ dst := some 132, op := Go.Op.call { callee := Go.Callee.value (Go.Operand.func 29), args := #[Go.Operand.tmp 130, Go.Operand.tmp 131], argTypes := #[44, 24] }, type := 47, pos := "law.go:159", after := #[{ on := 3, ground := Go.Ground.data }, { on := 4, ground := Go.Ground.data }], guard := none })) 130 131 _ _ _ rfl (by rfl) (by rfl) (by rfl) (fun ev hc hf h0 h1 => ?_) (HPREP.out _ hW5) (fun W6 hc6 => ?_) ?_
                                  · focus (go_simp; done)
                                  · simp only [Act.put, List.setIfInBounds_toArray, List.set_cons_zero, List.set_cons_succ]
                                    refine awt1 6 132 (o := ({ dst := some 126, op := Go.Op.move (Go.Operand.tmp 132), type := 47, pos := "law.go:159", after := #[{ on := 5, ground := Go.Ground.data }], guard := none })) (v := ?_) rfl (by kernel_rfl) (by kernel_rfl) (by kernel_rfl) (fun _ _ _ h => h) (by rfl) (by rfl) (fun ev hc hf h0 W => ?_) ?_; rotate_left; (focus (first | (go_simp; done) | (go_simp; with_reducible rfl))); rotate_left; simp only [Act.put, List.setIfInBounds_toArray, List.set_cons_zero, List.set_cons_succ]
                                    refine awt1 7 126 (o := ({ dst := some 133, op := Go.Op.extract (Go.Operand.tmp 126) 0, type := 4, pos := "law.go:159", after := #[{ on := 6, ground := Go.Ground.data }], guard := none })) (v := ?_) rfl (by kernel_rfl) (by kernel_rfl) (by kernel_rfl) (fun _ _ _ h => h) (by rfl) (by rfl) (fun ev hc hf h0 W => ?_) ?_; rotate_left; (focus (first | (go_simp; done) | (go_simp; with_reducible rfl))); rotate_left; simp only [Act.put, List.setIfInBounds_toArray, List.set_cons_zero, List.set_cons_succ]
                                    refine awt1 8 126 (o := ({ dst := some 134, op := Go.Op.extract (Go.Operand.tmp 126) 1, type := 46, pos := "law.go:159", after := #[{ on := 6, ground := Go.Ground.data }, { on := 11, ground := Go.Ground.gcOnly Go.Departure.lateStores }], guard := none })) (v := ?_) rfl (by kernel_rfl) (by kernel_rfl) (by kernel_rfl) (fun _ _ _ h => h) (by rfl) (by rfl) (fun ev hc hf h0 W => ?_) ?_; rotate_left; (focus (first | (go_simp; done) | (go_simp; with_reducible rfl))); rotate_left; simp only [Act.put, List.setIfInBounds_toArray, List.set_cons_zero, List.set_cons_succ]
                                    refine awt1 9 126 (o := ({ dst := some 135, op := Go.Op.extract (Go.Operand.tmp 126) 2, type := 30, pos := "law.go:159", after := #[{ on := 6, ground := Go.Ground.data }, { on := 12, ground := Go.Ground.gcOnly Go.Departure.lateStores }], guard := none })) (v := ?_) rfl (by kernel_rfl) (by kernel_rfl) (by kernel_rfl) (fun _ _ _ h => h) (by rfl) (by rfl) (fun ev hc hf h0 W => ?_) ?_; rotate_left; (focus (first | (go_simp; done) | (go_simp; with_reducible rfl))); rotate_left; simp only [Act.put, List.setIfInBounds_toArray, List.set_cons_zero, List.set_cons_succ]
                                    exact END g5 W6 ⟨(hc6.2.block _ (Array.getElem?_eq_some_iff.1 hgo5).1 (by have := hg5; simp; omega)).trans hgo5, hg5, ((show Kept (fun k => k = B + j) wr _ from Kept.of_below (show Bel wr _ from hW5)).grownF hc6.2 (fun k e => by injection e with e; exact .inl e.symm)), hc6.1⟩
                                  exact ar_nil
                                exact ar_nil
                              refine ar_alloc (o := ({ dst := some 20, op := Go.Op.alloc 46, type := 0, pos := "law.go:159", after := #[], guard := none })) rfl (by rfl) (fun ev => rfl) hW0 (fun g7 W7 hg7 hW7 hgo7 => ?_) ?_
                              · simp only [Act.put, List.setIfInBounds_toArray, List.set_cons_zero, List.set_cons_succ]
                                refine aw_all [4] (by kernel_rfl) (by simp) ?_
                                refine arv1 (o := ({ dst := some 131, op := Go.Op.load 24 (Go.Operand.tmp 15), type := 24, pos := "law.go:159", after := #[], guard := none })) 15 (v := ?_) (W' := ?_) rfl (by rfl) (by rfl) (fun ev hc hf h0 => ?_) ?_ ?_; rotate_left 2; (focus (obtain ⟨e0, e1, e2⟩ := HS.out _ hW7; first | (go_simp; done) | (go_simp; with_reducible rfl) | (go_simp; constructor <;> with_reducible rfl)))
                                · simp only [Act.put, List.setIfInBounds_toArray, List.set_cons_zero, List.set_cons_succ]
                                  refine aw_all [5] (by kernel_rfl) (by simp) ?_
                                  refine arc2 (o := ({ dst := some 132, op := Go.Op.call { callee := Go.Callee.value (Go.Operand.func 29), args := #[Go.Operand.tmp 130, Go.Operand.tmp 131], argTypes := #[44, 24] }, type := 47, pos := "law.go:159", after := #[{ on := 3, ground := Go.Ground.data }, { on := 4, ground := Go.Ground.data }], guard := none })) 130 131 _ _ _ rfl (by rfl) (by rfl) (by rfl) (fun ev hc hf h0 h1 => ?_) (HPREP.out _ hW7) (fun W9 hc9 => ?_) ?_
                                  · focus (go_simp; done)
                                  · simp only [Act.put, List.setIfInBounds_toArray, List.set_cons_zero, List.set_cons_succ]
                                    refine awt1 6 132 (o := ({ dst := some 126, op := Go.Op.move (Go.Operand.tmp 132), type := 47, pos := "law.go:159", after := #[{ on := 5, ground := Go.Ground.data }], guard := none })) (v := ?_) rfl (by kernel_rfl) (by kernel_rfl) (by kernel_rfl) (fun _ _ _ h => h) (by rfl) (by rfl) (fun ev hc hf h0 W => ?_) ?_; rotate_left; (focus (first | (go_simp; done) | (go_simp; with_reducible rfl))); rotate_left; simp only [Act.put, List.setIfInBounds_toArray, List.set_cons_zero, List.set_cons_succ]
                                    refine awt1 7 126 (o := ({ dst := some 133, op := Go.Op.extract (Go.Operand.tmp 126) 0, type := 4, pos := "law.go:159", after := #[{ on := 6, ground := Go.Ground.data }], guard := none })) (v := ?_) rfl (by kernel_rfl) (by kernel_rfl) (by kernel_rfl) (fun _ _ _ h => h) (by rfl) (by rfl) (fun ev hc hf h0 W => ?_) ?_; rotate_left; (focus (first | (go_simp; done) | (go_simp; with_reducible rfl))); rotate_left; simp only [Act.put, List.setIfInBounds_toArray, List.set_cons_zero, List.set_cons_succ]
                                    refine awt1 8 126 (o := ({ dst := some 134, op := Go.Op.extract (Go.Operand.tmp 126) 1, type := 46, pos := "law.go:159", after := #[{ on := 6, ground := Go.Ground.data }, { on := 11, ground := Go.Ground.gcOnly Go.Departure.lateStores }], guard := none })) (v := ?_) rfl (by kernel_rfl) (by kernel_rfl) (by kernel_rfl) (fun _ _ _ h => h) (by rfl) (by rfl) (fun ev hc hf h0 W => ?_) ?_; rotate_left; (focus (first | (go_simp; done) | (go_simp; with_reducible rfl))); rotate_left; simp only [Act.put, List.setIfInBounds_toArray, List.set_cons_zero, List.set_cons_succ]
                                    refine awt1 9 126 (o := ({ dst := some 135, op := Go.Op.extract (Go.Operand.tmp 126) 2, type := 30, pos := "law.go:159", after := #[{ on := 6, ground := Go.Ground.data }, { on := 12, ground := Go.Ground.gcOnly Go.Departure.lateStores }], guard := none })) (v := ?_) rfl (by kernel_rfl) (by kernel_rfl) (by kernel_rfl) (fun _ _ _ h => h) (by rfl) (by rfl) (fun ev hc hf h0 W => ?_) ?_; rotate_left; (focus (first | (go_simp; done) | (go_simp; with_reducible rfl))); rotate_left; simp only [Act.put, List.setIfInBounds_toArray, List.set_cons_zero, List.set_cons_succ]
                                    exact END g7 W9 ⟨(hc9.2.block _ (Array.getElem?_eq_some_iff.1 hgo7).1 (by have := hg7; simp; omega)).trans hgo7, hg7, ((show Kept (fun k => k = B + j) wr _ from Kept.of_below (show Bel wr _ from hW7)).grownF hc9.2 (fun k e => by injection e with e; exact .inl e.symm)), hc9.1⟩
                                  exact ar_nil
                                exact ar_nil
                              exact ar_nil
                            refine arv1 (o := ({ dst := some 131, op := Go.Op.load 24 (Go.Operand.tmp 15), type := 24, pos := "law.go:159", after := #[], guard := none })) 15 (v := ?_) (W' := ?_) rfl (by rfl) (by rfl) (fun ev hc hf h0 => ?_) ?_ ?_; rotate_left 2; (focus (obtain ⟨e0, e1, e2⟩ := HS.out _ hW0; first | (go_simp; done) | (go_simp; with_reducible rfl) | (go_simp; constructor <;> with_reducible rfl)))
                            · simp only [Act.put, List.setIfInBounds_toArray, List.set_cons_zero, List.set_cons_succ]
                              refine aw_all [3, 10] (by kernel_rfl) (by simp) ?_
                              refine arv1 (o := ({ dst := some 130, op := Go.Op.load 44 (Go.Operand.tmp 129), type := 44, pos := "law.go:159", after := #[{ on := 2, ground := Go.Ground.data }], guard := none })) 129 (v := ?_) (W' := ?_) rfl (by rfl) (by rfl) (fun ev hc hf h0 => ?_) ?_ ?_; rotate_left 2; (focus (obtain ⟨e0, e1, e2⟩ := HS.out _ hW0; first | (go_simp; done) | (go_simp; with_reducible rfl) | (go_simp; constructor <;> with_reducible rfl)))
                              · simp only [Act.put, List.setIfInBounds_toArray, List.set_cons_zero, List.set_cons_succ]
                                refine aw_all [5, 10] (by kernel_rfl) (by simp) ?_
                                refine arc2 (o := ({ dst := some 132, op := Go.Op.call { callee := Go.Callee.value (Go.Operand.func 29), args := #[Go.Operand.tmp 130, Go.Operand.tmp 131], argTypes := #[44, 24] }, type := 47, pos := "law.go:159", after := #[{ on := 3, ground := Go.Ground.data }, { on := 4, ground := Go.Ground.data }], guard := none })) 130 131 _ _ _ rfl (by rfl) (by rfl) (by rfl) (fun ev hc hf h0 h1 => ?_) (HPREP.out _ hW0) (fun W12 hc12 => ?_) ?_
                                · focus (go_simp; done)
                                · simp only [Act.put, List.setIfInBounds_toArray, List.set_cons_zero, List.set_cons_succ]
                                  refine awt1 6 132 (o := ({ dst := some 126, op := Go.Op.move (Go.Operand.tmp 132), type := 47, pos := "law.go:159", after := #[{ on := 5, ground := Go.Ground.data }], guard := none })) (v := ?_) rfl (by kernel_rfl) (by kernel_rfl) (by kernel_rfl) (fun _ _ _ h => h) (by rfl) (by rfl) (fun ev hc hf h0 W => ?_) ?_; rotate_left; (focus (first | (go_simp; done) | (go_simp; with_reducible rfl))); rotate_left; simp only [Act.put, List.setIfInBounds_toArray, List.set_cons_zero, List.set_cons_succ]
                                  refine awt1 7 126 (o := ({ dst := some 133, op := Go.Op.extract (Go.Operand.tmp 126) 0, type := 4, pos := "law.go:159", after := #[{ on := 6, ground := Go.Ground.data }], guard := none })) (v := ?_) rfl (by kernel_rfl) (by kernel_rfl) (by kernel_rfl) (fun _ _ _ h => h) (by rfl) (by rfl) (fun ev hc hf h0 W => ?_) ?_; rotate_left; (focus (first | (go_simp; done) | (go_simp; with_reducible rfl))); rotate_left; simp only [Act.put, List.setIfInBounds_toArray, List.set_cons_zero, List.set_cons_succ]
                                  refine awt1 8 126 (o := ({ dst := some 134, op := Go.Op.extract (Go.Operand.tmp 126) 1, type := 46, pos := "law.go:159", after := #[{ on := 6, ground := Go.Ground.data }, { on := 11, ground := Go.Ground.gcOnly Go.Departure.lateStores }], guard := none })) (v := ?_) rfl (by kernel_rfl) (by kernel_rfl) (by kernel_rfl) (fun _ _ _ h => h) (by rfl) (by rfl) (fun ev hc hf h0 W => ?_) ?_; rotate_left; (focus (first | (go_simp; done) | (go_simp; with_reducible rfl))); rotate_left; simp only [Act.put, List.setIfInBounds_toArray, List.set_cons_zero, List.set_cons_succ]
                                  refine awt1 9 126 (o := ({ dst := some 135, op := Go.Op.extract (Go.Operand.tmp 126) 2, type := 30, pos := "law.go:159", after := #[{ on := 6, ground := Go.Ground.data }, { on := 12, ground := Go.Ground.gcOnly Go.Departure.lateStores }], guard := none })) (v := ?_) rfl (by kernel_rfl) (by kernel_rfl) (by kernel_rfl) (fun _ _ _ h => h) (by rfl) (by rfl) (fun ev hc hf h0 W => ?_) ?_; rotate_left; (focus (first | (go_simp; done) | (go_simp; with_reducible rfl))); rotate_left; simp only [Act.put, List.setIfInBounds_toArray, List.set_cons_zero, List.set_cons_succ]
                                  refine aw_all [10] (by kernel_rfl) (by simp) ?_
                                  refine ar_alloc (o := ({ dst := some 20, op := Go.Op.alloc 46, type := 0, pos := "law.go:159", after := #[], guard := none })) rfl (by rfl) (fun ev => rfl) (Bel.refl _) (fun g13 W13 hg13 hW13 hgo13 => ?_) ?_
                                  · simp only [Act.put, List.setIfInBounds_toArray, List.set_cons_zero, List.set_cons_succ]
                                    exact END g13 W13 ⟨hgo13, Nat.le_trans (Nat.le_trans (show Bel wr _ from hW0).size hc12.2.size) hg13, ((show Kept (fun k => k = B + j) wr _ from Kept.of_below (show Bel wr _ from hW0)).grownF hc12.2 (fun k e => by injection e with e; exact .inl e.symm)).trans (Kept.of_below hW13), hc12.1.bel hW13⟩
                                  exact ar_nil
                                refine ar_alloc (o := ({ dst := some 20, op := Go.Op.alloc 46, type := 0, pos := "law.go:159", after := #[], guard := none })) rfl (by rfl) (fun ev => rfl) hW0 (fun g14 W14 hg14 hW14 hgo14 => ?_) ?_
                                · simp only [Act.put, List.setIfInBounds_toArray, List.set_cons_zero, List.set_cons_succ]
                                  refine aw_all [5] (by kernel_rfl) (by simp) ?_
                                  refine arc2 (o := ({ dst := some 132, op := Go.Op.call { callee := Go.Callee.value (Go.Operand.func 29), args := #[Go.Operand.tmp 130, Go.Operand.tmp 131], argTypes := #[44, 24] }, type := 47, pos := "law.go:159", after := #[{ on := 3, ground := Go.Ground.data }, { on := 4, ground := Go.Ground.data }], guard := none })) 130 131 _ _ _ rfl (by rfl) (by rfl) (by rfl) (fun ev hc hf h0 h1 => ?_) (HPREP.out _ hW14) (fun W15 hc15 => ?_) ?_
                                  · focus (go_simp; done)
                                  · simp only [Act.put, List.setIfInBounds_toArray, List.set_cons_zero, List.set_cons_succ]
                                    refine awt1 6 132 (o := ({ dst := some 126, op := Go.Op.move (Go.Operand.tmp 132), type := 47, pos := "law.go:159", after := #[{ on := 5, ground := Go.Ground.data }], guard := none })) (v := ?_) rfl (by kernel_rfl) (by kernel_rfl) (by kernel_rfl) (fun _ _ _ h => h) (by rfl) (by rfl) (fun ev hc hf h0 W => ?_) ?_; rotate_left; (focus (first | (go_simp; done) | (go_simp; with_reducible rfl))); rotate_left; simp only [Act.put, List.setIfInBounds_toArray, List.set_cons_zero, List.set_cons_succ]
                                    refine awt1 7 126 (o := ({ dst := some 133, op := Go.Op.extract (Go.Operand.tmp 126) 0, type := 4, pos := "law.go:159", after := #[{ on := 6, ground := Go.Ground.data }], guard := none })) (v := ?_) rfl (by kernel_rfl) (by kernel_rfl) (by kernel_rfl) (fun _ _ _ h => h) (by rfl) (by rfl) (fun ev hc hf h0 W => ?_) ?_; rotate_left; (focus (first | (go_simp; done) | (go_simp; with_reducible rfl))); rotate_left; simp only [Act.put, List.setIfInBounds_toArray, List.set_cons_zero, List.set_cons_succ]
                                    refine awt1 8 126 (o := ({ dst := some 134, op := Go.Op.extract (Go.Operand.tmp 126) 1, type := 46, pos := "law.go:159", after := #[{ on := 6, ground := Go.Ground.data }, { on := 11, ground := Go.Ground.gcOnly Go.Departure.lateStores }], guard := none })) (v := ?_) rfl (by kernel_rfl) (by kernel_rfl) (by kernel_rfl) (fun _ _ _ h => h) (by rfl) (by rfl) (fun ev hc hf h0 W => ?_) ?_; rotate_left; (focus (first | (go_simp; done) | (go_simp; with_reducible rfl))); rotate_left; simp only [Act.put, List.setIfInBounds_toArray, List.set_cons_zero, List.set_cons_succ]
                                    refine awt1 9 126 (o := ({ dst := some 135, op := Go.Op.extract (Go.Operand.tmp 126) 2, type := 30, pos := "law.go:159", after := #[{ on := 6, ground := Go.Ground.data }, { on := 12, ground := Go.Ground.gcOnly Go.Departure.lateStores }], guard := none })) (v := ?_) rfl (by kernel_rfl) (by kernel_rfl) (by kernel_rfl) (fun _ _ _ h => h) (by rfl) (by rfl) (fun ev hc hf h0 W => ?_) ?_; rotate_left; (focus (first | (go_simp; done) | (go_simp; with_reducible rfl))); rotate_left; simp only [Act.put, List.setIfInBounds_toArray, List.set_cons_zero, List.set_cons_succ]
                                    exact END g14 W15 ⟨(hc15.2.block _ (Array.getElem?_eq_some_iff.1 hgo14).1 (by have := hg14; simp; omega)).trans hgo14, hg14, ((show Kept (fun k => k = B + j) wr _ from Kept.of_below (show Bel wr _ from hW14)).grownF hc15.2 (fun k e => by injection e with e; exact .inl e.symm)), hc15.1⟩
                                  exact ar_nil
                                exact ar_nil
                              refine ar_alloc (o := ({ dst := some 20, op := Go.Op.alloc 46, type := 0, pos := "law.go:159", after := #[], guard := none })) rfl (by rfl) (fun ev => rfl) hW0 (fun g16 W16 hg16 hW16 hgo16 => ?_) ?_
                              · simp only [Act.put, List.setIfInBounds_toArray, List.set_cons_zero, List.set_cons_succ]
                                refine aw_all [3] (by kernel_rfl) (by simp) ?_
                                refine arv1 (o := ({ dst := some 130, op := Go.Op.load 44 (Go.Operand.tmp 129), type := 44, pos := "law.go:159", after := #[{ on := 2, ground := Go.Ground.data }], guard := none })) 129 (v := ?_) (W' := ?_) rfl (by rfl) (by rfl) (fun ev hc hf h0 => ?_) ?_ ?_; rotate_left 2; (focus (obtain ⟨e0, e1, e2⟩ := HS.out _ hW16; first | (go_simp; done) | (go_simp; with_reducible rfl) | (go_simp; constructor <;> with_reducible rfl)))
                                · simp only [Act.put, List.setIfInBounds_toArray, List.set_cons_zero, List.set_cons_succ]
                                  refine aw_all [5] (by kernel_rfl) (by simp) ?_
                                  refine arc2 (o := ({ dst := some 132, op := Go.Op.call { callee := Go.Callee.value (Go.Operand.func 29), args := #[Go.Operand.tmp 130, Go.Operand.tmp 131], argTypes := #[44, 24] }, type := 47, pos := "law.go:159", after := #[{ on := 3, ground := Go.Ground.data }, { on := 4, ground := Go.Ground.data }], guard := none })) 130 131 _ _ _ rfl (by rfl) (by rfl) (by rfl) (fun ev hc hf h0 h1 => ?_) (HPREP.out _ hW16) (fun W18 hc18 => ?_) ?_
                                  · focus (go_simp; done)
                                  · simp only [Act.put, List.setIfInBounds_toArray, List.set_cons_zero, List.set_cons_succ]
                                    refine awt1 6 132 (o := ({ dst := some 126, op := Go.Op.move (Go.Operand.tmp 132), type := 47, pos := "law.go:159", after := #[{ on := 5, ground := Go.Ground.data }], guard := none })) (v := ?_) rfl (by kernel_rfl) (by kernel_rfl) (by kernel_rfl) (fun _ _ _ h => h) (by rfl) (by rfl) (fun ev hc hf h0 W => ?_) ?_; rotate_left; (focus (first | (go_simp; done) | (go_simp; with_reducible rfl))); rotate_left; simp only [Act.put, List.setIfInBounds_toArray, List.set_cons_zero, List.set_cons_succ]
                                    refine awt1 7 126 (o := ({ dst := some 133, op := Go.Op.extract (Go.Operand.tmp 126) 0, type := 4, pos := "law.go:159", after := #[{ on := 6, ground := Go.Ground.data }], guard := none })) (v := ?_) rfl (by kernel_rfl) (by kernel_rfl) (by kernel_rfl) (fun _ _ _ h => h) (by rfl) (by rfl) (fun ev hc hf h0 W => ?_) ?_; rotate_left; (focus (first | (go_simp; done) | (go_simp; with_reducible rfl))); rotate_left; simp only [Act.put, List.setIfInBounds_toArray, List.set_cons_zero, List.set_cons_succ]
                                    refine awt1 8 126 (o := ({ dst := some 134, op := Go.Op.extract (Go.Operand.tmp 126) 1, type := 46, pos := "law.go:159", after := #[{ on := 6, ground := Go.Ground.data }, { on := 11, ground := Go.Ground.gcOnly Go.Departure.lateStores }], guard := none })) (v := ?_) rfl (by kernel_rfl) (by kernel_rfl) (by kernel_rfl) (fun _ _ _ h => h) (by rfl) (by rfl) (fun ev hc hf h0 W => ?_) ?_; rotate_left; (focus (first | (go_simp; done) | (go_simp; with_reducible rfl))); rotate_left; simp only [Act.put, List.setIfInBounds_toArray, List.set_cons_zero, List.set_cons_succ]
                                    refine awt1 9 126 (o := ({ dst := some 135, op := Go.Op.extract (Go.Operand.tmp 126) 2, type := 30, pos := "law.go:159", after := #[{ on := 6, ground := Go.Ground.data }, { on := 12, ground := Go.Ground.gcOnly Go.Departure.lateStores }], guard := none })) (v := ?_) rfl (by kernel_rfl) (by kernel_rfl) (by kernel_rfl) (fun _ _ _ h => h) (by rfl) (by rfl) (fun ev hc hf h0 W => ?_) ?_; rotate_left; (focus (first | (go_simp; done) | (go_simp; with_reducible rfl))); rotate_left; simp only [Act.put, List.setIfInBounds_toArray, List.set_cons_zero, List.set_cons_succ]
                                    exact END g16 W18 ⟨(hc18.2.block _ (Array.getElem?_eq_some_iff.1 hgo16).1 (by have := hg16; simp; omega)).trans hgo16, hg16, ((show Kept (fun k => k = B + j) wr _ from Kept.of_below (show Bel wr _ from hW16)).grownF hc18.2 (fun k e => by injection e with e; exact .inl e.symm)), hc18.1⟩
                                  exact ar_nil
                                exact ar_nil
                              exact ar_nil
                            refine ar_alloc (o := ({ dst := some 20, op := Go.Op.alloc 46, type := 0, pos := "law.go:159", after := #[], guard := none })) rfl (by rfl) (fun ev => rfl) hW0 (fun g19 W19 hg19 hW19 hgo19 => ?_) ?_
                            · simp only [Act.put, List.setIfInBounds_toArray, List.set_cons_zero, List.set_cons_succ]
                              refine aw_all [3, 4] (by kernel_rfl) (by simp) ?_
                              refine arv1 (o := ({ dst := some 130, op := Go.Op.load 44 (Go.Operand.tmp 129), type := 44, pos := "law.go:159", after := #[{ on := 2, ground := Go.Ground.data }], guard := none })) 129 (v := ?_) (W' := ?_) rfl (by rfl) (by rfl) (fun ev hc hf h0 => ?_) ?_ ?_; rotate_left 2; (focus (obtain ⟨e0, e1, e2⟩ := HS.out _ hW19; first | (go_simp; done) | (go_simp; with_reducible rfl) | (go_simp; constructor <;> with_reducible rfl)))
                              · simp only [Act.put, List.setIfInBounds_toArray, List.set_cons_zero, List.set_cons_succ]
                                refine aw_all [4] (by kernel_rfl) (by simp) ?_
                                refine arv1 (o := ({ dst := some 131, op := Go.Op.load 24 (Go.Operand.tmp 15), type := 24, pos := "law.go:159", after := #[], guard := none })) 15 (v := ?_) (W' := ?_) rfl (by rfl) (by rfl) (fun ev hc hf h0 => ?_) ?_ ?_; rotate_left 2; (focus (obtain ⟨e0, e1, e2⟩ := HS.out _ hW19; first | (go_simp; done) | (go_simp; with_reducible rfl) | (go_simp; constructor <;> with_reducible rfl)))
                                · simp only [Act.put, List.setIfInBounds_toArray, List.set_cons_zero, List.set_cons_succ]
                                  refine aw_all [5] (by kernel_rfl) (by simp) ?_
                                  refine arc2 (o := ({ dst := some 132, op := Go.Op.call { callee := Go.Callee.value (Go.Operand.func 29), args := #[Go.Operand.tmp 130, Go.Operand.tmp 131], argTypes := #[44, 24] }, type := 47, pos := "law.go:159", after := #[{ on := 3, ground := Go.Ground.data }, { on := 4, ground := Go.Ground.data }], guard := none })) 130 131 _ _ _ rfl (by rfl) (by rfl) (by rfl) (fun ev hc hf h0 h1 => ?_) (HPREP.out _ hW19) (fun W22 hc22 => ?_) ?_
                                  · focus (go_simp; done)
                                  · simp only [Act.put, List.setIfInBounds_toArray, List.set_cons_zero, List.set_cons_succ]
                                    refine awt1 6 132 (o := ({ dst := some 126, op := Go.Op.move (Go.Operand.tmp 132), type := 47, pos := "law.go:159", after := #[{ on := 5, ground := Go.Ground.data }], guard := none })) (v := ?_) rfl (by kernel_rfl) (by kernel_rfl) (by kernel_rfl) (fun _ _ _ h => h) (by rfl) (by rfl) (fun ev hc hf h0 W => ?_) ?_; rotate_left; (focus (first | (go_simp; done) | (go_simp; with_reducible rfl))); rotate_left; simp only [Act.put, List.setIfInBounds_toArray, List.set_cons_zero, List.set_cons_succ]
                                    refine awt1 7 126 (o := ({ dst := some 133, op := Go.Op.extract (Go.Operand.tmp 126) 0, type := 4, pos := "law.go:159", after := #[{ on := 6, ground := Go.Ground.data }], guard := none })) (v := ?_) rfl (by kernel_rfl) (by kernel_rfl) (by kernel_rfl) (fun _ _ _ h => h) (by rfl) (by rfl) (fun ev hc hf h0 W => ?_) ?_; rotate_left; (focus (first | (go_simp; done) | (go_simp; with_reducible rfl))); rotate_left; simp only [Act.put, List.setIfInBounds_toArray, List.set_cons_zero, List.set_cons_succ]
                                    refine awt1 8 126 (o := ({ dst := some 134, op := Go.Op.extract (Go.Operand.tmp 126) 1, type := 46, pos := "law.go:159", after := #[{ on := 6, ground := Go.Ground.data }, { on := 11, ground := Go.Ground.gcOnly Go.Departure.lateStores }], guard := none })) (v := ?_) rfl (by kernel_rfl) (by kernel_rfl) (by kernel_rfl) (fun _ _ _ h => h) (by rfl) (by rfl) (fun ev hc hf h0 W => ?_) ?_; rotate_left; (focus (first | (go_simp; done) | (go_simp; with_reducible rfl))); rotate_left; simp only [Act.put, List.setIfInBounds_toArray, List.set_cons_zero, List.set_cons_succ]
                                    refine awt1 9 126 (o := ({ dst := some 135, op := Go.Op.extract (Go.Operand.tmp 126) 2, type := 30, pos := "law.go:159", after := #[{ on := 6, ground := Go.Ground.data }, { on := 12, ground := Go.Ground.gcOnly Go.Departure.lateStores }], guard := none })) (v := ?_) rfl (by kernel_rfl) (by kernel_rfl) (by kernel_rfl) (fun _ _ _ h => h) (by rfl) (by rfl) (fun ev hc hf h0 W => ?_) ?_; rotate_left; (focus (first | (go_simp; done) | (go_simp; with_reducible rfl))); rotate_left; simp only [Act.put, List.setIfInBounds_toArray, List.set_cons_zero, List.set_cons_succ]
                                    exact END g19 W22 ⟨(hc22.2.block _ (Array.getElem?_eq_some_iff.1 hgo19).1 (by have := hg19; simp; omega)).trans hgo19, hg19, ((show Kept (fun k => k = B + j) wr _ from Kept.of_below (show Bel wr _ from hW19)).grownF hc22.2 (fun k e => by injection e with e; exact .inl e.symm)), hc22.1⟩
                                  exact ar_nil
                                exact ar_nil
                              refine arv1 (o := ({ dst := some 131, op := Go.Op.load 24 (Go.Operand.tmp 15), type := 24, pos := "law.go:159", after := #[], guard := none })) 15 (v := ?_) (W' := ?_) rfl (by rfl) (by rfl) (fun ev hc hf h0 => ?_) ?_ ?_; rotate_left 2; (focus (obtain ⟨e0, e1, e2⟩ := HS.out _ hW19; first | (go_simp; done) | (go_simp; with_reducible rfl) | (go_simp; constructor <;> with_reducible rfl)))
                              · simp only [Act.put, List.setIfInBounds_toArray, List.set_cons_zero, List.set_cons_succ]
                                refine aw_all [3] (by kernel_rfl) (by simp) ?_
                                refine arv1 (o := ({ dst := some 130, op := Go.Op.load 44 (Go.Operand.tmp 129), type := 44, pos := "law.go:159", after := #[{ on := 2, ground := Go.Ground.data }], guard := none })) 129 (v := ?_) (W' := ?_) rfl (by rfl) (by rfl) (fun ev hc hf h0 => ?_) ?_ ?_; rotate_left 2; (focus (obtain ⟨e0, e1, e2⟩ := HS.out _ hW19; first | (go_simp; done) | (go_simp; with_reducible rfl) | (go_simp; constructor <;> with_reducible rfl)))
                                · simp only [Act.put, List.setIfInBounds_toArray, List.set_cons_zero, List.set_cons_succ]
                                  refine aw_all [5] (by kernel_rfl) (by simp) ?_
                                  refine arc2 (o := ({ dst := some 132, op := Go.Op.call { callee := Go.Callee.value (Go.Operand.func 29), args := #[Go.Operand.tmp 130, Go.Operand.tmp 131], argTypes := #[44, 24] }, type := 47, pos := "law.go:159", after := #[{ on := 3, ground := Go.Ground.data }, { on := 4, ground := Go.Ground.data }], guard := none })) 130 131 _ _ _ rfl (by rfl) (by rfl) (by rfl) (fun ev hc hf h0 h1 => ?_) (HPREP.out _ hW19) (fun W25 hc25 => ?_) ?_
                                  · focus (go_simp; done)
                                  · simp only [Act.put, List.setIfInBounds_toArray, List.set_cons_zero, List.set_cons_succ]
                                    refine awt1 6 132 (o := ({ dst := some 126, op := Go.Op.move (Go.Operand.tmp 132), type := 47, pos := "law.go:159", after := #[{ on := 5, ground := Go.Ground.data }], guard := none })) (v := ?_) rfl (by kernel_rfl) (by kernel_rfl) (by kernel_rfl) (fun _ _ _ h => h) (by rfl) (by rfl) (fun ev hc hf h0 W => ?_) ?_; rotate_left; (focus (first | (go_simp; done) | (go_simp; with_reducible rfl))); rotate_left; simp only [Act.put, List.setIfInBounds_toArray, List.set_cons_zero, List.set_cons_succ]
                                    refine awt1 7 126 (o := ({ dst := some 133, op := Go.Op.extract (Go.Operand.tmp 126) 0, type := 4, pos := "law.go:159", after := #[{ on := 6, ground := Go.Ground.data }], guard := none })) (v := ?_) rfl (by kernel_rfl) (by kernel_rfl) (by kernel_rfl) (fun _ _ _ h => h) (by rfl) (by rfl) (fun ev hc hf h0 W => ?_) ?_; rotate_left; (focus (first | (go_simp; done) | (go_simp; with_reducible rfl))); rotate_left; simp only [Act.put, List.setIfInBounds_toArray, List.set_cons_zero, List.set_cons_succ]
                                    refine awt1 8 126 (o := ({ dst := some 134, op := Go.Op.extract (Go.Operand.tmp 126) 1, type := 46, pos := "law.go:159", after := #[{ on := 6, ground := Go.Ground.data }, { on := 11, ground := Go.Ground.gcOnly Go.Departure.lateStores }], guard := none })) (v := ?_) rfl (by kernel_rfl) (by kernel_rfl) (by kernel_rfl) (fun _ _ _ h => h) (by rfl) (by rfl) (fun ev hc hf h0 W => ?_) ?_; rotate_left; (focus (first | (go_simp; done) | (go_simp; with_reducible rfl))); rotate_left; simp only [Act.put, List.setIfInBounds_toArray, List.set_cons_zero, List.set_cons_succ]
                                    refine awt1 9 126 (o := ({ dst := some 135, op := Go.Op.extract (Go.Operand.tmp 126) 2, type := 30, pos := "law.go:159", after := #[{ on := 6, ground := Go.Ground.data }, { on := 12, ground := Go.Ground.gcOnly Go.Departure.lateStores }], guard := none })) (v := ?_) rfl (by kernel_rfl) (by kernel_rfl) (by kernel_rfl) (fun _ _ _ h => h) (by rfl) (by rfl) (fun ev hc hf h0 W => ?_) ?_; rotate_left; (focus (first | (go_simp; done) | (go_simp; with_reducible rfl))); rotate_left; simp only [Act.put, List.setIfInBounds_toArray, List.set_cons_zero, List.set_cons_succ]
                                    exact END g19 W25 ⟨(hc25.2.block _ (Array.getElem?_eq_some_iff.1 hgo19).1 (by have := hg19; simp; omega)).trans hgo19, hg19, ((show Kept (fun k => k = B + j) wr _ from Kept.of_below (show Bel wr _ from hW19)).grownF hc25.2 (fun k e => by injection e with e; exact .inl e.symm)), hc25.1⟩
                                  exact ar_nil
                                exact ar_nil
                              exact ar_nil
                            exact ar_nil
                          rintro gg w8 ⟨hgg, hge, hK8, hBk8⟩
                          refine awt1 11 133 (o := ({ dst := some 19, op := Go.Op.assign (Go.Operand.tmp 133), type := 4, pos := "law.go:159", after := #[{ on := 7, ground := Go.Ground.data }, { on := 5, ground := Go.Ground.chain }, { on := 0, ground := Go.Ground.phase }, { on := 1, ground := Go.Ground.phase }, { on := 2, ground := Go.Ground.phase }, { on := 3, ground := Go.Ground.phase }, { on := 4, ground := Go.Ground.phase }, { on := 5, ground := Go.Ground.phase }, { on := 6, ground := Go.Ground.phase }, { on := 7, ground := Go.Ground.phase }, { on := 8, ground := Go.Ground.textOnly Go.Departure.lateStores }, { on := 9, ground := Go.Ground.textOnly Go.Departure.lateStores }, { on := 10, ground := Go.Ground.phase }], guard := none })) (v := ?_) rfl (by kernel_rfl) (by kernel_rfl) (by kernel_rfl) (fun _ _ _ h => h) (by rfl) (by rfl) (fun ev hc hf h0 W => ?_) ?_; rotate_left; (focus (first | (go_simp; done) | (go_simp; with_reducible rfl))); rotate_left; simp only [Act.put, List.setIfInBounds_toArray, List.set_cons_zero, List.set_cons_succ]
                          have Bg8 : Bk w8 gg #[.bool false, .int .u64 0, .int .i64 0, .string ⟨#[]⟩] 46 := hgg
                          obtain ⟨q0, q1, q2, q3⟩ : w8.cell? ⟨gg, 0, none⟩ = some (.bool false) ∧ w8.cell? ⟨gg, 1, none⟩ = some (.int .u64 0) ∧ w8.cell? ⟨gg, 2, none⟩ = some (.int .i64 0) ∧ w8.cell? ⟨gg, 3, none⟩ = some (.string ⟨#[]⟩) := ⟨Bg8.cell 0, Bg8.cell 1, Bg8.cell 2, Bg8.cell 3⟩
                          have qf0 := Bg8.free 0
                          have qf1 := Bg8.free 1
                          have qf2 := Bg8.free 2
                          have qf3 := Bg8.free 3
                          refine aw_all [12] (by kernel_rfl) (by simp) ?_
                          refine ars2 (o := ({ dst := none, op := Go.Op.store 46 (Go.Operand.tmp 20) (Go.Operand.tmp 134), type := 0, pos := "law.go:159", after := #[{ on := 10, ground := Go.Ground.data }, { on := 8, ground := Go.Ground.data }, { on := 11, ground := Go.Ground.chain }, { on := 0, ground := Go.Ground.phase }, { on := 1, ground := Go.Ground.phase }, { on := 2, ground := Go.Ground.phase }, { on := 3, ground := Go.Ground.phase }, { on := 4, ground := Go.Ground.phase }, { on := 5, ground := Go.Ground.phase }, { on := 6, ground := Go.Ground.phase }, { on := 7, ground := Go.Ground.phase }, { on := 8, ground := Go.Ground.phase }, { on := 9, ground := Go.Ground.textOnly Go.Departure.lateStores }, { on := 10, ground := Go.Ground.phase }, { on := 11, ground := Go.Ground.phase }], guard := none })) 20 134 (W' := (((w8.setCell ⟨gg, 0, none⟩ (.bool (ac2 j).has)).setCell ⟨gg, 1, none⟩ (.int .u64 (ac2 j).vr)).setCell ⟨gg, 2, none⟩ (.int .i64 (ac2 j).vn)).setCell ⟨gg, 3, none⟩ (.string (ac2 j).val)) rfl (by rfl) (by rfl) (by rfl) (fun ev hc hf h0 h1 => ?_) ?_ ?_
                          · focus (go_simp; done)
                          · simp only [Act.put, List.setIfInBounds_toArray, List.set_cons_zero, List.set_cons_succ]
                            have KK9 := Lib.hid ((((hK8.setNew (p := ⟨gg, 0, none⟩) hge (.bool (ac2 j).has)).setNew (p := ⟨gg, 1, none⟩) hge (.int .u64 (ac2 j).vr)).setNew (p := ⟨gg, 2, none⟩) hge (.int .i64 (ac2 j).vn)).setNew (p := ⟨gg, 3, none⟩) hge (.string (ac2 j).val))
                            have BG9 := Lib.hid ((((Bg8.set 0 (.bool (ac2 j).has)).set 1 (.int .u64 (ac2 j).vr)).set 2 (.int .i64 (ac2 j).vn)).set 3 (.string (ac2 j).val))
                            have BA9 := Lib.hid ((((hBk8.far (p := ⟨gg, 0, none⟩) (by dsimp only; omega) (.bool (ac2 j).has)).far (p := ⟨gg, 1, none⟩) (by dsimp only; omega) (.int .u64 (ac2 j).vr)).far (p := ⟨gg, 2, none⟩) (by dsimp only; omega) (.int .i64 (ac2 j).vn)).far (p := ⟨gg, 3, none⟩) (by dsimp only; omega) (.string (ac2 j).val))
                            clear q0 q1 q2 q3 qf0 qf1 qf2 qf3 Bg8 hgg hBk8 hK8
                            generalize (((w8.setCell ⟨gg, 0, none⟩ (.bool (ac2 j).has)).setCell ⟨gg, 1, none⟩ (.int .u64 (ac2 j).vr)).setCell ⟨gg, 2, none⟩ (.int .i64 (ac2 j).vn)).setCell ⟨gg, 3, none⟩ (.string (ac2 j).val) = w9 at KK9 BG9 BA9 ⊢
                            refine awt1 13 135 (o := ({ dst := some 21, op := Go.Op.assign (Go.Operand.tmp 135), type := 30, pos := "law.go:159", after := #[{ on := 9, ground := Go.Ground.data }, { on := 12, ground := Go.Ground.chain }, { on := 0, ground := Go.Ground.phase }, { on := 1, ground := Go.Ground.phase }, { on := 2, ground := Go.Ground.phase }, { on := 3, ground := Go.Ground.phase }, { on := 4, ground := Go.Ground.phase }, { on := 5, ground := Go.Ground.phase }, { on := 6, ground := Go.Ground.phase }, { on := 7, ground := Go.Ground.phase }, { on := 8, ground := Go.Ground.phase }, { on := 9, ground := Go.Ground.phase }, { on := 10, ground := Go.Ground.phase }, { on := 11, ground := Go.Ground.phase }, { on := 12, ground := Go.Ground.phase }], guard := none })) (v := ?_) rfl (by kernel_rfl) (by kernel_rfl) (by kernel_rfl) (fun _ _ _ h => h) (by rfl) (by rfl) (fun ev hc hf h0 W => ?_) ?_; rotate_left; (focus (first | (go_simp; done) | (go_simp; with_reducible rfl))); rotate_left; simp only [Act.put, List.setIfInBounds_toArray, List.set_cons_zero, List.set_cons_succ]
                            refine aw_done (by kernel_rfl) ?_
                            have HP9 := HP7.out.kept KK9.out (by omega) (by omega) (by omega) (fun k hk => by have := hs7 k hk; omega)
                            have HNo9 := HNo7.out.turn j hjlt _ BA9.out (fun k hk hne => KK9.out.block k (by omega) hne) KK9.out.size
                            have K9 := K7.out.kept KK9.out (by omega)
                            have HB9 := KK9.out.below HB7.out (fun k e => by have := HNo7.out.low; omega) HB7.out.size
                            have hpr := ppromise_any (j : Int) (vtOf (ac2 j)) HP9 (by omega) (by rw [HI.out.prom.hN]; omega) (by rw [HI.out.r, HI.out.n]; exact (named_split hnamed).1) (may_ok HI.out hjlt) (by have := HI.out.nn; omega)
                            rw [HI.out.r, HI.out.n] at hpr
                            have HPR := Lib.hid hpr
                            obtain ⟨q0, q1, q2, q3⟩ : w9.cell? ⟨gg, 0, none⟩ = some (.bool (ac2 j).has) ∧ w9.cell? ⟨gg, 1, none⟩ = some (.int .u64 (ac2 j).vr) ∧ w9.cell? ⟨gg, 2, none⟩ = some (.int .i64 (ac2 j).vn) ∧ w9.cell? ⟨gg, 3, none⟩ = some (.string (ac2 j).val) := ⟨by simpa using BG9.out.cell 0, by simpa using BG9.out.cell 1, by simpa using BG9.out.cell 2, by simpa using BG9.out.cell 3⟩
                            obtain ⟨k0, k1⟩ : w9.cell? ⟨p, 0, none⟩ = some (.int .u64 ((i : Int) + 1)) ∧ w9.cell? ⟨p, 1, none⟩ = some (.int .i64 ((i : Int) % 7)) := ⟨K9.cell 0, K9.cell 1⟩
                            have HNo9 := Lib.hid HNo9
                            have K9 := Lib.hid K9
                            have HB9 := Lib.hid HB9
                            have hp9 := K9.out.lt
                            clear hpr HP9 HS HPREP hW0 KK9 BG9 BA9
                            go_wp2_with fail
                            refine HPR.out.mono ?_
                            rintro e w10 ⟨rfl, s', PN⟩
                            have PL := PN.kept9 (B := p + 1) (by omega) (by omega) (by omega) hs7 hp9
                            have HNo10 := Lib.hid (HNo9.out.low' PL.1 (by omega))
                            have K10 := Lib.hid (K9.out.below PL.1 (by omega))
                            have HB10 := Lib.hid (HB9.out.trans (PL.1.mono (by have := HB9.out.size; omega)))
                            have HP10 := Lib.hid PN.at'
                            have HI10 := Lib.hid (HI.out.step (by omega))
                            have hs10 := PL.2
                            clear PN PL q0 q1 q2 q3 k0 k1 HNo9 K9 HB9 HPR
                            go_wp2_with fail
                            go_roundw
                            case rel => exact ⟨j + 1, _, s', _, by omega, by go_num, HI10, HNo10, HP10, K10, hs10, HB10⟩
                            case measure => simp [intOf]; omega
                          exact ar_nil
                      · have hmi : ¬ (m : Int) < (hs.length : Int) := by omega
                        go_upto_region 30 with fail
                        have HS := Lib.hid (show ∀ w', Bel wr w' → w'.cell? ⟨w.heap.size, j, none⟩ = some (.pointer (some ⟨B + j, 0, none⟩)) ∧ w'.cell? ⟨p, 0, none⟩ = some (.int .u64 ((i : Int) + 1)) ∧ w'.cell? ⟨p, 1, none⟩ = some (.int .i64 ((i : Int) % 7)) from fun w' hw => ⟨(HNo7.out.keep hw).row j hjlt, (K7.out.bel hw).cell 0, (K7.out.bel hw).cell 1⟩)
                        have hnamed : namedB ((i : Int) + 1) ((i : Int) % 7) = true := named_ok _ _ (by omega) (by omega) hmod0 hmod7
                        have HPREP := Lib.hid (show ∀ W, Bel wr W → Calls Try.prog 29 #[.pointer (some ⟨B + j, 0, none⟩), .agg #[.int .u64 ((i : Int) + 1), .int .i64 ((i : Int) % 7)]] W fun e W' => e = .returned (.tuple #[.bool true, .agg #[.bool (ac2 j).has, .int .u64 (ac2 j).vr, .int .i64 (ac2 j).vn, .string (ac2 j).val], .int .i64 0]) ∧ (Bk W' (B + j) ((ac2 j).promise ((i : Int) + 1) ((i : Int) % 7)).cells 116 ∧ W.grownBy W' (some (B + j))) from fun W hW => by
                          have h9 := prepare_any (B + j) (ac2 j) ((i : Int) + 1) ((i : Int) % 7) W ((HNo7.out.node j hjlt).bel hW)
                          unfold PrepPost at h9
                          rw [prep_ok HI.out hjlt hnamed] at h9
                          exact h9)
                        have hW0 : Bel wr wr.drew := (Bel.refl wr).drew
                        have htop7 := HNo7.out.top
                        refine wp_aw 14 #[false, false, false, false, false, false, false, false, false, false, false, false, false, false] rfl rfl ?_
                        refine aw_meet 3 ?L30B ?F30B (C := fun gg W => W.heap[gg]? = some (.cells #[.bool false, .int .u64 0, .int .i64 0, .string ⟨#[]⟩] 46 (0, 0)) ∧ wr.heap.size ≤ gg ∧ Kept (fun k => k = B + j) wr W ∧ Bk W (B + j) ((ac2 j).promise ((i : Int) + 1) ((i : Int) % 7)).cells 116) (fun END => ?_) ?_
                        case refine_1 =>
                          refine awt1 0 9 (o := ({ dst := some 127, op := Go.Op.move (Go.Operand.tmp 9), type := 92, pos := "law.go:159", after := #[], guard := none })) (v := ?_) rfl (by kernel_rfl) (by kernel_rfl) (by kernel_rfl) (fun _ _ _ h => h) (by rfl) (by rfl) (fun ev hc hf h0 W => ?_) ?_; rotate_left; (focus (first | (go_simp; done) | (go_simp; with_reducible rfl))); rotate_left; simp only [Act.put, List.setIfInBounds_toArray, List.set_cons_zero, List.set_cons_succ]
                          refine awt1 1 18 (o := ({ dst := some 128, op := Go.Op.move (Go.Operand.tmp 18), type := 3, pos := "law.go:159", after := #[], guard := none })) (v := ?_) rfl (by kernel_rfl) (by kernel_rfl) (by kernel_rfl) (fun _ _ _ h => h) (by rfl) (by rfl) (fun ev hc hf h0 W => ?_) ?_; rotate_left; (focus (first | (go_simp; done) | (go_simp; with_reducible rfl))); rotate_left; simp only [Act.put, List.setIfInBounds_toArray, List.set_cons_zero, List.set_cons_succ]
                          refine awt2 2 127 128 (o := ({ dst := some 129, op := Go.Op.indexAddr 92 (Go.Operand.tmp 127) (Go.Operand.tmp 128), type := 0, pos := "law.go:159", after := #[{ on := 0, ground := Go.Ground.data }, { on := 1, ground := Go.Ground.data }], guard := none })) (v := ?_) rfl (by kernel_rfl) (by kernel_rfl) (by kernel_rfl) (fun _ _ _ h => h) (by rfl) (by rfl) (by rfl) (fun ev hc hf h0 h1 W => ?_) ?_; rotate_left; (focus (first | (go_simp; done) | (go_simp; with_reducible rfl))); rotate_left; simp only [Act.put, List.setIfInBounds_toArray, List.set_cons_zero, List.set_cons_succ]
                          refine aw_all [3, 4, 10] (by kernel_rfl) (by simp) ?_
                          refine arv1 (o := ({ dst := some 130, op := Go.Op.load 44 (Go.Operand.tmp 129), type := 44, pos := "law.go:159", after := #[{ on := 2, ground := Go.Ground.data }], guard := none })) 129 (v := ?_) (W' := ?_) rfl (by rfl) (by rfl) (fun ev hc hf h0 => ?_) ?_ ?_; rotate_left 2; (focus (obtain ⟨e0, e1, e2⟩ := HS.out _ hW0; first | (go_simp; done) | (go_simp; with_reducible rfl) | (go_simp; constructor <;> with_reducible rfl)))
                          · simp only [Act.put, List.setIfInBounds_toArray, List.set_cons_zero, List.set_cons_succ]
                            refine aw_all [4, 10] (by kernel_rfl) (by simp) ?_
                            refine arv1 (o := ({ dst := some 131, op := Go.Op.load 24 (Go.Operand.tmp 15), type := 24, pos := "law.go:159", after := #[], guard := none })) 15 (v := ?_) (W' := ?_) rfl (by rfl) (by rfl) (fun ev hc hf h0 => ?_) ?_ ?_; rotate_left 2; (focus (obtain ⟨e0, e1, e2⟩ := HS.out _ hW0; first | (go_simp; done) | (go_simp; with_reducible rfl) | (go_simp; constructor <;> with_reducible rfl)))
                            · simp only [Act.put, List.setIfInBounds_toArray, List.set_cons_zero, List.set_cons_succ]
                              refine aw_all [5, 10] (by kernel_rfl) (by simp) ?_
                              refine arc2 (o := ({ dst := some 132, op := Go.Op.call { callee := Go.Callee.value (Go.Operand.func 29), args := #[Go.Operand.tmp 130, Go.Operand.tmp 131], argTypes := #[44, 24] }, type := 47, pos := "law.go:159", after := #[{ on := 3, ground := Go.Ground.data }, { on := 4, ground := Go.Ground.data }], guard := none })) 130 131 _ _ _ rfl (by rfl) (by rfl) (by rfl) (fun ev hc hf h0 h1 => ?_) (HPREP.out _ hW0) (fun W3 hc3 => ?_) ?_
                              · focus (go_simp; done)
                              · simp only [Act.put, List.setIfInBounds_toArray, List.set_cons_zero, List.set_cons_succ]
                                refine awt1 6 132 (o := ({ dst := some 126, op := Go.Op.move (Go.Operand.tmp 132), type := 47, pos := "law.go:159", after := #[{ on := 5, ground := Go.Ground.data }], guard := none })) (v := ?_) rfl (by kernel_rfl) (by kernel_rfl) (by kernel_rfl) (fun _ _ _ h => h) (by rfl) (by rfl) (fun ev hc hf h0 W => ?_) ?_; rotate_left; (focus (first | (go_simp; done) | (go_simp; with_reducible rfl))); rotate_left; simp only [Act.put, List.setIfInBounds_toArray, List.set_cons_zero, List.set_cons_succ]
                                refine awt1 7 126 (o := ({ dst := some 133, op := Go.Op.extract (Go.Operand.tmp 126) 0, type := 4, pos := "law.go:159", after := #[{ on := 6, ground := Go.Ground.data }], guard := none })) (v := ?_) rfl (by kernel_rfl) (by kernel_rfl) (by kernel_rfl) (fun _ _ _ h => h) (by rfl) (by rfl) (fun ev hc hf h0 W => ?_) ?_; rotate_left; (focus (first | (go_simp; done) | (go_simp; with_reducible rfl))); rotate_left; simp only [Act.put, List.setIfInBounds_toArray, List.set_cons_zero, List.set_cons_succ]
                                refine awt1 8 126 (o := ({ dst := some 134, op := Go.Op.extract (Go.Operand.tmp 126) 1, type := 46, pos := "law.go:159", after := #[{ on := 6, ground := Go.Ground.data }, { on := 11, ground := Go.Ground.gcOnly Go.Departure.lateStores }], guard := none })) (v := ?_) rfl (by kernel_rfl) (by kernel_rfl) (by kernel_rfl) (fun _ _ _ h => h) (by rfl) (by rfl) (fun ev hc hf h0 W => ?_) ?_; rotate_left; (focus (first | (go_simp; done) | (go_simp; with_reducible rfl))); rotate_left; simp only [Act.put, List.setIfInBounds_toArray, List.set_cons_zero, List.set_cons_succ]
                                refine awt1 9 126 (o := ({ dst := some 135, op := Go.Op.extract (Go.Operand.tmp 126) 2, type := 30, pos := "law.go:159", after := #[{ on := 6, ground := Go.Ground.data }, { on := 12, ground := Go.Ground.gcOnly Go.Departure.lateStores }], guard := none })) (v := ?_) rfl (by kernel_rfl) (by kernel_rfl) (by kernel_rfl) (fun _ _ _ h => h) (by rfl) (by rfl) (fun ev hc hf h0 W => ?_) ?_; rotate_left; (focus (first | (go_simp; done) | (go_simp; with_reducible rfl))); rotate_left; simp only [Act.put, List.setIfInBounds_toArray, List.set_cons_zero, List.set_cons_succ]
                                refine aw_all [10] (by kernel_rfl) (by simp) ?_
                                refine ar_alloc (o := ({ dst := some 20, op := Go.Op.alloc 46, type := 0, pos := "law.go:159", after := #[], guard := none })) rfl (by rfl) (fun ev => rfl) (Bel.refl _) (fun g4 W4 hg4 hW4 hgo4 => ?_) ?_
                                · simp only [Act.put, List.setIfInBounds_toArray, List.set_cons_zero, List.set_cons_succ]
                                  exact END g4 W4 ⟨hgo4, Nat.le_trans (Nat.le_trans (show Bel wr _ from hW0).size hc3.2.size) hg4, ((show Kept (fun k => k = B + j) wr _ from Kept.of_below (show Bel wr _ from hW0)).grownF hc3.2 (fun k e => by injection e with e; exact .inl e.symm)).trans (Kept.of_below hW4), hc3.1.bel hW4⟩
                                exact ar_nil
                              refine ar_alloc (o := ({ dst := some 20, op := Go.Op.alloc 46, type := 0, pos := "law.go:159", after := #[], guard := none })) rfl (by rfl) (fun ev => rfl) hW0 (fun g5 W5 hg5 hW5 hgo5 => ?_) ?_
                              · simp only [Act.put, List.setIfInBounds_toArray, List.set_cons_zero, List.set_cons_succ]
                                refine aw_all [5] (by kernel_rfl) (by simp) ?_
                                refine arc2 (o := ({ dst := some 132, op := Go.Op.call { callee := Go.Callee.value (Go.Operand.func 29), args := #[Go.Operand.tmp 130, Go.Operand.tmp 131], argTypes := #[44, 24] }, type := 47, pos := "law.go:159", after := #[{ on := 3, ground := Go.Ground.data }, { on := 4, ground := Go.Ground.data }], guard := none })) 130 131 _ _ _ rfl (by rfl) (by rfl) (by rfl) (fun ev hc hf h0 h1 => ?_) (HPREP.out _ hW5) (fun W6 hc6 => ?_) ?_
                                · focus (go_simp; done)
                                · simp only [Act.put, List.setIfInBounds_toArray, List.set_cons_zero, List.set_cons_succ]
                                  refine awt1 6 132 (o := ({ dst := some 126, op := Go.Op.move (Go.Operand.tmp 132), type := 47, pos := "law.go:159", after := #[{ on := 5, ground := Go.Ground.data }], guard := none })) (v := ?_) rfl (by kernel_rfl) (by kernel_rfl) (by kernel_rfl) (fun _ _ _ h => h) (by rfl) (by rfl) (fun ev hc hf h0 W => ?_) ?_; rotate_left; (focus (first | (go_simp; done) | (go_simp; with_reducible rfl))); rotate_left; simp only [Act.put, List.setIfInBounds_toArray, List.set_cons_zero, List.set_cons_succ]
                                  refine awt1 7 126 (o := ({ dst := some 133, op := Go.Op.extract (Go.Operand.tmp 126) 0, type := 4, pos := "law.go:159", after := #[{ on := 6, ground := Go.Ground.data }], guard := none })) (v := ?_) rfl (by kernel_rfl) (by kernel_rfl) (by kernel_rfl) (fun _ _ _ h => h) (by rfl) (by rfl) (fun ev hc hf h0 W => ?_) ?_; rotate_left; (focus (first | (go_simp; done) | (go_simp; with_reducible rfl))); rotate_left; simp only [Act.put, List.setIfInBounds_toArray, List.set_cons_zero, List.set_cons_succ]
                                  refine awt1 8 126 (o := ({ dst := some 134, op := Go.Op.extract (Go.Operand.tmp 126) 1, type := 46, pos := "law.go:159", after := #[{ on := 6, ground := Go.Ground.data }, { on := 11, ground := Go.Ground.gcOnly Go.Departure.lateStores }], guard := none })) (v := ?_) rfl (by kernel_rfl) (by kernel_rfl) (by kernel_rfl) (fun _ _ _ h => h) (by rfl) (by rfl) (fun ev hc hf h0 W => ?_) ?_; rotate_left; (focus (first | (go_simp; done) | (go_simp; with_reducible rfl))); rotate_left; simp only [Act.put, List.setIfInBounds_toArray, List.set_cons_zero, List.set_cons_succ]
                                  refine awt1 9 126 (o := ({ dst := some 135, op := Go.Op.extract (Go.Operand.tmp 126) 2, type := 30, pos := "law.go:159", after := #[{ on := 6, ground := Go.Ground.data }, { on := 12, ground := Go.Ground.gcOnly Go.Departure.lateStores }], guard := none })) (v := ?_) rfl (by kernel_rfl) (by kernel_rfl) (by kernel_rfl) (fun _ _ _ h => h) (by rfl) (by rfl) (fun ev hc hf h0 W => ?_) ?_; rotate_left; (focus (first | (go_simp; done) | (go_simp; with_reducible rfl))); rotate_left; simp only [Act.put, List.setIfInBounds_toArray, List.set_cons_zero, List.set_cons_succ]
                                  exact END g5 W6 ⟨(hc6.2.block _ (Array.getElem?_eq_some_iff.1 hgo5).1 (by have := hg5; simp; omega)).trans hgo5, hg5, ((show Kept (fun k => k = B + j) wr _ from Kept.of_below (show Bel wr _ from hW5)).grownF hc6.2 (fun k e => by injection e with e; exact .inl e.symm)), hc6.1⟩
                                exact ar_nil
                              exact ar_nil
                            refine ar_alloc (o := ({ dst := some 20, op := Go.Op.alloc 46, type := 0, pos := "law.go:159", after := #[], guard := none })) rfl (by rfl) (fun ev => rfl) hW0 (fun g7 W7 hg7 hW7 hgo7 => ?_) ?_
                            · simp only [Act.put, List.setIfInBounds_toArray, List.set_cons_zero, List.set_cons_succ]
                              refine aw_all [4] (by kernel_rfl) (by simp) ?_
                              refine arv1 (o := ({ dst := some 131, op := Go.Op.load 24 (Go.Operand.tmp 15), type := 24, pos := "law.go:159", after := #[], guard := none })) 15 (v := ?_) (W' := ?_) rfl (by rfl) (by rfl) (fun ev hc hf h0 => ?_) ?_ ?_; rotate_left 2; (focus (obtain ⟨e0, e1, e2⟩ := HS.out _ hW7; first | (go_simp; done) | (go_simp; with_reducible rfl) | (go_simp; constructor <;> with_reducible rfl)))
                              · simp only [Act.put, List.setIfInBounds_toArray, List.set_cons_zero, List.set_cons_succ]
                                refine aw_all [5] (by kernel_rfl) (by simp) ?_
                                refine arc2 (o := ({ dst := some 132, op := Go.Op.call { callee := Go.Callee.value (Go.Operand.func 29), args := #[Go.Operand.tmp 130, Go.Operand.tmp 131], argTypes := #[44, 24] }, type := 47, pos := "law.go:159", after := #[{ on := 3, ground := Go.Ground.data }, { on := 4, ground := Go.Ground.data }], guard := none })) 130 131 _ _ _ rfl (by rfl) (by rfl) (by rfl) (fun ev hc hf h0 h1 => ?_) (HPREP.out _ hW7) (fun W9 hc9 => ?_) ?_
                                · focus (go_simp; done)
                                · simp only [Act.put, List.setIfInBounds_toArray, List.set_cons_zero, List.set_cons_succ]
                                  refine awt1 6 132 (o := ({ dst := some 126, op := Go.Op.move (Go.Operand.tmp 132), type := 47, pos := "law.go:159", after := #[{ on := 5, ground := Go.Ground.data }], guard := none })) (v := ?_) rfl (by kernel_rfl) (by kernel_rfl) (by kernel_rfl) (fun _ _ _ h => h) (by rfl) (by rfl) (fun ev hc hf h0 W => ?_) ?_; rotate_left; (focus (first | (go_simp; done) | (go_simp; with_reducible rfl))); rotate_left; simp only [Act.put, List.setIfInBounds_toArray, List.set_cons_zero, List.set_cons_succ]
                                  refine awt1 7 126 (o := ({ dst := some 133, op := Go.Op.extract (Go.Operand.tmp 126) 0, type := 4, pos := "law.go:159", after := #[{ on := 6, ground := Go.Ground.data }], guard := none })) (v := ?_) rfl (by kernel_rfl) (by kernel_rfl) (by kernel_rfl) (fun _ _ _ h => h) (by rfl) (by rfl) (fun ev hc hf h0 W => ?_) ?_; rotate_left; (focus (first | (go_simp; done) | (go_simp; with_reducible rfl))); rotate_left; simp only [Act.put, List.setIfInBounds_toArray, List.set_cons_zero, List.set_cons_succ]
                                  refine awt1 8 126 (o := ({ dst := some 134, op := Go.Op.extract (Go.Operand.tmp 126) 1, type := 46, pos := "law.go:159", after := #[{ on := 6, ground := Go.Ground.data }, { on := 11, ground := Go.Ground.gcOnly Go.Departure.lateStores }], guard := none })) (v := ?_) rfl (by kernel_rfl) (by kernel_rfl) (by kernel_rfl) (fun _ _ _ h => h) (by rfl) (by rfl) (fun ev hc hf h0 W => ?_) ?_; rotate_left; (focus (first | (go_simp; done) | (go_simp; with_reducible rfl))); rotate_left; simp only [Act.put, List.setIfInBounds_toArray, List.set_cons_zero, List.set_cons_succ]
                                  refine awt1 9 126 (o := ({ dst := some 135, op := Go.Op.extract (Go.Operand.tmp 126) 2, type := 30, pos := "law.go:159", after := #[{ on := 6, ground := Go.Ground.data }, { on := 12, ground := Go.Ground.gcOnly Go.Departure.lateStores }], guard := none })) (v := ?_) rfl (by kernel_rfl) (by kernel_rfl) (by kernel_rfl) (fun _ _ _ h => h) (by rfl) (by rfl) (fun ev hc hf h0 W => ?_) ?_; rotate_left; (focus (first | (go_simp; done) | (go_simp; with_reducible rfl))); rotate_left; simp only [Act.put, List.setIfInBounds_toArray, List.set_cons_zero, List.set_cons_succ]
                                  exact END g7 W9 ⟨(hc9.2.block _ (Array.getElem?_eq_some_iff.1 hgo7).1 (by have := hg7; simp; omega)).trans hgo7, hg7, ((show Kept (fun k => k = B + j) wr _ from Kept.of_below (show Bel wr _ from hW7)).grownF hc9.2 (fun k e => by injection e with e; exact .inl e.symm)), hc9.1⟩
                                exact ar_nil
                              exact ar_nil
                            exact ar_nil
                          refine arv1 (o := ({ dst := some 131, op := Go.Op.load 24 (Go.Operand.tmp 15), type := 24, pos := "law.go:159", after := #[], guard := none })) 15 (v := ?_) (W' := ?_) rfl (by rfl) (by rfl) (fun ev hc hf h0 => ?_) ?_ ?_; rotate_left 2; (focus (obtain ⟨e0, e1, e2⟩ := HS.out _ hW0; first | (go_simp; done) | (go_simp; with_reducible rfl) | (go_simp; constructor <;> with_reducible rfl)))
                          · simp only [Act.put, List.setIfInBounds_toArray, List.set_cons_zero, List.set_cons_succ]
                            refine aw_all [3, 10] (by kernel_rfl) (by simp) ?_
                            refine arv1 (o := ({ dst := some 130, op := Go.Op.load 44 (Go.Operand.tmp 129), type := 44, pos := "law.go:159", after := #[{ on := 2, ground := Go.Ground.data }], guard := none })) 129 (v := ?_) (W' := ?_) rfl (by rfl) (by rfl) (fun ev hc hf h0 => ?_) ?_ ?_; rotate_left 2; (focus (obtain ⟨e0, e1, e2⟩ := HS.out _ hW0; first | (go_simp; done) | (go_simp; with_reducible rfl) | (go_simp; constructor <;> with_reducible rfl)))
                            · simp only [Act.put, List.setIfInBounds_toArray, List.set_cons_zero, List.set_cons_succ]
                              refine aw_all [5, 10] (by kernel_rfl) (by simp) ?_
                              refine arc2 (o := ({ dst := some 132, op := Go.Op.call { callee := Go.Callee.value (Go.Operand.func 29), args := #[Go.Operand.tmp 130, Go.Operand.tmp 131], argTypes := #[44, 24] }, type := 47, pos := "law.go:159", after := #[{ on := 3, ground := Go.Ground.data }, { on := 4, ground := Go.Ground.data }], guard := none })) 130 131 _ _ _ rfl (by rfl) (by rfl) (by rfl) (fun ev hc hf h0 h1 => ?_) (HPREP.out _ hW0) (fun W12 hc12 => ?_) ?_
                              · focus (go_simp; done)
                              · simp only [Act.put, List.setIfInBounds_toArray, List.set_cons_zero, List.set_cons_succ]
                                refine awt1 6 132 (o := ({ dst := some 126, op := Go.Op.move (Go.Operand.tmp 132), type := 47, pos := "law.go:159", after := #[{ on := 5, ground := Go.Ground.data }], guard := none })) (v := ?_) rfl (by kernel_rfl) (by kernel_rfl) (by kernel_rfl) (fun _ _ _ h => h) (by rfl) (by rfl) (fun ev hc hf h0 W => ?_) ?_; rotate_left; (focus (first | (go_simp; done) | (go_simp; with_reducible rfl))); rotate_left; simp only [Act.put, List.setIfInBounds_toArray, List.set_cons_zero, List.set_cons_succ]
                                refine awt1 7 126 (o := ({ dst := some 133, op := Go.Op.extract (Go.Operand.tmp 126) 0, type := 4, pos := "law.go:159", after := #[{ on := 6, ground := Go.Ground.data }], guard := none })) (v := ?_) rfl (by kernel_rfl) (by kernel_rfl) (by kernel_rfl) (fun _ _ _ h => h) (by rfl) (by rfl) (fun ev hc hf h0 W => ?_) ?_; rotate_left; (focus (first | (go_simp; done) | (go_simp; with_reducible rfl))); rotate_left; simp only [Act.put, List.setIfInBounds_toArray, List.set_cons_zero, List.set_cons_succ]
                                refine awt1 8 126 (o := ({ dst := some 134, op := Go.Op.extract (Go.Operand.tmp 126) 1, type := 46, pos := "law.go:159", after := #[{ on := 6, ground := Go.Ground.data }, { on := 11, ground := Go.Ground.gcOnly Go.Departure.lateStores }], guard := none })) (v := ?_) rfl (by kernel_rfl) (by kernel_rfl) (by kernel_rfl) (fun _ _ _ h => h) (by rfl) (by rfl) (fun ev hc hf h0 W => ?_) ?_; rotate_left; (focus (first | (go_simp; done) | (go_simp; with_reducible rfl))); rotate_left; simp only [Act.put, List.setIfInBounds_toArray, List.set_cons_zero, List.set_cons_succ]
                                refine awt1 9 126 (o := ({ dst := some 135, op := Go.Op.extract (Go.Operand.tmp 126) 2, type := 30, pos := "law.go:159", after := #[{ on := 6, ground := Go.Ground.data }, { on := 12, ground := Go.Ground.gcOnly Go.Departure.lateStores }], guard := none })) (v := ?_) rfl (by kernel_rfl) (by kernel_rfl) (by kernel_rfl) (fun _ _ _ h => h) (by rfl) (by rfl) (fun ev hc hf h0 W => ?_) ?_; rotate_left; (focus (first | (go_simp; done) | (go_simp; with_reducible rfl))); rotate_left; simp only [Act.put, List.setIfInBounds_toArray, List.set_cons_zero, List.set_cons_succ]
                                refine aw_all [10] (by kernel_rfl) (by simp) ?_
                                refine ar_alloc (o := ({ dst := some 20, op := Go.Op.alloc 46, type := 0, pos := "law.go:159", after := #[], guard := none })) rfl (by rfl) (fun ev => rfl) (Bel.refl _) (fun g13 W13 hg13 hW13 hgo13 => ?_) ?_
                                · simp only [Act.put, List.setIfInBounds_toArray, List.set_cons_zero, List.set_cons_succ]
                                  exact END g13 W13 ⟨hgo13, Nat.le_trans (Nat.le_trans (show Bel wr _ from hW0).size hc12.2.size) hg13, ((show Kept (fun k => k = B + j) wr _ from Kept.of_below (show Bel wr _ from hW0)).grownF hc12.2 (fun k e => by injection e with e; exact .inl e.symm)).trans (Kept.of_below hW13), hc12.1.bel hW13⟩
                                exact ar_nil
                              refine ar_alloc (o := ({ dst := some 20, op := Go.Op.alloc 46, type := 0, pos := "law.go:159", after := #[], guard := none })) rfl (by rfl) (fun ev => rfl) hW0 (fun g14 W14 hg14 hW14 hgo14 => ?_) ?_
                              · simp only [Act.put, List.setIfInBounds_toArray, List.set_cons_zero, List.set_cons_succ]
                                refine aw_all [5] (by kernel_rfl) (by simp) ?_
                                refine arc2 (o := ({ dst := some 132, op := Go.Op.call { callee := Go.Callee.value (Go.Operand.func 29), args := #[Go.Operand.tmp 130, Go.Operand.tmp 131], argTypes := #[44, 24] }, type := 47, pos := "law.go:159", after := #[{ on := 3, ground := Go.Ground.data }, { on := 4, ground := Go.Ground.data }], guard := none })) 130 131 _ _ _ rfl (by rfl) (by rfl) (by rfl) (fun ev hc hf h0 h1 => ?_) (HPREP.out _ hW14) (fun W15 hc15 => ?_) ?_
                                · focus (go_simp; done)
                                · simp only [Act.put, List.setIfInBounds_toArray, List.set_cons_zero, List.set_cons_succ]
                                  refine awt1 6 132 (o := ({ dst := some 126, op := Go.Op.move (Go.Operand.tmp 132), type := 47, pos := "law.go:159", after := #[{ on := 5, ground := Go.Ground.data }], guard := none })) (v := ?_) rfl (by kernel_rfl) (by kernel_rfl) (by kernel_rfl) (fun _ _ _ h => h) (by rfl) (by rfl) (fun ev hc hf h0 W => ?_) ?_; rotate_left; (focus (first | (go_simp; done) | (go_simp; with_reducible rfl))); rotate_left; simp only [Act.put, List.setIfInBounds_toArray, List.set_cons_zero, List.set_cons_succ]
                                  refine awt1 7 126 (o := ({ dst := some 133, op := Go.Op.extract (Go.Operand.tmp 126) 0, type := 4, pos := "law.go:159", after := #[{ on := 6, ground := Go.Ground.data }], guard := none })) (v := ?_) rfl (by kernel_rfl) (by kernel_rfl) (by kernel_rfl) (fun _ _ _ h => h) (by rfl) (by rfl) (fun ev hc hf h0 W => ?_) ?_; rotate_left; (focus (first | (go_simp; done) | (go_simp; with_reducible rfl))); rotate_left; simp only [Act.put, List.setIfInBounds_toArray, List.set_cons_zero, List.set_cons_succ]
                                  refine awt1 8 126 (o := ({ dst := some 134, op := Go.Op.extract (Go.Operand.tmp 126) 1, type := 46, pos := "law.go:159", after := #[{ on := 6, ground := Go.Ground.data }, { on := 11, ground := Go.Ground.gcOnly Go.Departure.lateStores }], guard := none })) (v := ?_) rfl (by kernel_rfl) (by kernel_rfl) (by kernel_rfl) (fun _ _ _ h => h) (by rfl) (by rfl) (fun ev hc hf h0 W => ?_) ?_; rotate_left; (focus (first | (go_simp; done) | (go_simp; with_reducible rfl))); rotate_left; simp only [Act.put, List.setIfInBounds_toArray, List.set_cons_zero, List.set_cons_succ]
                                  refine awt1 9 126 (o := ({ dst := some 135, op := Go.Op.extract (Go.Operand.tmp 126) 2, type := 30, pos := "law.go:159", after := #[{ on := 6, ground := Go.Ground.data }, { on := 12, ground := Go.Ground.gcOnly Go.Departure.lateStores }], guard := none })) (v := ?_) rfl (by kernel_rfl) (by kernel_rfl) (by kernel_rfl) (fun _ _ _ h => h) (by rfl) (by rfl) (fun ev hc hf h0 W => ?_) ?_; rotate_left; (focus (first | (go_simp; done) | (go_simp; with_reducible rfl))); rotate_left; simp only [Act.put, List.setIfInBounds_toArray, List.set_cons_zero, List.set_cons_succ]
                                  exact END g14 W15 ⟨(hc15.2.block _ (Array.getElem?_eq_some_iff.1 hgo14).1 (by have := hg14; simp; omega)).trans hgo14, hg14, ((show Kept (fun k => k = B + j) wr _ from Kept.of_below (show Bel wr _ from hW14)).grownF hc15.2 (fun k e => by injection e with e; exact .inl e.symm)), hc15.1⟩
                                exact ar_nil
                              exact ar_nil
                            refine ar_alloc (o := ({ dst := some 20, op := Go.Op.alloc 46, type := 0, pos := "law.go:159", after := #[], guard := none })) rfl (by rfl) (fun ev => rfl) hW0 (fun g16 W16 hg16 hW16 hgo16 => ?_) ?_
                            · simp only [Act.put, List.setIfInBounds_toArray, List.set_cons_zero, List.set_cons_succ]
                              refine aw_all [3] (by kernel_rfl) (by simp) ?_
                              refine arv1 (o := ({ dst := some 130, op := Go.Op.load 44 (Go.Operand.tmp 129), type := 44, pos := "law.go:159", after := #[{ on := 2, ground := Go.Ground.data }], guard := none })) 129 (v := ?_) (W' := ?_) rfl (by rfl) (by rfl) (fun ev hc hf h0 => ?_) ?_ ?_; rotate_left 2; (focus (obtain ⟨e0, e1, e2⟩ := HS.out _ hW16; first | (go_simp; done) | (go_simp; with_reducible rfl) | (go_simp; constructor <;> with_reducible rfl)))
                              · simp only [Act.put, List.setIfInBounds_toArray, List.set_cons_zero, List.set_cons_succ]
                                refine aw_all [5] (by kernel_rfl) (by simp) ?_
                                refine arc2 (o := ({ dst := some 132, op := Go.Op.call { callee := Go.Callee.value (Go.Operand.func 29), args := #[Go.Operand.tmp 130, Go.Operand.tmp 131], argTypes := #[44, 24] }, type := 47, pos := "law.go:159", after := #[{ on := 3, ground := Go.Ground.data }, { on := 4, ground := Go.Ground.data }], guard := none })) 130 131 _ _ _ rfl (by rfl) (by rfl) (by rfl) (fun ev hc hf h0 h1 => ?_) (HPREP.out _ hW16) (fun W18 hc18 => ?_) ?_
                                · focus (go_simp; done)
                                · simp only [Act.put, List.setIfInBounds_toArray, List.set_cons_zero, List.set_cons_succ]
                                  refine awt1 6 132 (o := ({ dst := some 126, op := Go.Op.move (Go.Operand.tmp 132), type := 47, pos := "law.go:159", after := #[{ on := 5, ground := Go.Ground.data }], guard := none })) (v := ?_) rfl (by kernel_rfl) (by kernel_rfl) (by kernel_rfl) (fun _ _ _ h => h) (by rfl) (by rfl) (fun ev hc hf h0 W => ?_) ?_; rotate_left; (focus (first | (go_simp; done) | (go_simp; with_reducible rfl))); rotate_left; simp only [Act.put, List.setIfInBounds_toArray, List.set_cons_zero, List.set_cons_succ]
                                  refine awt1 7 126 (o := ({ dst := some 133, op := Go.Op.extract (Go.Operand.tmp 126) 0, type := 4, pos := "law.go:159", after := #[{ on := 6, ground := Go.Ground.data }], guard := none })) (v := ?_) rfl (by kernel_rfl) (by kernel_rfl) (by kernel_rfl) (fun _ _ _ h => h) (by rfl) (by rfl) (fun ev hc hf h0 W => ?_) ?_; rotate_left; (focus (first | (go_simp; done) | (go_simp; with_reducible rfl))); rotate_left; simp only [Act.put, List.setIfInBounds_toArray, List.set_cons_zero, List.set_cons_succ]
                                  refine awt1 8 126 (o := ({ dst := some 134, op := Go.Op.extract (Go.Operand.tmp 126) 1, type := 46, pos := "law.go:159", after := #[{ on := 6, ground := Go.Ground.data }, { on := 11, ground := Go.Ground.gcOnly Go.Departure.lateStores }], guard := none })) (v := ?_) rfl (by kernel_rfl) (by kernel_rfl) (by kernel_rfl) (fun _ _ _ h => h) (by rfl) (by rfl) (fun ev hc hf h0 W => ?_) ?_; rotate_left; (focus (first | (go_simp; done) | (go_simp; with_reducible rfl))); rotate_left; simp only [Act.put, List.setIfInBounds_toArray, List.set_cons_zero, List.set_cons_succ]
                                  refine awt1 9 126 (o := ({ dst := some 135, op := Go.Op.extract (Go.Operand.tmp 126) 2, type := 30, pos := "law.go:159", after := #[{ on := 6, ground := Go.Ground.data }, { on := 12, ground := Go.Ground.gcOnly Go.Departure.lateStores }], guard := none })) (v := ?_) rfl (by kernel_rfl) (by kernel_rfl) (by kernel_rfl) (fun _ _ _ h => h) (by rfl) (by rfl) (fun ev hc hf h0 W => ?_) ?_; rotate_left; (focus (first | (go_simp; done) | (go_simp; with_reducible rfl))); rotate_left; simp only [Act.put, List.setIfInBounds_toArray, List.set_cons_zero, List.set_cons_succ]
                                  exact END g16 W18 ⟨(hc18.2.block _ (Array.getElem?_eq_some_iff.1 hgo16).1 (by have := hg16; simp; omega)).trans hgo16, hg16, ((show Kept (fun k => k = B + j) wr _ from Kept.of_below (show Bel wr _ from hW16)).grownF hc18.2 (fun k e => by injection e with e; exact .inl e.symm)), hc18.1⟩
                                exact ar_nil
                              exact ar_nil
                            exact ar_nil
                          refine ar_alloc (o := ({ dst := some 20, op := Go.Op.alloc 46, type := 0, pos := "law.go:159", after := #[], guard := none })) rfl (by rfl) (fun ev => rfl) hW0 (fun g19 W19 hg19 hW19 hgo19 => ?_) ?_
                          · simp only [Act.put, List.setIfInBounds_toArray, List.set_cons_zero, List.set_cons_succ]
                            refine aw_all [3, 4] (by kernel_rfl) (by simp) ?_
                            refine arv1 (o := ({ dst := some 130, op := Go.Op.load 44 (Go.Operand.tmp 129), type := 44, pos := "law.go:159", after := #[{ on := 2, ground := Go.Ground.data }], guard := none })) 129 (v := ?_) (W' := ?_) rfl (by rfl) (by rfl) (fun ev hc hf h0 => ?_) ?_ ?_; rotate_left 2; (focus (obtain ⟨e0, e1, e2⟩ := HS.out _ hW19; first | (go_simp; done) | (go_simp; with_reducible rfl) | (go_simp; constructor <;> with_reducible rfl)))
                            · simp only [Act.put, List.setIfInBounds_toArray, List.set_cons_zero, List.set_cons_succ]
                              refine aw_all [4] (by kernel_rfl) (by simp) ?_
                              refine arv1 (o := ({ dst := some 131, op := Go.Op.load 24 (Go.Operand.tmp 15), type := 24, pos := "law.go:159", after := #[], guard := none })) 15 (v := ?_) (W' := ?_) rfl (by rfl) (by rfl) (fun ev hc hf h0 => ?_) ?_ ?_; rotate_left 2; (focus (obtain ⟨e0, e1, e2⟩ := HS.out _ hW19; first | (go_simp; done) | (go_simp; with_reducible rfl) | (go_simp; constructor <;> with_reducible rfl)))
                              · simp only [Act.put, List.setIfInBounds_toArray, List.set_cons_zero, List.set_cons_succ]
                                refine aw_all [5] (by kernel_rfl) (by simp) ?_
                                refine arc2 (o := ({ dst := some 132, op := Go.Op.call { callee := Go.Callee.value (Go.Operand.func 29), args := #[Go.Operand.tmp 130, Go.Operand.tmp 131], argTypes := #[44, 24] }, type := 47, pos := "law.go:159", after := #[{ on := 3, ground := Go.Ground.data }, { on := 4, ground := Go.Ground.data }], guard := none })) 130 131 _ _ _ rfl (by rfl) (by rfl) (by rfl) (fun ev hc hf h0 h1 => ?_) (HPREP.out _ hW19) (fun W22 hc22 => ?_) ?_
                                · focus (go_simp; done)
                                · simp only [Act.put, List.setIfInBounds_toArray, List.set_cons_zero, List.set_cons_succ]
                                  refine awt1 6 132 (o := ({ dst := some 126, op := Go.Op.move (Go.Operand.tmp 132), type := 47, pos := "law.go:159", after := #[{ on := 5, ground := Go.Ground.data }], guard := none })) (v := ?_) rfl (by kernel_rfl) (by kernel_rfl) (by kernel_rfl) (fun _ _ _ h => h) (by rfl) (by rfl) (fun ev hc hf h0 W => ?_) ?_; rotate_left; (focus (first | (go_simp; done) | (go_simp; with_reducible rfl))); rotate_left; simp only [Act.put, List.setIfInBounds_toArray, List.set_cons_zero, List.set_cons_succ]
                                  refine awt1 7 126 (o := ({ dst := some 133, op := Go.Op.extract (Go.Operand.tmp 126) 0, type := 4, pos := "law.go:159", after := #[{ on := 6, ground := Go.Ground.data }], guard := none })) (v := ?_) rfl (by kernel_rfl) (by kernel_rfl) (by kernel_rfl) (fun _ _ _ h => h) (by rfl) (by rfl) (fun ev hc hf h0 W => ?_) ?_; rotate_left; (focus (first | (go_simp; done) | (go_simp; with_reducible rfl))); rotate_left; simp only [Act.put, List.setIfInBounds_toArray, List.set_cons_zero, List.set_cons_succ]
                                  refine awt1 8 126 (o := ({ dst := some 134, op := Go.Op.extract (Go.Operand.tmp 126) 1, type := 46, pos := "law.go:159", after := #[{ on := 6, ground := Go.Ground.data }, { on := 11, ground := Go.Ground.gcOnly Go.Departure.lateStores }], guard := none })) (v := ?_) rfl (by kernel_rfl) (by kernel_rfl) (by kernel_rfl) (fun _ _ _ h => h) (by rfl) (by rfl) (fun ev hc hf h0 W => ?_) ?_; rotate_left; (focus (first | (go_simp; done) | (go_simp; with_reducible rfl))); rotate_left; simp only [Act.put, List.setIfInBounds_toArray, List.set_cons_zero, List.set_cons_succ]
                                  refine awt1 9 126 (o := ({ dst := some 135, op := Go.Op.extract (Go.Operand.tmp 126) 2, type := 30, pos := "law.go:159", after := #[{ on := 6, ground := Go.Ground.data }, { on := 12, ground := Go.Ground.gcOnly Go.Departure.lateStores }], guard := none })) (v := ?_) rfl (by kernel_rfl) (by kernel_rfl) (by kernel_rfl) (fun _ _ _ h => h) (by rfl) (by rfl) (fun ev hc hf h0 W => ?_) ?_; rotate_left; (focus (first | (go_simp; done) | (go_simp; with_reducible rfl))); rotate_left; simp only [Act.put, List.setIfInBounds_toArray, List.set_cons_zero, List.set_cons_succ]
                                  exact END g19 W22 ⟨(hc22.2.block _ (Array.getElem?_eq_some_iff.1 hgo19).1 (by have := hg19; simp; omega)).trans hgo19, hg19, ((show Kept (fun k => k = B + j) wr _ from Kept.of_below (show Bel wr _ from hW19)).grownF hc22.2 (fun k e => by injection e with e; exact .inl e.symm)), hc22.1⟩
                                exact ar_nil
                              exact ar_nil
                            refine arv1 (o := ({ dst := some 131, op := Go.Op.load 24 (Go.Operand.tmp 15), type := 24, pos := "law.go:159", after := #[], guard := none })) 15 (v := ?_) (W' := ?_) rfl (by rfl) (by rfl) (fun ev hc hf h0 => ?_) ?_ ?_; rotate_left 2; (focus (obtain ⟨e0, e1, e2⟩ := HS.out _ hW19; first | (go_simp; done) | (go_simp; with_reducible rfl) | (go_simp; constructor <;> with_reducible rfl)))
                            · simp only [Act.put, List.setIfInBounds_toArray, List.set_cons_zero, List.set_cons_succ]
                              refine aw_all [3] (by kernel_rfl) (by simp) ?_
                              refine arv1 (o := ({ dst := some 130, op := Go.Op.load 44 (Go.Operand.tmp 129), type := 44, pos := "law.go:159", after := #[{ on := 2, ground := Go.Ground.data }], guard := none })) 129 (v := ?_) (W' := ?_) rfl (by rfl) (by rfl) (fun ev hc hf h0 => ?_) ?_ ?_; rotate_left 2; (focus (obtain ⟨e0, e1, e2⟩ := HS.out _ hW19; first | (go_simp; done) | (go_simp; with_reducible rfl) | (go_simp; constructor <;> with_reducible rfl)))
                              · simp only [Act.put, List.setIfInBounds_toArray, List.set_cons_zero, List.set_cons_succ]
                                refine aw_all [5] (by kernel_rfl) (by simp) ?_
                                refine arc2 (o := ({ dst := some 132, op := Go.Op.call { callee := Go.Callee.value (Go.Operand.func 29), args := #[Go.Operand.tmp 130, Go.Operand.tmp 131], argTypes := #[44, 24] }, type := 47, pos := "law.go:159", after := #[{ on := 3, ground := Go.Ground.data }, { on := 4, ground := Go.Ground.data }], guard := none })) 130 131 _ _ _ rfl (by rfl) (by rfl) (by rfl) (fun ev hc hf h0 h1 => ?_) (HPREP.out _ hW19) (fun W25 hc25 => ?_) ?_
                                · focus (go_simp; done)
                                · simp only [Act.put, List.setIfInBounds_toArray, List.set_cons_zero, List.set_cons_succ]
                                  refine awt1 6 132 (o := ({ dst := some 126, op := Go.Op.move (Go.Operand.tmp 132), type := 47, pos := "law.go:159", after := #[{ on := 5, ground := Go.Ground.data }], guard := none })) (v := ?_) rfl (by kernel_rfl) (by kernel_rfl) (by kernel_rfl) (fun _ _ _ h => h) (by rfl) (by rfl) (fun ev hc hf h0 W => ?_) ?_; rotate_left; (focus (first | (go_simp; done) | (go_simp; with_reducible rfl))); rotate_left; simp only [Act.put, List.setIfInBounds_toArray, List.set_cons_zero, List.set_cons_succ]
                                  refine awt1 7 126 (o := ({ dst := some 133, op := Go.Op.extract (Go.Operand.tmp 126) 0, type := 4, pos := "law.go:159", after := #[{ on := 6, ground := Go.Ground.data }], guard := none })) (v := ?_) rfl (by kernel_rfl) (by kernel_rfl) (by kernel_rfl) (fun _ _ _ h => h) (by rfl) (by rfl) (fun ev hc hf h0 W => ?_) ?_; rotate_left; (focus (first | (go_simp; done) | (go_simp; with_reducible rfl))); rotate_left; simp only [Act.put, List.setIfInBounds_toArray, List.set_cons_zero, List.set_cons_succ]
                                  refine awt1 8 126 (o := ({ dst := some 134, op := Go.Op.extract (Go.Operand.tmp 126) 1, type := 46, pos := "law.go:159", after := #[{ on := 6, ground := Go.Ground.data }, { on := 11, ground := Go.Ground.gcOnly Go.Departure.lateStores }], guard := none })) (v := ?_) rfl (by kernel_rfl) (by kernel_rfl) (by kernel_rfl) (fun _ _ _ h => h) (by rfl) (by rfl) (fun ev hc hf h0 W => ?_) ?_; rotate_left; (focus (first | (go_simp; done) | (go_simp; with_reducible rfl))); rotate_left; simp only [Act.put, List.setIfInBounds_toArray, List.set_cons_zero, List.set_cons_succ]
                                  refine awt1 9 126 (o := ({ dst := some 135, op := Go.Op.extract (Go.Operand.tmp 126) 2, type := 30, pos := "law.go:159", after := #[{ on := 6, ground := Go.Ground.data }, { on := 12, ground := Go.Ground.gcOnly Go.Departure.lateStores }], guard := none })) (v := ?_) rfl (by kernel_rfl) (by kernel_rfl) (by kernel_rfl) (fun _ _ _ h => h) (by rfl) (by rfl) (fun ev hc hf h0 W => ?_) ?_; rotate_left; (focus (first | (go_simp; done) | (go_simp; with_reducible rfl))); rotate_left; simp only [Act.put, List.setIfInBounds_toArray, List.set_cons_zero, List.set_cons_succ]
                                  exact END g19 W25 ⟨(hc25.2.block _ (Array.getElem?_eq_some_iff.1 hgo19).1 (by have := hg19; simp; omega)).trans hgo19, hg19, ((show Kept (fun k => k = B + j) wr _ from Kept.of_below (show Bel wr _ from hW19)).grownF hc25.2 (fun k e => by injection e with e; exact .inl e.symm)), hc25.1⟩
                                exact ar_nil
                              exact ar_nil
                            exact ar_nil
                          exact ar_nil
                        rintro gg w8 ⟨hgg, hge, hK8, hBk8⟩
                        refine awt1 11 133 (o := ({ dst := some 19, op := Go.Op.assign (Go.Operand.tmp 133), type := 4, pos := "law.go:159", after := #[{ on := 7, ground := Go.Ground.data }, { on := 5, ground := Go.Ground.chain }, { on := 0, ground := Go.Ground.phase }, { on := 1, ground := Go.Ground.phase }, { on := 2, ground := Go.Ground.phase }, { on := 3, ground := Go.Ground.phase }, { on := 4, ground := Go.Ground.phase }, { on := 5, ground := Go.Ground.phase }, { on := 6, ground := Go.Ground.phase }, { on := 7, ground := Go.Ground.phase }, { on := 8, ground := Go.Ground.textOnly Go.Departure.lateStores }, { on := 9, ground := Go.Ground.textOnly Go.Departure.lateStores }, { on := 10, ground := Go.Ground.phase }], guard := none })) (v := ?_) rfl (by kernel_rfl) (by kernel_rfl) (by kernel_rfl) (fun _ _ _ h => h) (by rfl) (by rfl) (fun ev hc hf h0 W => ?_) ?_; rotate_left; (focus (first | (go_simp; done) | (go_simp; with_reducible rfl))); rotate_left; simp only [Act.put, List.setIfInBounds_toArray, List.set_cons_zero, List.set_cons_succ]
                        have Bg8 : Bk w8 gg #[.bool false, .int .u64 0, .int .i64 0, .string ⟨#[]⟩] 46 := hgg
                        obtain ⟨q0, q1, q2, q3⟩ : w8.cell? ⟨gg, 0, none⟩ = some (.bool false) ∧ w8.cell? ⟨gg, 1, none⟩ = some (.int .u64 0) ∧ w8.cell? ⟨gg, 2, none⟩ = some (.int .i64 0) ∧ w8.cell? ⟨gg, 3, none⟩ = some (.string ⟨#[]⟩) := ⟨Bg8.cell 0, Bg8.cell 1, Bg8.cell 2, Bg8.cell 3⟩
                        have qf0 := Bg8.free 0
                        have qf1 := Bg8.free 1
                        have qf2 := Bg8.free 2
                        have qf3 := Bg8.free 3
                        refine aw_all [12] (by kernel_rfl) (by simp) ?_
                        refine ars2 (o := ({ dst := none, op := Go.Op.store 46 (Go.Operand.tmp 20) (Go.Operand.tmp 134), type := 0, pos := "law.go:159", after := #[{ on := 10, ground := Go.Ground.data }, { on := 8, ground := Go.Ground.data }, { on := 11, ground := Go.Ground.chain }, { on := 0, ground := Go.Ground.phase }, { on := 1, ground := Go.Ground.phase }, { on := 2, ground := Go.Ground.phase }, { on := 3, ground := Go.Ground.phase }, { on := 4, ground := Go.Ground.phase }, { on := 5, ground := Go.Ground.phase }, { on := 6, ground := Go.Ground.phase }, { on := 7, ground := Go.Ground.phase }, { on := 8, ground := Go.Ground.phase }, { on := 9, ground := Go.Ground.textOnly Go.Departure.lateStores }, { on := 10, ground := Go.Ground.phase }, { on := 11, ground := Go.Ground.phase }], guard := none })) 20 134 (W' := (((w8.setCell ⟨gg, 0, none⟩ (.bool (ac2 j).has)).setCell ⟨gg, 1, none⟩ (.int .u64 (ac2 j).vr)).setCell ⟨gg, 2, none⟩ (.int .i64 (ac2 j).vn)).setCell ⟨gg, 3, none⟩ (.string (ac2 j).val)) rfl (by rfl) (by rfl) (by rfl) (fun ev hc hf h0 h1 => ?_) ?_ ?_
                        · focus (go_simp; done)
                        · simp only [Act.put, List.setIfInBounds_toArray, List.set_cons_zero, List.set_cons_succ]
                          have KK9 := Lib.hid ((((hK8.setNew (p := ⟨gg, 0, none⟩) hge (.bool (ac2 j).has)).setNew (p := ⟨gg, 1, none⟩) hge (.int .u64 (ac2 j).vr)).setNew (p := ⟨gg, 2, none⟩) hge (.int .i64 (ac2 j).vn)).setNew (p := ⟨gg, 3, none⟩) hge (.string (ac2 j).val))
                          have BG9 := Lib.hid ((((Bg8.set 0 (.bool (ac2 j).has)).set 1 (.int .u64 (ac2 j).vr)).set 2 (.int .i64 (ac2 j).vn)).set 3 (.string (ac2 j).val))
                          have BA9 := Lib.hid ((((hBk8.far (p := ⟨gg, 0, none⟩) (by dsimp only; omega) (.bool (ac2 j).has)).far (p := ⟨gg, 1, none⟩) (by dsimp only; omega) (.int .u64 (ac2 j).vr)).far (p := ⟨gg, 2, none⟩) (by dsimp only; omega) (.int .i64 (ac2 j).vn)).far (p := ⟨gg, 3, none⟩) (by dsimp only; omega) (.string (ac2 j).val))
                          clear q0 q1 q2 q3 qf0 qf1 qf2 qf3 Bg8 hgg hBk8 hK8
                          generalize (((w8.setCell ⟨gg, 0, none⟩ (.bool (ac2 j).has)).setCell ⟨gg, 1, none⟩ (.int .u64 (ac2 j).vr)).setCell ⟨gg, 2, none⟩ (.int .i64 (ac2 j).vn)).setCell ⟨gg, 3, none⟩ (.string (ac2 j).val) = w9 at KK9 BG9 BA9 ⊢
                          refine awt1 13 135 (o := ({ dst := some 21, op := Go.Op.assign (Go.Operand.tmp 135), type := 30, pos := "law.go:159", after := #[{ on := 9, ground := Go.Ground.data }, { on := 12, ground := Go.Ground.chain }, { on := 0, ground := Go.Ground.phase }, { on := 1, ground := Go.Ground.phase }, { on := 2, ground := Go.Ground.phase }, { on := 3, ground := Go.Ground.phase }, { on := 4, ground := Go.Ground.phase }, { on := 5, ground := Go.Ground.phase }, { on := 6, ground := Go.Ground.phase }, { on := 7, ground := Go.Ground.phase }, { on := 8, ground := Go.Ground.phase }, { on := 9, ground := Go.Ground.phase }, { on := 10, ground := Go.Ground.phase }, { on := 11, ground := Go.Ground.phase }, { on := 12, ground := Go.Ground.phase }], guard := none })) (v := ?_) rfl (by kernel_rfl) (by kernel_rfl) (by kernel_rfl) (fun _ _ _ h => h) (by rfl) (by rfl) (fun ev hc hf h0 W => ?_) ?_; rotate_left; (focus (first | (go_simp; done) | (go_simp; with_reducible rfl))); rotate_left; simp only [Act.put, List.setIfInBounds_toArray, List.set_cons_zero, List.set_cons_succ]
                          refine aw_done (by kernel_rfl) ?_
                          have HP9 := HP7.out.kept KK9.out (by omega) (by omega) (by omega) (fun k hk => by have := hs7 k hk; omega)
                          have HNo9 := HNo7.out.turn j hjlt _ BA9.out (fun k hk hne => KK9.out.block k (by omega) hne) KK9.out.size
                          have K9 := K7.out.kept KK9.out (by omega)
                          have HB9 := KK9.out.below HB7.out (fun k e => by have := HNo7.out.low; omega) HB7.out.size
                          have hpr := ppromise_any (j : Int) (vtOf (ac2 j)) HP9 (by omega) (by rw [HI.out.prom.hN]; omega) (by rw [HI.out.r, HI.out.n]; exact (named_split hnamed).1) (may_ok HI.out hjlt) (by have := HI.out.nn; omega)
                          rw [HI.out.r, HI.out.n] at hpr
                          have HPR := Lib.hid hpr
                          obtain ⟨q0, q1, q2, q3⟩ : w9.cell? ⟨gg, 0, none⟩ = some (.bool (ac2 j).has) ∧ w9.cell? ⟨gg, 1, none⟩ = some (.int .u64 (ac2 j).vr) ∧ w9.cell? ⟨gg, 2, none⟩ = some (.int .i64 (ac2 j).vn) ∧ w9.cell? ⟨gg, 3, none⟩ = some (.string (ac2 j).val) := ⟨by simpa using BG9.out.cell 0, by simpa using BG9.out.cell 1, by simpa using BG9.out.cell 2, by simpa using BG9.out.cell 3⟩
                          obtain ⟨k0, k1⟩ : w9.cell? ⟨p, 0, none⟩ = some (.int .u64 ((i : Int) + 1)) ∧ w9.cell? ⟨p, 1, none⟩ = some (.int .i64 ((i : Int) % 7)) := ⟨K9.cell 0, K9.cell 1⟩
                          have HNo9 := Lib.hid HNo9
                          have K9 := Lib.hid K9
                          have HB9 := Lib.hid HB9
                          have hp9 := K9.out.lt
                          clear hpr HP9 HS HPREP hW0 KK9 BG9 BA9
                          go_wp2_with fail
                          refine HPR.out.mono ?_
                          rintro e w10 ⟨rfl, s', PN⟩
                          have PL := PN.kept9 (B := p + 1) (by omega) (by omega) (by omega) hs7 hp9
                          have HNo10 := Lib.hid (HNo9.out.low' PL.1 (by omega))
                          have K10 := Lib.hid (K9.out.below PL.1 (by omega))
                          have HB10 := Lib.hid (HB9.out.trans (PL.1.mono (by have := HB9.out.size; omega)))
                          have HP10 := Lib.hid PN.at'
                          have HI10 := Lib.hid (HI.out.step (by omega))
                          have hs10 := PL.2
                          clear PN PL q0 q1 q2 q3 k0 k1 HNo9 K9 HB9 HPR
                          go_wp2_with fail
                          go_roundw
                          case rel => exact ⟨j + 1, _, s', _, by omega, by go_num, HI10, HNo10, HP10, K10, hs10, HB10⟩
                          case measure => simp [intOf]; omega
                        exact ar_nil
                    · obtain rfl : N = j := by omega
                      have hv8 : (v.size : Int) ≤ 8192 := by omega
                      go_wp2_with fail
                      refine (pvalue_any HP7.out (by have := HI.out.nn; omega)).mono ?_
                      rintro e w8 ⟨rfl, hb8⟩
                      have HP8 := Lib.hid (HP7.out.keep hb8)
                      have HNo8 := Lib.hid (HNo7.out.keep hb8)
                      have K8 := Lib.hid (K7.out.bel hb8)
                      have HB8 := Lib.hid (HB7.out.trans (hb8.mono HB7.out.size))
                      have hP8 := HP7.out
                      have hPN := HI.out.prom.hN
                      cases hen : enB N P.order.length with
                      | false =>
                        have HE : pValue P = (⟨#[]⟩, false) := by unfold pValue; rw [hPN, if_neg (by rw [hen]; simp)]
                        rw [HE]
                        have HG' := Lib.hid (show Good N ((i + 1 : Nat) : Int) ac2 ch hz from HI.out.good)
                        clear hb8 HP7 HNo7 K7 HB7 hP8 HP8 K8 HG HI HE
                        go_wp2_with fail
                        go_roundw
                        case rel => exact ⟨i + 1, m + 1, ac2, ch, hz, by omega, by omega, rfl, rfl, by go_num, by go_num, HG', HNo8, HB8⟩
                        case measure => simp [intOf]; omega
                      | true =>
                        have hI5 := acc_start HI.out hP8.ord hP8.nd (fun y hy => by have := hP8.keys y hy; rw [hPN] at this; exact this) hen hv8
                        have HE := hI5.pv
                        generalize (pValue P).1 = u at hI5 HE
                        rw [HE]
                        have HI5 := Lib.hid hI5
                        clear hb8 HP7 HNo7 K7 HB7 hP8 hI5 HI HE HG hPN
                        cases hz with
                        | false =>
                          go_wp2_with fail
                          obtain ⟨m1, hm1⟩ : ∃ m1 : Nat, (m : Int) + 1 = m1 := ⟨m + 1, rfl⟩
                          rw [hm1]
                          go_loopw [24] (fun jj wr => ∃ (j : Nat) (ac3 : Nat → Acc) (P3 : Prp), j ≤ N ∧ jj = .int .i64 j ∧ Hid (InAcc N ((i : Int) + 1) ((i : Int) % 7) u j ac3 ch false P3) ∧ Hid (NodesAt wr N w.heap.size B ac3) ∧ Hid (PropAt wr g pm am s P3) ∧ Hid (Bk wr p #[.int .u64 ((i : Int) + 1), .int .i64 ((i : Int) % 7)] 24) ∧ Hid (Below w.heap.size w wr)) (fun jj _ => N + 1 - (intOf jj).toNat)
                          case atStart => exact ⟨0, ac2, P, Nat.zero_le _, rfl, HI5, HNo8, HP8, K8, HB8⟩
                          case round =>
                            obtain ⟨j, ac3, P3, hjN, rfl, HI, HNo7, HP7, K7, HB7⟩ := hrel
                            clear HI5 HNo8 HP8 K8 HB8
                            have hji : (j : Int) ≤ (N : Int) := by omega
                            by_cases hjlt : j < N
                            · have hjne : (j : Int) < (N : Int) := by omega
                              by_cases hmh : m1 < hs.length
                              · have hmi : (m1 : Int) < (hs.length : Int) := by omega
                                obtain ⟨b2, o2, rfl, hc2⟩ : ∃ b2 o2, C = some ⟨b2, o2, none⟩ ∧ w.cell? ⟨b2, o2 + m1, none⟩ = some (.int .u16 (hs.getD m1 0)) := by
                                  rcases HH.out with h0 | ⟨b2, o2, e, h⟩
                                  · rw [h0] at hmh; simp at hmh
                                  · exact ⟨b2, o2, e, h m1 hmh⟩
                                have hcr := Bel.cell HB7.out hc2
                                have hzr := hr (hs.getD m1 0) (by rw [List.getD_eq_getElem?_getD, List.getElem?_eq_getElem hmh]; exact List.getElem_mem hmh)
                                clear hc2
                                generalize hs.getD m1 0 = zz at hcr hzr
                                obtain ⟨zz0, zz1⟩ := hzr
                                go_upto_region 45 with fail
                                · refine ⟨⟨j + 1, ac3, P3, by omega, by go_num, Lib.hid HI.out.skip, HNo7, HP7, K7, HB7⟩, ?_⟩
                                  simp [intOf]
                                  omega
                                · have HS := Lib.hid (show ∀ w', Bel wr w' → w'.cell? ⟨w.heap.size, j, none⟩ = some (.pointer (some ⟨B + j, 0, none⟩)) ∧ w'.cell? ⟨p, 0, none⟩ = some (.int .u64 ((i : Int) + 1)) ∧ w'.cell? ⟨p, 1, none⟩ = some (.int .i64 ((i : Int) % 7)) from fun w' hw => ⟨(HNo7.out.keep hw).row j hjlt, (K7.out.bel hw).cell 0, (K7.out.bel hw).cell 1⟩)
                                  have hnamed : namedB ((i : Int) + 1) ((i : Int) % 7) = true := named_ok _ _ (by omega) (by omega) hmod0 hmod7
                                  have hW0 : Bel wr wr.drew := (Bel.refl wr).drew
                                  have HAC := Lib.hid (show Calls Try.prog 30 #[.pointer (some ⟨B + j, 0, none⟩), .agg #[.int .u64 ((i : Int) + 1), .int .i64 ((i : Int) % 7)], .string u] wr.drew fun e W' => e = .returned (.tuple #[.bool true, .int .i64 0]) ∧ (Bk W' (B + j) (Acc.accept ((i : Int) + 1) ((i : Int) % 7) u).cells 116 ∧ wr.drew.grownBy W' (some (B + j))) from by
                                    have h9 := accept_any (B + j) (ac3 j) ((i : Int) + 1) ((i : Int) % 7) u wr.drew ((HNo7.out.node j hjlt).bel hW0) (by have := HI.out.usz; omega)
                                    unfold AcptPost at h9
                                    rw [acpt_ok HI.out hjlt hnamed] at h9
                                    exact h9)
                                  have htop7 := HNo7.out.top
                                  refine wp_aw 12 #[false, false, false, false, false, false, false, false, false, false, false, false] rfl rfl ?_
                                  refine aw_join 6 ?L45Ax ?F45Ax wr.drew (fun END => ?_) ?_
                                  case refine_1 =>
                                    refine awt1 0 9 (o := ({ dst := some 188, op := Go.Op.move (Go.Operand.tmp 9), type := 92, pos := "law.go:180", after := #[], guard := none })) (v := ?_) rfl (by kernel_rfl) (by kernel_rfl) (by kernel_rfl) (fun _ _ _ h => h) (by rfl) (by rfl) (fun ev hc hf h0 W => ?_) ?_; rotate_left; (focus (first | (go_simp; done) | (go_simp; with_reducible rfl))); rotate_left; simp only [Act.put, List.setIfInBounds_toArray, List.set_cons_zero, List.set_cons_succ]
                                    refine awt1 1 24 (o := ({ dst := some 189, op := Go.Op.move (Go.Operand.tmp 24), type := 3, pos := "law.go:180", after := #[], guard := none })) (v := ?_) rfl (by kernel_rfl) (by kernel_rfl) (by kernel_rfl) (fun _ _ _ h => h) (by rfl) (by rfl) (fun ev hc hf h0 W => ?_) ?_; rotate_left; (focus (first | (go_simp; done) | (go_simp; with_reducible rfl))); rotate_left; simp only [Act.put, List.setIfInBounds_toArray, List.set_cons_zero, List.set_cons_succ]
                                    refine awt2 2 188 189 (o := ({ dst := some 190, op := Go.Op.indexAddr 92 (Go.Operand.tmp 188) (Go.Operand.tmp 189), type := 0, pos := "law.go:180", after := #[{ on := 0, ground := Go.Ground.data }, { on := 1, ground := Go.Ground.data }], guard := none })) (v := ?_) rfl (by kernel_rfl) (by kernel_rfl) (by kernel_rfl) (fun _ _ _ h => h) (by rfl) (by rfl) (by rfl) (fun ev hc hf h0 h1 W => ?_) ?_; rotate_left; (focus (first | (go_simp; done) | (go_simp; with_reducible rfl))); rotate_left; simp only [Act.put, List.setIfInBounds_toArray, List.set_cons_zero, List.set_cons_succ]
                                    refine awt1 5 22 (o := ({ dst := some 193, op := Go.Op.move (Go.Operand.tmp 22), type := 9, pos := "law.go:180", after := #[], guard := none })) (v := ?_) rfl (by kernel_rfl) (by kernel_rfl) (by kernel_rfl) (fun _ _ _ h => h) (by rfl) (by rfl) (fun ev hc hf h0 W => ?_) ?_; rotate_left; (focus (first | (go_simp; done) | (go_simp; with_reducible rfl))); rotate_left; simp only [Act.put, List.setIfInBounds_toArray, List.set_cons_zero, List.set_cons_succ]
                                    refine aw_all [3, 4] (by kernel_rfl) (by simp) ?_
                                    refine arv1 (o := ({ dst := some 191, op := Go.Op.load 44 (Go.Operand.tmp 190), type := 44, pos := "law.go:180", after := #[{ on := 2, ground := Go.Ground.data }], guard := none })) 190 (v := ?_) (W' := ?_) rfl (by rfl) (by rfl) (fun ev hc hf h0 => ?_) ?_ ?_; rotate_left 2; (focus (obtain ⟨e0, e1, e2⟩ := HS.out _ hW0; first | (go_simp; done) | (go_simp; with_reducible rfl) | (go_simp; constructor <;> with_reducible rfl)))
                                    · simp only [Act.put, List.setIfInBounds_toArray, List.set_cons_zero, List.set_cons_succ]
                                      refine aw_all [4] (by kernel_rfl) (by simp) ?_
                                      refine arv1 (o := ({ dst := some 192, op := Go.Op.load 24 (Go.Operand.tmp 15), type := 24, pos := "law.go:180", after := #[], guard := none })) 15 (v := ?_) (W' := ?_) rfl (by rfl) (by rfl) (fun ev hc hf h0 => ?_) ?_ ?_; rotate_left 2; (focus (obtain ⟨e0, e1, e2⟩ := HS.out _ hW0; first | (go_simp; done) | (go_simp; with_reducible rfl) | (go_simp; constructor <;> with_reducible rfl)))
                                      · simp only [Act.put, List.setIfInBounds_toArray, List.set_cons_zero, List.set_cons_succ]
                                        exact END
                                      exact ar_nil
                                    refine arv1 (o := ({ dst := some 192, op := Go.Op.load 24 (Go.Operand.tmp 15), type := 24, pos := "law.go:180", after := #[], guard := none })) 15 (v := ?_) (W' := ?_) rfl (by rfl) (by rfl) (fun ev hc hf h0 => ?_) ?_ ?_; rotate_left 2; (focus (obtain ⟨e0, e1, e2⟩ := HS.out _ hW0; first | (go_simp; done) | (go_simp; with_reducible rfl) | (go_simp; constructor <;> with_reducible rfl)))
                                    · simp only [Act.put, List.setIfInBounds_toArray, List.set_cons_zero, List.set_cons_succ]
                                      refine aw_all [3] (by kernel_rfl) (by simp) ?_
                                      refine arv1 (o := ({ dst := some 191, op := Go.Op.load 44 (Go.Operand.tmp 190), type := 44, pos := "law.go:180", after := #[{ on := 2, ground := Go.Ground.data }], guard := none })) 190 (v := ?_) (W' := ?_) rfl (by rfl) (by rfl) (fun ev hc hf h0 => ?_) ?_ ?_; rotate_left 2; (focus (obtain ⟨e0, e1, e2⟩ := HS.out _ hW0; first | (go_simp; done) | (go_simp; with_reducible rfl) | (go_simp; constructor <;> with_reducible rfl)))
                                      · simp only [Act.put, List.setIfInBounds_toArray, List.set_cons_zero, List.set_cons_succ]
                                        exact END
                                      exact ar_nil
                                    exact ar_nil
                                  refine aw_all [6] (by kernel_rfl) (by simp) ?_
                                  refine arc3 (o := ({ dst := some 194, op := Go.Op.call { callee := Go.Callee.value (Go.Operand.func 30), args := #[Go.Operand.tmp 191, Go.Operand.tmp 192, Go.Operand.tmp 193], argTypes := #[44, 24, 9] }, type := 35, pos := "law.go:180", after := #[{ on := 3, ground := Go.Ground.data }, { on := 4, ground := Go.Ground.data }, { on := 5, ground := Go.Ground.data }], guard := none })) 191 192 193 _ _ _ rfl (by rfl) (by rfl) (by rfl) (by rfl) (fun ev hc hf h0 h1 h2 => ?_) HAC.out (fun w9 hc9 => ?_) ?_
                                  · focus (go_simp; done)
                                  · simp only [Act.put, List.setIfInBounds_toArray, List.set_cons_zero, List.set_cons_succ]
                                    refine awt1 7 194 (o := ({ dst := some 187, op := Go.Op.move (Go.Operand.tmp 194), type := 35, pos := "law.go:180", after := #[{ on := 6, ground := Go.Ground.data }], guard := none })) (v := ?_) rfl (by kernel_rfl) (by kernel_rfl) (by kernel_rfl) (fun _ _ _ h => h) (by rfl) (by rfl) (fun ev hc hf h0 W => ?_) ?_; rotate_left; (focus (first | (go_simp; done) | (go_simp; with_reducible rfl))); rotate_left; simp only [Act.put, List.setIfInBounds_toArray, List.set_cons_zero, List.set_cons_succ]
                                    refine awt1 8 187 (o := ({ dst := some 195, op := Go.Op.extract (Go.Operand.tmp 187) 0, type := 4, pos := "law.go:180", after := #[{ on := 7, ground := Go.Ground.data }], guard := none })) (v := ?_) rfl (by kernel_rfl) (by kernel_rfl) (by kernel_rfl) (fun _ _ _ h => h) (by rfl) (by rfl) (fun ev hc hf h0 W => ?_) ?_; rotate_left; (focus (first | (go_simp; done) | (go_simp; with_reducible rfl))); rotate_left; simp only [Act.put, List.setIfInBounds_toArray, List.set_cons_zero, List.set_cons_succ]
                                    refine awt1 9 187 (o := ({ dst := some 196, op := Go.Op.extract (Go.Operand.tmp 187) 1, type := 30, pos := "law.go:180", after := #[{ on := 7, ground := Go.Ground.data }, { on := 10, ground := Go.Ground.gcOnly Go.Departure.lateStores }], guard := none })) (v := ?_) rfl (by kernel_rfl) (by kernel_rfl) (by kernel_rfl) (fun _ _ _ h => h) (by rfl) (by rfl) (fun ev hc hf h0 W => ?_) ?_; rotate_left; (focus (first | (go_simp; done) | (go_simp; with_reducible rfl))); rotate_left; simp only [Act.put, List.setIfInBounds_toArray, List.set_cons_zero, List.set_cons_succ]
                                    refine awt1 10 195 (o := ({ dst := some 25, op := Go.Op.assign (Go.Operand.tmp 195), type := 4, pos := "law.go:180", after := #[{ on := 8, ground := Go.Ground.data }, { on := 6, ground := Go.Ground.chain }, { on := 0, ground := Go.Ground.phase }, { on := 1, ground := Go.Ground.phase }, { on := 2, ground := Go.Ground.phase }, { on := 3, ground := Go.Ground.phase }, { on := 4, ground := Go.Ground.phase }, { on := 5, ground := Go.Ground.phase }, { on := 6, ground := Go.Ground.phase }, { on := 7, ground := Go.Ground.phase }, { on := 8, ground := Go.Ground.phase }, { on := 9, ground := Go.Ground.textOnly Go.Departure.lateStores }], guard := none })) (v := ?_) rfl (by kernel_rfl) (by kernel_rfl) (by kernel_rfl) (fun _ _ _ h => h) (by rfl) (by rfl) (fun ev hc hf h0 W => ?_) ?_; rotate_left; (focus (first | (go_simp; done) | (go_simp; with_reducible rfl))); rotate_left; simp only [Act.put, List.setIfInBounds_toArray, List.set_cons_zero, List.set_cons_succ]
                                    refine awt1 11 196 (o := ({ dst := some 26, op := Go.Op.assign (Go.Operand.tmp 196), type := 30, pos := "law.go:180", after := #[{ on := 9, ground := Go.Ground.data }, { on := 10, ground := Go.Ground.chain }, { on := 0, ground := Go.Ground.phase }, { on := 1, ground := Go.Ground.phase }, { on := 2, ground := Go.Ground.phase }, { on := 3, ground := Go.Ground.phase }, { on := 4, ground := Go.Ground.phase }, { on := 5, ground := Go.Ground.phase }, { on := 6, ground := Go.Ground.phase }, { on := 7, ground := Go.Ground.phase }, { on := 8, ground := Go.Ground.phase }, { on := 9, ground := Go.Ground.phase }, { on := 10, ground := Go.Ground.phase }], guard := none })) (v := ?_) rfl (by kernel_rfl) (by kernel_rfl) (by kernel_rfl) (fun _ _ _ h => h) (by rfl) (by rfl) (fun ev hc hf h0 W => ?_) ?_; rotate_left; (focus (first | (go_simp; done) | (go_simp; with_reducible rfl))); rotate_left; simp only [Act.put, List.setIfInBounds_toArray, List.set_cons_zero, List.set_cons_succ]
                                    refine aw_done (by kernel_rfl) ?_
                                    have KK9 := (show Kept (fun k => k = B + j) wr wr.drew from Kept.of_below hW0).grownF hc9.2 (fun k e => by injection e with e; exact .inl e.symm)
                                    have HP9 := HP7.out.kept KK9 (by omega) (by omega) (by omega) (fun k hk => by have := hs7 k hk; omega)
                                    have HNo9 := Lib.hid (HNo7.out.turn j hjlt _ hc9.1 (fun k hk hne => KK9.block k (by omega) hne) KK9.size)
                                    have K9 := Lib.hid (K7.out.kept KK9 (by omega))
                                    have HB9 := Lib.hid (KK9.below HB7.out (fun k e => by have := HNo7.out.low; omega) HB7.out.size)
                                    have hpr := paccepted_any (j : Int) HP9 (by omega) (by rw [HI.out.hN]; omega) (by rw [HI.out.r, HI.out.n]; exact (named_split hnamed).1) (by rw [HI.out.hN]; exact HI.out.pok) (by have := HI.out.nn; omega)
                                    rw [HI.out.r, HI.out.n] at hpr
                                    have HPR := Lib.hid hpr
                                    obtain ⟨k0, k1⟩ : w9.cell? ⟨p, 0, none⟩ = some (.int .u64 ((i : Int) + 1)) ∧ w9.cell? ⟨p, 1, none⟩ = some (.int .i64 ((i : Int) % 7)) := ⟨K9.out.cell 0, K9.out.cell 1⟩
                                    have hp9 := K9.out.lt
                                    clear hpr HP9 HS HAC hW0 KK9 hc9
                                    go_wp2_with fail
                                    refine HPR.out.mono ?_
                                    rintro e w10 ⟨rfl, PN⟩
                                    have PL := PN.kept9 (B := p + 1) (by omega) (by omega) (by omega) hs7 hp9
                                    have HNo10 := Lib.hid (HNo9.out.low' PL.1 (by omega))
                                    have K10 := Lib.hid (K9.out.below PL.1 (by omega))
                                    have HB10 := Lib.hid (HB9.out.trans (PL.1.mono (by have := HB9.out.size; omega)))
                                    have HP10 := Lib.hid PN.at'
                                    have HI10 := Lib.hid (HI.out.step hjlt (by omega) hnamed)
                                    clear PN PL k0 k1 HNo9 K9 HB9 HPR
                                    go_wp2_with fail
                                    go_roundw
                                    case rel => exact ⟨j + 1, _, _, by omega, by go_num, HI10, HNo10, HP10, K10, HB10⟩
                                    case measure => simp [intOf]; omega
                                  exact ar_nil
                              · have hmi : ¬ (m1 : Int) < (hs.length : Int) := by omega
                                go_upto_region 45 with fail
                                have HS := Lib.hid (show ∀ w', Bel wr w' → w'.cell? ⟨w.heap.size, j, none⟩ = some (.pointer (some ⟨B + j, 0, none⟩)) ∧ w'.cell? ⟨p, 0, none⟩ = some (.int .u64 ((i : Int) + 1)) ∧ w'.cell? ⟨p, 1, none⟩ = some (.int .i64 ((i : Int) % 7)) from fun w' hw => ⟨(HNo7.out.keep hw).row j hjlt, (K7.out.bel hw).cell 0, (K7.out.bel hw).cell 1⟩)
                                have hnamed : namedB ((i : Int) + 1) ((i : Int) % 7) = true := named_ok _ _ (by omega) (by omega) hmod0 hmod7
                                have hW0 : Bel wr wr.drew := (Bel.refl wr).drew
                                have HAC := Lib.hid (show Calls Try.prog 30 #[.pointer (some ⟨B + j, 0, none⟩), .agg #[.int .u64 ((i : Int) + 1), .int .i64 ((i : Int) % 7)], .string u] wr.drew fun e W' => e = .returned (.tuple #[.bool true, .int .i64 0]) ∧ (Bk W' (B + j) (Acc.accept ((i : Int) + 1) ((i : Int) % 7) u).cells 116 ∧ wr.drew.grownBy W' (some (B + j))) from by
                                  have h9 := accept_any (B + j) (ac3 j) ((i : Int) + 1) ((i : Int) % 7) u wr.drew ((HNo7.out.node j hjlt).bel hW0) (by have := HI.out.usz; omega)
                                  unfold AcptPost at h9
                                  rw [acpt_ok HI.out hjlt hnamed] at h9
                                  exact h9)
                                have htop7 := HNo7.out.top
                                refine wp_aw 12 #[false, false, false, false, false, false, false, false, false, false, false, false] rfl rfl ?_
                                refine aw_join 6 ?L45Ay ?F45Ay wr.drew (fun END => ?_) ?_
                                case refine_1 =>
                                  refine awt1 0 9 (o := ({ dst := some 188, op := Go.Op.move (Go.Operand.tmp 9), type := 92, pos := "law.go:180", after := #[], guard := none })) (v := ?_) rfl (by kernel_rfl) (by kernel_rfl) (by kernel_rfl) (fun _ _ _ h => h) (by rfl) (by rfl) (fun ev hc hf h0 W => ?_) ?_; rotate_left; (focus (first | (go_simp; done) | (go_simp; with_reducible rfl))); rotate_left; simp only [Act.put, List.setIfInBounds_toArray, List.set_cons_zero, List.set_cons_succ]
                                  refine awt1 1 24 (o := ({ dst := some 189, op := Go.Op.move (Go.Operand.tmp 24), type := 3, pos := "law.go:180", after := #[], guard := none })) (v := ?_) rfl (by kernel_rfl) (by kernel_rfl) (by kernel_rfl) (fun _ _ _ h => h) (by rfl) (by rfl) (fun ev hc hf h0 W => ?_) ?_; rotate_left; (focus (first | (go_simp; done) | (go_simp; with_reducible rfl))); rotate_left; simp only [Act.put, List.setIfInBounds_toArray, List.set_cons_zero, List.set_cons_succ]
                                  refine awt2 2 188 189 (o := ({ dst := some 190, op := Go.Op.indexAddr 92 (Go.Operand.tmp 188) (Go.Operand.tmp 189), type := 0, pos := "law.go:180", after := #[{ on := 0, ground := Go.Ground.data }, { on := 1, ground := Go.Ground.data }], guard := none })) (v := ?_) rfl (by kernel_rfl) (by kernel_rfl) (by kernel_rfl) (fun _ _ _ h => h) (by rfl) (by rfl) (by rfl) (fun ev hc hf h0 h1 W => ?_) ?_; rotate_left; (focus (first | (go_simp; done) | (go_simp; with_reducible rfl))); rotate_left; simp only [Act.put, List.setIfInBounds_toArray, List.set_cons_zero, List.set_cons_succ]
                                  refine awt1 5 22 (o := ({ dst := some 193, op := Go.Op.move (Go.Operand.tmp 22), type := 9, pos := "law.go:180", after := #[], guard := none })) (v := ?_) rfl (by kernel_rfl) (by kernel_rfl) (by kernel_rfl) (fun _ _ _ h => h) (by rfl) (by rfl) (fun ev hc hf h0 W => ?_) ?_; rotate_left; (focus (first | (go_simp; done) | (go_simp; with_reducible rfl))); rotate_left; simp only [Act.put, List.setIfInBounds_toArray, List.set_cons_zero, List.set_cons_succ]
                                  refine aw_all [3, 4] (by kernel_rfl) (by simp) ?_
                                  refine arv1 (o := ({ dst := some 191, op := Go.Op.load 44 (Go.Operand.tmp 190), type := 44, pos := "law.go:180", after := #[{ on := 2, ground := Go.Ground.data }], guard := none })) 190 (v := ?_) (W' := ?_) rfl (by rfl) (by rfl) (fun ev hc hf h0 => ?_) ?_ ?_; rotate_left 2; (focus (obtain ⟨e0, e1, e2⟩ := HS.out _ hW0; first | (go_simp; done) | (go_simp; with_reducible rfl) | (go_simp; constructor <;> with_reducible rfl)))
                                  · simp only [Act.put, List.setIfInBounds_toArray, List.set_cons_zero, List.set_cons_succ]
                                    refine aw_all [4] (by kernel_rfl) (by simp) ?_
                                    refine arv1 (o := ({ dst := some 192, op := Go.Op.load 24 (Go.Operand.tmp 15), type := 24, pos := "law.go:180", after := #[], guard := none })) 15 (v := ?_) (W' := ?_) rfl (by rfl) (by rfl) (fun ev hc hf h0 => ?_) ?_ ?_; rotate_left 2; (focus (obtain ⟨e0, e1, e2⟩ := HS.out _ hW0; first | (go_simp; done) | (go_simp; with_reducible rfl) | (go_simp; constructor <;> with_reducible rfl)))
                                    · simp only [Act.put, List.setIfInBounds_toArray, List.set_cons_zero, List.set_cons_succ]
                                      exact END
                                    exact ar_nil
                                  refine arv1 (o := ({ dst := some 192, op := Go.Op.load 24 (Go.Operand.tmp 15), type := 24, pos := "law.go:180", after := #[], guard := none })) 15 (v := ?_) (W' := ?_) rfl (by rfl) (by rfl) (fun ev hc hf h0 => ?_) ?_ ?_; rotate_left 2; (focus (obtain ⟨e0, e1, e2⟩ := HS.out _ hW0; first | (go_simp; done) | (go_simp; with_reducible rfl) | (go_simp; constructor <;> with_reducible rfl)))
                                  · simp only [Act.put, List.setIfInBounds_toArray, List.set_cons_zero, List.set_cons_succ]
                                    refine aw_all [3] (by kernel_rfl) (by simp) ?_
                                    refine arv1 (o := ({ dst := some 191, op := Go.Op.load 44 (Go.Operand.tmp 190), type := 44, pos := "law.go:180", after := #[{ on := 2, ground := Go.Ground.data }], guard := none })) 190 (v := ?_) (W' := ?_) rfl (by rfl) (by rfl) (fun ev hc hf h0 => ?_) ?_ ?_; rotate_left 2; (focus (obtain ⟨e0, e1, e2⟩ := HS.out _ hW0; first | (go_simp; done) | (go_simp; with_reducible rfl) | (go_simp; constructor <;> with_reducible rfl)))
                                    · simp only [Act.put, List.setIfInBounds_toArray, List.set_cons_zero, List.set_cons_succ]
                                      exact END
                                    exact ar_nil
                                  exact ar_nil
                                refine aw_all [6] (by kernel_rfl) (by simp) ?_
                                refine arc3 (o := ({ dst := some 194, op := Go.Op.call { callee := Go.Callee.value (Go.Operand.func 30), args := #[Go.Operand.tmp 191, Go.Operand.tmp 192, Go.Operand.tmp 193], argTypes := #[44, 24, 9] }, type := 35, pos := "law.go:180", after := #[{ on := 3, ground := Go.Ground.data }, { on := 4, ground := Go.Ground.data }, { on := 5, ground := Go.Ground.data }], guard := none })) 191 192 193 _ _ _ rfl (by rfl) (by rfl) (by rfl) (by rfl) (fun ev hc hf h0 h1 h2 => ?_) HAC.out (fun w9 hc9 => ?_) ?_
                                · focus (go_simp; done)
                                · simp only [Act.put, List.setIfInBounds_toArray, List.set_cons_zero, List.set_cons_succ]
                                  refine awt1 7 194 (o := ({ dst := some 187, op := Go.Op.move (Go.Operand.tmp 194), type := 35, pos := "law.go:180", after := #[{ on := 6, ground := Go.Ground.data }], guard := none })) (v := ?_) rfl (by kernel_rfl) (by kernel_rfl) (by kernel_rfl) (fun _ _ _ h => h) (by rfl) (by rfl) (fun ev hc hf h0 W => ?_) ?_; rotate_left; (focus (first | (go_simp; done) | (go_simp; with_reducible rfl))); rotate_left; simp only [Act.put, List.setIfInBounds_toArray, List.set_cons_zero, List.set_cons_succ]
                                  refine awt1 8 187 (o := ({ dst := some 195, op := Go.Op.extract (Go.Operand.tmp 187) 0, type := 4, pos := "law.go:180", after := #[{ on := 7, ground := Go.Ground.data }], guard := none })) (v := ?_) rfl (by kernel_rfl) (by kernel_rfl) (by kernel_rfl) (fun _ _ _ h => h) (by rfl) (by rfl) (fun ev hc hf h0 W => ?_) ?_; rotate_left; (focus (first | (go_simp; done) | (go_simp; with_reducible rfl))); rotate_left; simp only [Act.put, List.setIfInBounds_toArray, List.set_cons_zero, List.set_cons_succ]
                                  refine awt1 9 187 (o := ({ dst := some 196, op := Go.Op.extract (Go.Operand.tmp 187) 1, type := 30, pos := "law.go:180", after := #[{ on := 7, ground := Go.Ground.data }, { on := 10, ground := Go.Ground.gcOnly Go.Departure.lateStores }], guard := none })) (v := ?_) rfl (by kernel_rfl) (by kernel_rfl) (by kernel_rfl) (fun _ _ _ h => h) (by rfl) (by rfl) (fun ev hc hf h0 W => ?_) ?_; rotate_left; (focus (first | (go_simp; done) | (go_simp; with_reducible rfl))); rotate_left; simp only [Act.put, List.setIfInBounds_toArray, List.set_cons_zero, List.set_cons_succ]
                                  refine awt1 10 195 (o := ({ dst := some 25, op := Go.Op.assign (Go.Operand.tmp 195), type := 4, pos := "law.go:180", after := #[{ on := 8, ground := Go.Ground.data }, { on := 6, ground := Go.Ground.chain }, { on := 0, ground := Go.Ground.phase }, { on := 1, ground := Go.Ground.phase }, { on := 2, ground := Go.Ground.phase }, { on := 3, ground := Go.Ground.phase }, { on := 4, ground := Go.Ground.phase }, { on := 5, ground := Go.Ground.phase }, { on := 6, ground := Go.Ground.phase }, { on := 7, ground := Go.Ground.phase }, { on := 8, ground := Go.Ground.phase }, { on := 9, ground := Go.Ground.textOnly Go.Departure.lateStores }], guard := none })) (v := ?_) rfl (by kernel_rfl) (by kernel_rfl) (by kernel_rfl) (fun _ _ _ h => h) (by rfl) (by rfl) (fun ev hc hf h0 W => ?_) ?_; rotate_left; (focus (first | (go_simp; done) | (go_simp; with_reducible rfl))); rotate_left; simp only [Act.put, List.setIfInBounds_toArray, List.set_cons_zero, List.set_cons_succ]
                                  refine awt1 11 196 (o := ({ dst := some 26, op := Go.Op.assign (Go.Operand.tmp 196), type := 30, pos := "law.go:180", after := #[{ on := 9, ground := Go.Ground.data }, { on := 10, ground := Go.Ground.chain }, { on := 0, ground := Go.Ground.phase }, { on := 1, ground := Go.Ground.phase }, { on := 2, ground := Go.Ground.phase }, { on := 3, ground := Go.Ground.phase }, { on := 4, ground := Go.Ground.phase }, { on := 5, ground := Go.Ground.phase }, { on := 6, ground := Go.Ground.phase }, { on := 7, ground := Go.Ground.phase }, { on := 8, ground := Go.Ground.phase }, { on := 9, ground := Go.Ground.phase }, { on := 10, ground := Go.Ground.phase }], guard := none })) (v := ?_) rfl (by kernel_rfl) (by kernel_rfl) (by kernel_rfl) (fun _ _ _ h => h) (by rfl) (by rfl) (fun ev hc hf h0 W => ?_) ?_; rotate_left; (focus (first | (go_simp; done) | (go_simp; with_reducible rfl))); rotate_left; simp only [Act.put, List.setIfInBounds_toArray, List.set_cons_zero, List.set_cons_succ]
                                  refine aw_done (by kernel_rfl) ?_
                                  have KK9 := (show Kept (fun k => k = B + j) wr wr.drew from Kept.of_below hW0).grownF hc9.2 (fun k e => by injection e with e; exact .inl e.symm)
                                  have HP9 := HP7.out.kept KK9 (by omega) (by omega) (by omega) (fun k hk => by have := hs7 k hk; omega)
                                  have HNo9 := Lib.hid (HNo7.out.turn j hjlt _ hc9.1 (fun k hk hne => KK9.block k (by omega) hne) KK9.size)
                                  have K9 := Lib.hid (K7.out.kept KK9 (by omega))
                                  have HB9 := Lib.hid (KK9.below HB7.out (fun k e => by have := HNo7.out.low; omega) HB7.out.size)
                                  have hpr := paccepted_any (j : Int) HP9 (by omega) (by rw [HI.out.hN]; omega) (by rw [HI.out.r, HI.out.n]; exact (named_split hnamed).1) (by rw [HI.out.hN]; exact HI.out.pok) (by have := HI.out.nn; omega)
                                  rw [HI.out.r, HI.out.n] at hpr
                                  have HPR := Lib.hid hpr
                                  obtain ⟨k0, k1⟩ : w9.cell? ⟨p, 0, none⟩ = some (.int .u64 ((i : Int) + 1)) ∧ w9.cell? ⟨p, 1, none⟩ = some (.int .i64 ((i : Int) % 7)) := ⟨K9.out.cell 0, K9.out.cell 1⟩
                                  have hp9 := K9.out.lt
                                  clear hpr HP9 HS HAC hW0 KK9 hc9
                                  go_wp2_with fail
                                  refine HPR.out.mono ?_
                                  rintro e w10 ⟨rfl, PN⟩
                                  have PL := PN.kept9 (B := p + 1) (by omega) (by omega) (by omega) hs7 hp9
                                  have HNo10 := Lib.hid (HNo9.out.low' PL.1 (by omega))
                                  have K10 := Lib.hid (K9.out.below PL.1 (by omega))
                                  have HB10 := Lib.hid (HB9.out.trans (PL.1.mono (by have := HB9.out.size; omega)))
                                  have HP10 := Lib.hid PN.at'
                                  have HI10 := Lib.hid (HI.out.step hjlt (by omega) hnamed)
                                  clear PN PL k0 k1 HNo9 K9 HB9 HPR
                                  go_wp2_with fail
                                  go_roundw
                                  case rel => exact ⟨j + 1, _, _, by omega, by go_num, HI10, HNo10, HP10, K10, HB10⟩
                                  case measure => simp [intOf]; omega
                                exact ar_nil
                            · obtain rfl : N = j := by omega
                              go_wp2_with fail
                              refine (pchosen_any HP7.out (by have := HI.out.nn; omega)).mono ?_
                              rintro e w8 ⟨rfl, hb8⟩
                              have HNo8 := Lib.hid (HNo7.out.keep hb8)
                              have HB8 := Lib.hid (HB7.out.trans (hb8.mono HB7.out.size))
                              have hnd := HP7.out.and
                              have HE := HI.out.chose
                              cases hen2 : enB N P3.aord.length with
                              | false =>
                                rw [if_neg (by rw [hen2]; simp)] at HE
                                rw [HE]
                                have HG' := Lib.hid (show Good N ((i + 1 : Nat) : Int) ac3 ch false from HI.out.good)
                                clear HE HI HP7 HNo7 K7 HB7 hb8
                                go_wp2_with fail
                                go_roundw
                                case rel => exact ⟨i + 1, m + 2, ac3, ch, false, by omega, by omega, rfl, rfl, by go_num, by go_num, HG', HNo8, HB8⟩
                                case measure => simp [intOf]; omega
                              | true =>
                                rw [if_pos hen2] at HE
                                rw [HE]
                                have HG' := Lib.hid (show Good N ((i + 1 : Nat) : Int) ac3 u true from HI.out.chosen hnd hen2)
                                clear HE HI HP7 HNo7 K7 HB7 hb8
                                go_wp2_with fail
                                go_roundw
                                case rel => exact ⟨i + 1, m + 2, ac3, u, true, by omega, by omega, rfl, rfl, by go_num, by go_num, HG', HNo8, HB8⟩
                                case measure => simp [intOf]; omega
                        | true =>
                          obtain rfl := HI5.out.hv rfl
                          go_wp2_with fail
                          obtain ⟨m1, hm1⟩ : ∃ m1 : Nat, (m : Int) + 1 = m1 := ⟨m + 1, rfl⟩
                          rw [hm1]
                          go_loopw [24] (fun jj wr => ∃ (j : Nat) (ac3 : Nat → Acc) (P3 : Prp), j ≤ N ∧ jj = .int .i64 j ∧ Hid (InAcc N ((i : Int) + 1) ((i : Int) % 7) u j ac3 u true P3) ∧ Hid (NodesAt wr N w.heap.size B ac3) ∧ Hid (PropAt wr g pm am s P3) ∧ Hid (Bk wr p #[.int .u64 ((i : Int) + 1), .int .i64 ((i : Int) % 7)] 24) ∧ Hid (Below w.heap.size w wr)) (fun jj _ => N + 1 - (intOf jj).toNat)
                          case atStart => exact ⟨0, ac2, P, Nat.zero_le _, rfl, HI5, HNo8, HP8, K8, HB8⟩
                          case round =>
                            obtain ⟨j, ac3, P3, hjN, rfl, HI, HNo7, HP7, K7, HB7⟩ := hrel
                            clear HI5 HNo8 HP8 K8 HB8
                            have hji : (j : Int) ≤ (N : Int) := by omega
                            by_cases hjlt : j < N
                            · have hjne : (j : Int) < (N : Int) := by omega
                              by_cases hmh : m1 < hs.length
                              · have hmi : (m1 : Int) < (hs.length : Int) := by omega
                                obtain ⟨b2, o2, rfl, hc2⟩ : ∃ b2 o2, C = some ⟨b2, o2, none⟩ ∧ w.cell? ⟨b2, o2 + m1, none⟩ = some (.int .u16 (hs.getD m1 0)) := by
                                  rcases HH.out with h0 | ⟨b2, o2, e, h⟩
                                  · rw [h0] at hmh; simp at hmh
                                  · exact ⟨b2, o2, e, h m1 hmh⟩
                                have hcr := Bel.cell HB7.out hc2
                                have hzr := hr (hs.getD m1 0) (by rw [List.getD_eq_getElem?_getD, List.getElem?_eq_getElem hmh]; exact List.getElem_mem hmh)
                                clear hc2
                                generalize hs.getD m1 0 = zz at hcr hzr
                                obtain ⟨zz0, zz1⟩ := hzr
                                go_upto_region 45 with fail
                                · refine ⟨⟨j + 1, ac3, P3, by omega, by go_num, Lib.hid HI.out.skip, HNo7, HP7, K7, HB7⟩, ?_⟩
                                  simp [intOf]
                                  omega
                                · have HS := Lib.hid (show ∀ w', Bel wr w' → w'.cell? ⟨w.heap.size, j, none⟩ = some (.pointer (some ⟨B + j, 0, none⟩)) ∧ w'.cell? ⟨p, 0, none⟩ = some (.int .u64 ((i : Int) + 1)) ∧ w'.cell? ⟨p, 1, none⟩ = some (.int .i64 ((i : Int) % 7)) from fun w' hw => ⟨(HNo7.out.keep hw).row j hjlt, (K7.out.bel hw).cell 0, (K7.out.bel hw).cell 1⟩)
                                  have hnamed : namedB ((i : Int) + 1) ((i : Int) % 7) = true := named_ok _ _ (by omega) (by omega) hmod0 hmod7
                                  have hW0 : Bel wr wr.drew := (Bel.refl wr).drew
                                  have HAC := Lib.hid (show Calls Try.prog 30 #[.pointer (some ⟨B + j, 0, none⟩), .agg #[.int .u64 ((i : Int) + 1), .int .i64 ((i : Int) % 7)], .string u] wr.drew fun e W' => e = .returned (.tuple #[.bool true, .int .i64 0]) ∧ (Bk W' (B + j) (Acc.accept ((i : Int) + 1) ((i : Int) % 7) u).cells 116 ∧ wr.drew.grownBy W' (some (B + j))) from by
                                    have h9 := accept_any (B + j) (ac3 j) ((i : Int) + 1) ((i : Int) % 7) u wr.drew ((HNo7.out.node j hjlt).bel hW0) (by have := HI.out.usz; omega)
                                    unfold AcptPost at h9
                                    rw [acpt_ok HI.out hjlt hnamed] at h9
                                    exact h9)
                                  have htop7 := HNo7.out.top
                                  refine wp_aw 12 #[false, false, false, false, false, false, false, false, false, false, false, false] rfl rfl ?_
                                  refine aw_join 6 ?L45Bx ?F45Bx wr.drew (fun END => ?_) ?_
                                  case refine_1 =>
                                    refine awt1 0 9 (o := ({ dst := some 188, op := Go.Op.move (Go.Operand.tmp 9), type := 92, pos := "law.go:180", after := #[], guard := none })) (v := ?_) rfl (by kernel_rfl) (by kernel_rfl) (by kernel_rfl) (fun _ _ _ h => h) (by rfl) (by rfl) (fun ev hc hf h0 W => ?_) ?_; rotate_left; (focus (first | (go_simp; done) | (go_simp; with_reducible rfl))); rotate_left; simp only [Act.put, List.setIfInBounds_toArray, List.set_cons_zero, List.set_cons_succ]
                                    refine awt1 1 24 (o := ({ dst := some 189, op := Go.Op.move (Go.Operand.tmp 24), type := 3, pos := "law.go:180", after := #[], guard := none })) (v := ?_) rfl (by kernel_rfl) (by kernel_rfl) (by kernel_rfl) (fun _ _ _ h => h) (by rfl) (by rfl) (fun ev hc hf h0 W => ?_) ?_; rotate_left; (focus (first | (go_simp; done) | (go_simp; with_reducible rfl))); rotate_left; simp only [Act.put, List.setIfInBounds_toArray, List.set_cons_zero, List.set_cons_succ]
                                    refine awt2 2 188 189 (o := ({ dst := some 190, op := Go.Op.indexAddr 92 (Go.Operand.tmp 188) (Go.Operand.tmp 189), type := 0, pos := "law.go:180", after := #[{ on := 0, ground := Go.Ground.data }, { on := 1, ground := Go.Ground.data }], guard := none })) (v := ?_) rfl (by kernel_rfl) (by kernel_rfl) (by kernel_rfl) (fun _ _ _ h => h) (by rfl) (by rfl) (by rfl) (fun ev hc hf h0 h1 W => ?_) ?_; rotate_left; (focus (first | (go_simp; done) | (go_simp; with_reducible rfl))); rotate_left; simp only [Act.put, List.setIfInBounds_toArray, List.set_cons_zero, List.set_cons_succ]
                                    refine awt1 5 22 (o := ({ dst := some 193, op := Go.Op.move (Go.Operand.tmp 22), type := 9, pos := "law.go:180", after := #[], guard := none })) (v := ?_) rfl (by kernel_rfl) (by kernel_rfl) (by kernel_rfl) (fun _ _ _ h => h) (by rfl) (by rfl) (fun ev hc hf h0 W => ?_) ?_; rotate_left; (focus (first | (go_simp; done) | (go_simp; with_reducible rfl))); rotate_left; simp only [Act.put, List.setIfInBounds_toArray, List.set_cons_zero, List.set_cons_succ]
                                    refine aw_all [3, 4] (by kernel_rfl) (by simp) ?_
                                    refine arv1 (o := ({ dst := some 191, op := Go.Op.load 44 (Go.Operand.tmp 190), type := 44, pos := "law.go:180", after := #[{ on := 2, ground := Go.Ground.data }], guard := none })) 190 (v := ?_) (W' := ?_) rfl (by rfl) (by rfl) (fun ev hc hf h0 => ?_) ?_ ?_; rotate_left 2; (focus (obtain ⟨e0, e1, e2⟩ := HS.out _ hW0; first | (go_simp; done) | (go_simp; with_reducible rfl) | (go_simp; constructor <;> with_reducible rfl)))
                                    · simp only [Act.put, List.setIfInBounds_toArray, List.set_cons_zero, List.set_cons_succ]
                                      refine aw_all [4] (by kernel_rfl) (by simp) ?_
                                      refine arv1 (o := ({ dst := some 192, op := Go.Op.load 24 (Go.Operand.tmp 15), type := 24, pos := "law.go:180", after := #[], guard := none })) 15 (v := ?_) (W' := ?_) rfl (by rfl) (by rfl) (fun ev hc hf h0 => ?_) ?_ ?_; rotate_left 2; (focus (obtain ⟨e0, e1, e2⟩ := HS.out _ hW0; first | (go_simp; done) | (go_simp; with_reducible rfl) | (go_simp; constructor <;> with_reducible rfl)))
                                      · simp only [Act.put, List.setIfInBounds_toArray, List.set_cons_zero, List.set_cons_succ]
                                        exact END
                                      exact ar_nil
                                    refine arv1 (o := ({ dst := some 192, op := Go.Op.load 24 (Go.Operand.tmp 15), type := 24, pos := "law.go:180", after := #[], guard := none })) 15 (v := ?_) (W' := ?_) rfl (by rfl) (by rfl) (fun ev hc hf h0 => ?_) ?_ ?_; rotate_left 2; (focus (obtain ⟨e0, e1, e2⟩ := HS.out _ hW0; first | (go_simp; done) | (go_simp; with_reducible rfl) | (go_simp; constructor <;> with_reducible rfl)))
                                    · simp only [Act.put, List.setIfInBounds_toArray, List.set_cons_zero, List.set_cons_succ]
                                      refine aw_all [3] (by kernel_rfl) (by simp) ?_
                                      refine arv1 (o := ({ dst := some 191, op := Go.Op.load 44 (Go.Operand.tmp 190), type := 44, pos := "law.go:180", after := #[{ on := 2, ground := Go.Ground.data }], guard := none })) 190 (v := ?_) (W' := ?_) rfl (by rfl) (by rfl) (fun ev hc hf h0 => ?_) ?_ ?_; rotate_left 2; (focus (obtain ⟨e0, e1, e2⟩ := HS.out _ hW0; first | (go_simp; done) | (go_simp; with_reducible rfl) | (go_simp; constructor <;> with_reducible rfl)))
                                      · simp only [Act.put, List.setIfInBounds_toArray, List.set_cons_zero, List.set_cons_succ]
                                        exact END
                                      exact ar_nil
                                    exact ar_nil
                                  refine aw_all [6] (by kernel_rfl) (by simp) ?_
                                  refine arc3 (o := ({ dst := some 194, op := Go.Op.call { callee := Go.Callee.value (Go.Operand.func 30), args := #[Go.Operand.tmp 191, Go.Operand.tmp 192, Go.Operand.tmp 193], argTypes := #[44, 24, 9] }, type := 35, pos := "law.go:180", after := #[{ on := 3, ground := Go.Ground.data }, { on := 4, ground := Go.Ground.data }, { on := 5, ground := Go.Ground.data }], guard := none })) 191 192 193 _ _ _ rfl (by rfl) (by rfl) (by rfl) (by rfl) (fun ev hc hf h0 h1 h2 => ?_) HAC.out (fun w9 hc9 => ?_) ?_
                                  · focus (go_simp; done)
                                  · simp only [Act.put, List.setIfInBounds_toArray, List.set_cons_zero, List.set_cons_succ]
                                    refine awt1 7 194 (o := ({ dst := some 187, op := Go.Op.move (Go.Operand.tmp 194), type := 35, pos := "law.go:180", after := #[{ on := 6, ground := Go.Ground.data }], guard := none })) (v := ?_) rfl (by kernel_rfl) (by kernel_rfl) (by kernel_rfl) (fun _ _ _ h => h) (by rfl) (by rfl) (fun ev hc hf h0 W => ?_) ?_; rotate_left; (focus (first | (go_simp; done) | (go_simp; with_reducible rfl))); rotate_left; simp only [Act.put, List.setIfInBounds_toArray, List.set_cons_zero, List.set_cons_succ]
                                    refine awt1 8 187 (o := ({ dst := some 195, op := Go.Op.extract (Go.Operand.tmp 187) 0, type := 4, pos := "law.go:180", after := #[{ on := 7, ground := Go.Ground.data }], guard := none })) (v := ?_) rfl (by kernel_rfl) (by kernel_rfl) (by kernel_rfl) (fun _ _ _ h => h) (by rfl) (by rfl) (fun ev hc hf h0 W => ?_) ?_; rotate_left; (focus (first | (go_simp; done) | (go_simp; with_reducible rfl))); rotate_left; simp only [Act.put, List.setIfInBounds_toArray, List.set_cons_zero, List.set_cons_succ]
                                    refine awt1 9 187 (o := ({ dst := some 196, op := Go.Op.extract (Go.Operand.tmp 187) 1, type := 30, pos := "law.go:180", after := #[{ on := 7, ground := Go.Ground.data }, { on := 10, ground := Go.Ground.gcOnly Go.Departure.lateStores }], guard := none })) (v := ?_) rfl (by kernel_rfl) (by kernel_rfl) (by kernel_rfl) (fun _ _ _ h => h) (by rfl) (by rfl) (fun ev hc hf h0 W => ?_) ?_; rotate_left; (focus (first | (go_simp; done) | (go_simp; with_reducible rfl))); rotate_left; simp only [Act.put, List.setIfInBounds_toArray, List.set_cons_zero, List.set_cons_succ]
                                    refine awt1 10 195 (o := ({ dst := some 25, op := Go.Op.assign (Go.Operand.tmp 195), type := 4, pos := "law.go:180", after := #[{ on := 8, ground := Go.Ground.data }, { on := 6, ground := Go.Ground.chain }, { on := 0, ground := Go.Ground.phase }, { on := 1, ground := Go.Ground.phase }, { on := 2, ground := Go.Ground.phase }, { on := 3, ground := Go.Ground.phase }, { on := 4, ground := Go.Ground.phase }, { on := 5, ground := Go.Ground.phase }, { on := 6, ground := Go.Ground.phase }, { on := 7, ground := Go.Ground.phase }, { on := 8, ground := Go.Ground.phase }, { on := 9, ground := Go.Ground.textOnly Go.Departure.lateStores }], guard := none })) (v := ?_) rfl (by kernel_rfl) (by kernel_rfl) (by kernel_rfl) (fun _ _ _ h => h) (by rfl) (by rfl) (fun ev hc hf h0 W => ?_) ?_; rotate_left; (focus (first | (go_simp; done) | (go_simp; with_reducible rfl))); rotate_left; simp only [Act.put, List.setIfInBounds_toArray, List.set_cons_zero, List.set_cons_succ]
                                    refine awt1 11 196 (o := ({ dst := some 26, op := Go.Op.assign (Go.Operand.tmp 196), type := 30, pos := "law.go:180", after := #[{ on := 9, ground := Go.Ground.data }, { on := 10, ground := Go.Ground.chain }, { on := 0, ground := Go.Ground.phase }, { on := 1, ground := Go.Ground.phase }, { on := 2, ground := Go.Ground.phase }, { on := 3, ground := Go.Ground.phase }, { on := 4, ground := Go.Ground.phase }, { on := 5, ground := Go.Ground.phase }, { on := 6, ground := Go.Ground.phase }, { on := 7, ground := Go.Ground.phase }, { on := 8, ground := Go.Ground.phase }, { on := 9, ground := Go.Ground.phase }, { on := 10, ground := Go.Ground.phase }], guard := none })) (v := ?_) rfl (by kernel_rfl) (by kernel_rfl) (by kernel_rfl) (fun _ _ _ h => h) (by rfl) (by rfl) (fun ev hc hf h0 W => ?_) ?_; rotate_left; (focus (first | (go_simp; done) | (go_simp; with_reducible rfl))); rotate_left; simp only [Act.put, List.setIfInBounds_toArray, List.set_cons_zero, List.set_cons_succ]
                                    refine aw_done (by kernel_rfl) ?_
                                    have KK9 := (show Kept (fun k => k = B + j) wr wr.drew from Kept.of_below hW0).grownF hc9.2 (fun k e => by injection e with e; exact .inl e.symm)
                                    have HP9 := HP7.out.kept KK9 (by omega) (by omega) (by omega) (fun k hk => by have := hs7 k hk; omega)
                                    have HNo9 := Lib.hid (HNo7.out.turn j hjlt _ hc9.1 (fun k hk hne => KK9.block k (by omega) hne) KK9.size)
                                    have K9 := Lib.hid (K7.out.kept KK9 (by omega))
                                    have HB9 := Lib.hid (KK9.below HB7.out (fun k e => by have := HNo7.out.low; omega) HB7.out.size)
                                    have hpr := paccepted_any (j : Int) HP9 (by omega) (by rw [HI.out.hN]; omega) (by rw [HI.out.r, HI.out.n]; exact (named_split hnamed).1) (by rw [HI.out.hN]; exact HI.out.pok) (by have := HI.out.nn; omega)
                                    rw [HI.out.r, HI.out.n] at hpr
                                    have HPR := Lib.hid hpr
                                    obtain ⟨k0, k1⟩ : w9.cell? ⟨p, 0, none⟩ = some (.int .u64 ((i : Int) + 1)) ∧ w9.cell? ⟨p, 1, none⟩ = some (.int .i64 ((i : Int) % 7)) := ⟨K9.out.cell 0, K9.out.cell 1⟩
                                    have hp9 := K9.out.lt
                                    clear hpr HP9 HS HAC hW0 KK9 hc9
                                    go_wp2_with fail
                                    refine HPR.out.mono ?_
                                    rintro e w10 ⟨rfl, PN⟩
                                    have PL := PN.kept9 (B := p + 1) (by omega) (by omega) (by omega) hs7 hp9
                                    have HNo10 := Lib.hid (HNo9.out.low' PL.1 (by omega))
                                    have K10 := Lib.hid (K9.out.below PL.1 (by omega))
                                    have HB10 := Lib.hid (HB9.out.trans (PL.1.mono (by have := HB9.out.size; omega)))
                                    have HP10 := Lib.hid PN.at'
                                    have HI10 := Lib.hid (HI.out.step hjlt (by omega) hnamed)
                                    clear PN PL k0 k1 HNo9 K9 HB9 HPR
                                    go_wp2_with fail
                                    go_roundw
                                    case rel => exact ⟨j + 1, _, _, by omega, by go_num, HI10, HNo10, HP10, K10, HB10⟩
                                    case measure => simp [intOf]; omega
                                  exact ar_nil
                              · have hmi : ¬ (m1 : Int) < (hs.length : Int) := by omega
                                go_upto_region 45 with fail
                                have HS := Lib.hid (show ∀ w', Bel wr w' → w'.cell? ⟨w.heap.size, j, none⟩ = some (.pointer (some ⟨B + j, 0, none⟩)) ∧ w'.cell? ⟨p, 0, none⟩ = some (.int .u64 ((i : Int) + 1)) ∧ w'.cell? ⟨p, 1, none⟩ = some (.int .i64 ((i : Int) % 7)) from fun w' hw => ⟨(HNo7.out.keep hw).row j hjlt, (K7.out.bel hw).cell 0, (K7.out.bel hw).cell 1⟩)
                                have hnamed : namedB ((i : Int) + 1) ((i : Int) % 7) = true := named_ok _ _ (by omega) (by omega) hmod0 hmod7
                                have hW0 : Bel wr wr.drew := (Bel.refl wr).drew
                                have HAC := Lib.hid (show Calls Try.prog 30 #[.pointer (some ⟨B + j, 0, none⟩), .agg #[.int .u64 ((i : Int) + 1), .int .i64 ((i : Int) % 7)], .string u] wr.drew fun e W' => e = .returned (.tuple #[.bool true, .int .i64 0]) ∧ (Bk W' (B + j) (Acc.accept ((i : Int) + 1) ((i : Int) % 7) u).cells 116 ∧ wr.drew.grownBy W' (some (B + j))) from by
                                  have h9 := accept_any (B + j) (ac3 j) ((i : Int) + 1) ((i : Int) % 7) u wr.drew ((HNo7.out.node j hjlt).bel hW0) (by have := HI.out.usz; omega)
                                  unfold AcptPost at h9
                                  rw [acpt_ok HI.out hjlt hnamed] at h9
                                  exact h9)
                                have htop7 := HNo7.out.top
                                refine wp_aw 12 #[false, false, false, false, false, false, false, false, false, false, false, false] rfl rfl ?_
                                refine aw_join 6 ?L45By ?F45By wr.drew (fun END => ?_) ?_
                                case refine_1 =>
                                  refine awt1 0 9 (o := ({ dst := some 188, op := Go.Op.move (Go.Operand.tmp 9), type := 92, pos := "law.go:180", after := #[], guard := none })) (v := ?_) rfl (by kernel_rfl) (by kernel_rfl) (by kernel_rfl) (fun _ _ _ h => h) (by rfl) (by rfl) (fun ev hc hf h0 W => ?_) ?_; rotate_left; (focus (first | (go_simp; done) | (go_simp; with_reducible rfl))); rotate_left; simp only [Act.put, List.setIfInBounds_toArray, List.set_cons_zero, List.set_cons_succ]
                                  refine awt1 1 24 (o := ({ dst := some 189, op := Go.Op.move (Go.Operand.tmp 24), type := 3, pos := "law.go:180", after := #[], guard := none })) (v := ?_) rfl (by kernel_rfl) (by kernel_rfl) (by kernel_rfl) (fun _ _ _ h => h) (by rfl) (by rfl) (fun ev hc hf h0 W => ?_) ?_; rotate_left; (focus (first | (go_simp; done) | (go_simp; with_reducible rfl))); rotate_left; simp only [Act.put, List.setIfInBounds_toArray, List.set_cons_zero, List.set_cons_succ]
                                  refine awt2 2 188 189 (o := ({ dst := some 190, op := Go.Op.indexAddr 92 (Go.Operand.tmp 188) (Go.Operand.tmp 189), type := 0, pos := "law.go:180", after := #[{ on := 0, ground := Go.Ground.data }, { on := 1, ground := Go.Ground.data }], guard := none })) (v := ?_) rfl (by kernel_rfl) (by kernel_rfl) (by kernel_rfl) (fun _ _ _ h => h) (by rfl) (by rfl) (by rfl) (fun ev hc hf h0 h1 W => ?_) ?_; rotate_left; (focus (first | (go_simp; done) | (go_simp; with_reducible rfl))); rotate_left; simp only [Act.put, List.setIfInBounds_toArray, List.set_cons_zero, List.set_cons_succ]
                                  refine awt1 5 22 (o := ({ dst := some 193, op := Go.Op.move (Go.Operand.tmp 22), type := 9, pos := "law.go:180", after := #[], guard := none })) (v := ?_) rfl (by kernel_rfl) (by kernel_rfl) (by kernel_rfl) (fun _ _ _ h => h) (by rfl) (by rfl) (fun ev hc hf h0 W => ?_) ?_; rotate_left; (focus (first | (go_simp; done) | (go_simp; with_reducible rfl))); rotate_left; simp only [Act.put, List.setIfInBounds_toArray, List.set_cons_zero, List.set_cons_succ]
                                  refine aw_all [3, 4] (by kernel_rfl) (by simp) ?_
                                  refine arv1 (o := ({ dst := some 191, op := Go.Op.load 44 (Go.Operand.tmp 190), type := 44, pos := "law.go:180", after := #[{ on := 2, ground := Go.Ground.data }], guard := none })) 190 (v := ?_) (W' := ?_) rfl (by rfl) (by rfl) (fun ev hc hf h0 => ?_) ?_ ?_; rotate_left 2; (focus (obtain ⟨e0, e1, e2⟩ := HS.out _ hW0; first | (go_simp; done) | (go_simp; with_reducible rfl) | (go_simp; constructor <;> with_reducible rfl)))
                                  · simp only [Act.put, List.setIfInBounds_toArray, List.set_cons_zero, List.set_cons_succ]
                                    refine aw_all [4] (by kernel_rfl) (by simp) ?_
                                    refine arv1 (o := ({ dst := some 192, op := Go.Op.load 24 (Go.Operand.tmp 15), type := 24, pos := "law.go:180", after := #[], guard := none })) 15 (v := ?_) (W' := ?_) rfl (by rfl) (by rfl) (fun ev hc hf h0 => ?_) ?_ ?_; rotate_left 2; (focus (obtain ⟨e0, e1, e2⟩ := HS.out _ hW0; first | (go_simp; done) | (go_simp; with_reducible rfl) | (go_simp; constructor <;> with_reducible rfl)))
                                    · simp only [Act.put, List.setIfInBounds_toArray, List.set_cons_zero, List.set_cons_succ]
                                      exact END
                                    exact ar_nil
                                  refine arv1 (o := ({ dst := some 192, op := Go.Op.load 24 (Go.Operand.tmp 15), type := 24, pos := "law.go:180", after := #[], guard := none })) 15 (v := ?_) (W' := ?_) rfl (by rfl) (by rfl) (fun ev hc hf h0 => ?_) ?_ ?_; rotate_left 2; (focus (obtain ⟨e0, e1, e2⟩ := HS.out _ hW0; first | (go_simp; done) | (go_simp; with_reducible rfl) | (go_simp; constructor <;> with_reducible rfl)))
                                  · simp only [Act.put, List.setIfInBounds_toArray, List.set_cons_zero, List.set_cons_succ]
                                    refine aw_all [3] (by kernel_rfl) (by simp) ?_
                                    refine arv1 (o := ({ dst := some 191, op := Go.Op.load 44 (Go.Operand.tmp 190), type := 44, pos := "law.go:180", after := #[{ on := 2, ground := Go.Ground.data }], guard := none })) 190 (v := ?_) (W' := ?_) rfl (by rfl) (by rfl) (fun ev hc hf h0 => ?_) ?_ ?_; rotate_left 2; (focus (obtain ⟨e0, e1, e2⟩ := HS.out _ hW0; first | (go_simp; done) | (go_simp; with_reducible rfl) | (go_simp; constructor <;> with_reducible rfl)))
                                    · simp only [Act.put, List.setIfInBounds_toArray, List.set_cons_zero, List.set_cons_succ]
                                      exact END
                                    exact ar_nil
                                  exact ar_nil
                                refine aw_all [6] (by kernel_rfl) (by simp) ?_
                                refine arc3 (o := ({ dst := some 194, op := Go.Op.call { callee := Go.Callee.value (Go.Operand.func 30), args := #[Go.Operand.tmp 191, Go.Operand.tmp 192, Go.Operand.tmp 193], argTypes := #[44, 24, 9] }, type := 35, pos := "law.go:180", after := #[{ on := 3, ground := Go.Ground.data }, { on := 4, ground := Go.Ground.data }, { on := 5, ground := Go.Ground.data }], guard := none })) 191 192 193 _ _ _ rfl (by rfl) (by rfl) (by rfl) (by rfl) (fun ev hc hf h0 h1 h2 => ?_) HAC.out (fun w9 hc9 => ?_) ?_
                                · focus (go_simp; done)
                                · simp only [Act.put, List.setIfInBounds_toArray, List.set_cons_zero, List.set_cons_succ]
                                  refine awt1 7 194 (o := ({ dst := some 187, op := Go.Op.move (Go.Operand.tmp 194), type := 35, pos := "law.go:180", after := #[{ on := 6, ground := Go.Ground.data }], guard := none })) (v := ?_) rfl (by kernel_rfl) (by kernel_rfl) (by kernel_rfl) (fun _ _ _ h => h) (by rfl) (by rfl) (fun ev hc hf h0 W => ?_) ?_; rotate_left; (focus (first | (go_simp; done) | (go_simp; with_reducible rfl))); rotate_left; simp only [Act.put, List.setIfInBounds_toArray, List.set_cons_zero, List.set_cons_succ]
                                  refine awt1 8 187 (o := ({ dst := some 195, op := Go.Op.extract (Go.Operand.tmp 187) 0, type := 4, pos := "law.go:180", after := #[{ on := 7, ground := Go.Ground.data }], guard := none })) (v := ?_) rfl (by kernel_rfl) (by kernel_rfl) (by kernel_rfl) (fun _ _ _ h => h) (by rfl) (by rfl) (fun ev hc hf h0 W => ?_) ?_; rotate_left; (focus (first | (go_simp; done) | (go_simp; with_reducible rfl))); rotate_left; simp only [Act.put, List.setIfInBounds_toArray, List.set_cons_zero, List.set_cons_succ]
                                  refine awt1 9 187 (o := ({ dst := some 196, op := Go.Op.extract (Go.Operand.tmp 187) 1, type := 30, pos := "law.go:180", after := #[{ on := 7, ground := Go.Ground.data }, { on := 10, ground := Go.Ground.gcOnly Go.Departure.lateStores }], guard := none })) (v := ?_) rfl (by kernel_rfl) (by kernel_rfl) (by kernel_rfl) (fun _ _ _ h => h) (by rfl) (by rfl) (fun ev hc hf h0 W => ?_) ?_; rotate_left; (focus (first | (go_simp; done) | (go_simp; with_reducible rfl))); rotate_left; simp only [Act.put, List.setIfInBounds_toArray, List.set_cons_zero, List.set_cons_succ]
                                  refine awt1 10 195 (o := ({ dst := some 25, op := Go.Op.assign (Go.Operand.tmp 195), type := 4, pos := "law.go:180", after := #[{ on := 8, ground := Go.Ground.data }, { on := 6, ground := Go.Ground.chain }, { on := 0, ground := Go.Ground.phase }, { on := 1, ground := Go.Ground.phase }, { on := 2, ground := Go.Ground.phase }, { on := 3, ground := Go.Ground.phase }, { on := 4, ground := Go.Ground.phase }, { on := 5, ground := Go.Ground.phase }, { on := 6, ground := Go.Ground.phase }, { on := 7, ground := Go.Ground.phase }, { on := 8, ground := Go.Ground.phase }, { on := 9, ground := Go.Ground.textOnly Go.Departure.lateStores }], guard := none })) (v := ?_) rfl (by kernel_rfl) (by kernel_rfl) (by kernel_rfl) (fun _ _ _ h => h) (by rfl) (by rfl) (fun ev hc hf h0 W => ?_) ?_; rotate_left; (focus (first | (go_simp; done) | (go_simp; with_reducible rfl))); rotate_left; simp only [Act.put, List.setIfInBounds_toArray, List.set_cons_zero, List.set_cons_succ]
                                  refine awt1 11 196 (o := ({ dst := some 26, op := Go.Op.assign (Go.Operand.tmp 196), type := 30, pos := "law.go:180", after := #[{ on := 9, ground := Go.Ground.data }, { on := 10, ground := Go.Ground.chain }, { on := 0, ground := Go.Ground.phase }, { on := 1, ground := Go.Ground.phase }, { on := 2, ground := Go.Ground.phase }, { on := 3, ground := Go.Ground.phase }, { on := 4, ground := Go.Ground.phase }, { on := 5, ground := Go.Ground.phase }, { on := 6, ground := Go.Ground.phase }, { on := 7, ground := Go.Ground.phase }, { on := 8, ground := Go.Ground.phase }, { on := 9, ground := Go.Ground.phase }, { on := 10, ground := Go.Ground.phase }], guard := none })) (v := ?_) rfl (by kernel_rfl) (by kernel_rfl) (by kernel_rfl) (fun _ _ _ h => h) (by rfl) (by rfl) (fun ev hc hf h0 W => ?_) ?_; rotate_left; (focus (first | (go_simp; done) | (go_simp; with_reducible rfl))); rotate_left; simp only [Act.put, List.setIfInBounds_toArray, List.set_cons_zero, List.set_cons_succ]
                                  refine aw_done (by kernel_rfl) ?_
                                  have KK9 := (show Kept (fun k => k = B + j) wr wr.drew from Kept.of_below hW0).grownF hc9.2 (fun k e => by injection e with e; exact .inl e.symm)
                                  have HP9 := HP7.out.kept KK9 (by omega) (by omega) (by omega) (fun k hk => by have := hs7 k hk; omega)
                                  have HNo9 := Lib.hid (HNo7.out.turn j hjlt _ hc9.1 (fun k hk hne => KK9.block k (by omega) hne) KK9.size)
                                  have K9 := Lib.hid (K7.out.kept KK9 (by omega))
                                  have HB9 := Lib.hid (KK9.below HB7.out (fun k e => by have := HNo7.out.low; omega) HB7.out.size)
                                  have hpr := paccepted_any (j : Int) HP9 (by omega) (by rw [HI.out.hN]; omega) (by rw [HI.out.r, HI.out.n]; exact (named_split hnamed).1) (by rw [HI.out.hN]; exact HI.out.pok) (by have := HI.out.nn; omega)
                                  rw [HI.out.r, HI.out.n] at hpr
                                  have HPR := Lib.hid hpr
                                  obtain ⟨k0, k1⟩ : w9.cell? ⟨p, 0, none⟩ = some (.int .u64 ((i : Int) + 1)) ∧ w9.cell? ⟨p, 1, none⟩ = some (.int .i64 ((i : Int) % 7)) := ⟨K9.out.cell 0, K9.out.cell 1⟩
                                  have hp9 := K9.out.lt
                                  clear hpr HP9 HS HAC hW0 KK9 hc9
                                  go_wp2_with fail
                                  refine HPR.out.mono ?_
                                  rintro e w10 ⟨rfl, PN⟩
                                  have PL := PN.kept9 (B := p + 1) (by omega) (by omega) (by omega) hs7 hp9
                                  have HNo10 := Lib.hid (HNo9.out.low' PL.1 (by omega))
                                  have K10 := Lib.hid (K9.out.below PL.1 (by omega))
                                  have HB10 := Lib.hid (HB9.out.trans (PL.1.mono (by have := HB9.out.size; omega)))
                                  have HP10 := Lib.hid PN.at'
                                  have HI10 := Lib.hid (HI.out.step hjlt (by omega) hnamed)
                                  clear PN PL k0 k1 HNo9 K9 HB9 HPR
                                  go_wp2_with fail
                                  go_roundw
                                  case rel => exact ⟨j + 1, _, _, by omega, by go_num, HI10, HNo10, HP10, K10, HB10⟩
                                  case measure => simp [intOf]; omega
                                exact ar_nil
                            · obtain rfl : N = j := by omega
                              go_wp2_with fail
                              refine (pchosen_any HP7.out (by have := HI.out.nn; omega)).mono ?_
                              rintro e w8 ⟨rfl, hb8⟩
                              have HNo8 := Lib.hid (HNo7.out.keep hb8)
                              have HB8 := Lib.hid (HB7.out.trans (hb8.mono HB7.out.size))
                              have hnd := HP7.out.and
                              have HE := HI.out.chose
                              cases hen2 : enB N P3.aord.length with
                              | false =>
                                rw [if_neg (by rw [hen2]; simp)] at HE
                                rw [HE]
                                have HG' := Lib.hid (show Good N ((i + 1 : Nat) : Int) ac3 u true from HI.out.good)
                                clear HE HI HP7 HNo7 K7 HB7 hb8
                                go_wp2_with fail
                                go_roundw
                                case rel => exact ⟨i + 1, m + 2, ac3, u, true, by omega, by omega, rfl, rfl, by go_num, by go_num, HG', HNo8, HB8⟩
                                case measure => simp [intOf]; omega
                              | true =>
                                rw [if_pos hen2] at HE
                                rw [HE]
                                have HG' := Lib.hid (show Good N ((i + 1 : Nat) : Int) ac3 u true from HI.out.chosen hnd hen2)
                                clear HE HI HP7 HNo7 K7 HB7 hb8
                                go_wp2_with fail
                                go_roundw
                                case rel => exact ⟨i + 1, m + 2, ac3, u, true, by omega, by omega, rfl, rfl, by go_num, by go_num, HG', HNo8, HB8⟩
                                case measure => simp [intOf]; omega
                exact ar_nil
              · obtain rfl : i = l.length := by omega
                go_wp2_with (go_at_call 53; refine (works13_any _).mono ?_; rintro e w' ⟨rfl, hbw⟩)
                go_ret
                exact ⟨rfl, HB.out.trans (hbw.mono HB.out.size)⟩

end Go.Proofs.Ytlgljcfkoakogaa
