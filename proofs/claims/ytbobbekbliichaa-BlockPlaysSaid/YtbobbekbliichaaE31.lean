import Derived.Test.YtbobbekbliichaaE30
namespace Go.Proofs.Ytbobbekbliichaa
open Go.RowKit
set_option linter.unusedSimpArgs false
set_option linter.unusedVariables false


open Go.Lib (byteCells byteCells_length byteCells_one)
theorem ownsRow_base {W : World} {B B' : Nat} {e : TypeId} {size : Nat} {v : Value} {n : Nat} {xs : List Value} (h : W.ownsRow B e size v n xs) (hB : B' ≤ B) : W.ownsRow B' e size v n xs := by
  obtain ⟨h1, h2 | ⟨g, cap, cur, h2, h3, h4, h5⟩⟩ := h
  · exact ⟨h1, .inl h2⟩
  · exact ⟨h1, .inr ⟨g, cap, cur, h2, Nat.le_trans hB h3, h4, h5⟩⟩
theorem RefHas.base {B B' : Nat} {F : Nat → Prop} {W : World} {r : Nat} {d : Dsk} (h : RefHas B F W r d) (hB : B' ≤ B) : RefHas B' F W r d := by
  obtain ⟨sv, lv, h⟩ := h
  exact ⟨sv, lv, h.ok, h.hr, h.hs, h.hl, h.sr, h.lr, h.sl, fun k hk => ⟨Nat.le_trans hB (h.low k hk).1, (h.low k hk).2⟩, h.at_r, ownsRow_base h.at_s hB, ownsRow_base h.at_l hB⟩
theorem two_start {W W1 W2 : World} {g r : Nat} {d : Dsk} (h : Own W W1 g d) (hb : Below W1.heap.size W1 W2) (hr : RefHas W1.heap.size (Fresh W1 W2) W2 r d) : Two [] W W2 g r d d :=
  ⟨h.2.trans (hb.mono h.2.size), _, _, h.1.bel hb, hr.base h.2.size, fun k h1 h2 => by have := h1.2; have := h2.1; omega, fun z hz => by cases hz⟩
/-- What the law looks at of the document's disk. -/
theorem Two.refL {Z : List (Nat × Obj)} {W Wi : World} {g r : Nat} {d1 d2 : Dsk} (h : Two Z W Wi g r d1 d2) :
    ∃ A cap, Wi.cell? ⟨r, 1, none⟩ = some (.slice A d2.L.length cap) ∧ r < Wi.heap.size ∧ (d2.L.length = 0 ∨ ∃ gl, A = some ⟨gl, 0, none⟩ ∧ ∀ i x, d2.L[i]? = some x → Wi.cell? ⟨gl, i * 2, none⟩ = some (.int .i64 x.1)) := by
  obtain ⟨_, F1, F2, h1, ⟨sv, lv, hd⟩, h3, _⟩ := h
  obtain ⟨A, cap, e, hA⟩ := hd.lrow
  refine ⟨A, cap, by rw [← e]; exact hd.cells.2.1, (hd.low r hd.hr).2, ?_⟩
  rcases hA with h | ⟨gl, e, _, hc⟩
  · exact .inl h
  · exact .inr ⟨gl, e, fun i x hx => (hc i x hx).1⟩
theorem loose_cell {W : World} {B : Nat} {A : Option Addr} {n c : Nat} {L : List (Int × List UInt8)} (hn : n = L.length) (h : W.ownsRow B 3 1 (.slice A n c) n (L.map fun x => .int .i64 x.1)) {i : Nat} {x : Int × List UInt8} (hx : L[i]? = some x) :
    ∃ b, A = some ⟨b, 0, none⟩ ∧ ∀ i x, L[i]? = some x → W.cell? ⟨b, i, none⟩ = some (.int .i64 x.1) := by
  subst hn
  have hp : (L.map fun x => Value.int .i64 x.1) = (L.map (·.1)).map (Value.int .i64) := by rw [List.map_map]; rfl
  rw [hp] at h
  rcases h.2 with ⟨_, h0⟩ | ⟨q, cap, cur, e, hB, hq, hc, _, hs, ht⟩
  · rw [List.eq_nil_of_length_eq_zero h0] at hx
    simp at hx
  · injection e with e1 e2 e3
    refine ⟨q, e1, fun j y hy => ?_⟩
    have hi : j < L.length := (List.getElem?_eq_some_iff.1 hy).1
    have := cell_of_row W q j _ _ _ hq
    rw [this, ← Array.getElem?_toList]
    have h1 : (cur.toList.take (L.length * 1))[j]? = ((L.map (·.1)).map (Value.int .i64))[j]? := by rw [ht]
    rw [List.getElem?_take_of_lt (by omega)] at h1
    rw [h1, List.getElem?_map, List.getElem?_map, hy]
    rfl
set_option maxRecDepth 100000 in
set_option maxHeartbeats 6400000 in
theorem plays_walk (bl : Int) (A : Option Addr) (cap : Nat) (l : List Stp) (W : World) (wb : -9223372036854775808 ≤ bl ∧ bl ≤ 9223372036854775807) (hx : StepsAt W A l) (hok : ∀ s ∈ l, s.ok2) (hl : l.length * 48 ≤ 140737488351232) :
    Calls Try.prog 3 #[.int .i64 bl, .slice A l.length cap] W fun e W' => e = .returned (.bool true) ∧ Below W.heap.size W W' := by
  have HX := Lib.hid (And.intro hx (And.intro hok hl))
  have HB := Lib.hid wb
  clear hx hok hl wb
  go_enter Try.func3, Try.ntmps3
  go_wp2_with fail
  refine (heavy_any bl A cap l W HX.out.1 HX.out.2.1 HX.out.2.2).mono ?_
  rintro e w0 ⟨b, rfl, rfl, hb⟩
  cases b with
  | true =>
    clear hb
    go_wp2_with fail
    refine (alive_any _).mono ?_
    rintro e w1 ⟨rfl, hb1⟩
    go_wp2_with fail
    go_ret
    exact ⟨rfl, hb1⟩
  | false =>
    obtain ⟨hl4, hps, hbl⟩ := hb rfl
    clear hb
    by_cases hn : bl < 1 ∨ 4096 < bl
    · have HN := Lib.hid hn
      clear hl4 hps hbl hn
      go_wp2_with fail
      refine (new_bad bl HN.out W).mono ?_
      rintro e w1 ⟨rfl, rfl⟩
      go_wp2_with fail
      refine (rnew_bad bl HN.out W).mono ?_
      rintro e w1 ⟨rfl, rfl⟩
      go_wp2_with fail
      refine (alive_any _).mono ?_
      rintro e w1 ⟨rfl, hb1⟩
      go_wp2_with fail
      go_ret
      exact ⟨rfl, hb1⟩
    · obtain ⟨n, rfl⟩ : ∃ n : Nat, bl = n := ⟨bl.toNat, by omega⟩
      have HN := Lib.hid (show 1 ≤ n ∧ n ≤ 4096 by omega)
      have HP := Lib.hid (And.intro hl4 hps)
      clear hl4 hps hbl hn HB
      go_wp2_with fail
      refine (own_new n HN.out.1 HN.out.2 W W (Below.refl _ _)).mono ?_
      rintro e w1 ⟨rfl, hO, _⟩
      have O1 := Lib.hid hO
      clear hO
      go_wp2_with fail
      refine (rnew_good n HN.out.1 HN.out.2 w1).mono ?_
      rintro e w2 ⟨rfl, hb2, hR⟩
      have T2 := Lib.hid (two_start O1.out hb2 hR)
      generalize w1.heap.size = r at T2 ⊢
      generalize W.heap.size + 1 = g at T2 ⊢
      clear hb2 hR O1
      go_wp2_with fail
      go_loopw [9] (fun i wr => ∃ (k : Nat) (d : Dsk), k ≤ l.length ∧ i = .int .i64 k ∧ Two [] W wr g r d d ∧ d.S.length = n ∧ d.L.length ≤ k) (fun i _ => l.length - (intOf i).toNat)
      case atStart => exact ⟨0, newDsk n, Nat.zero_le _, rfl, T2.out, zeroS_len n, Nat.le_refl _⟩
      case round =>
        obtain ⟨k, d, hk, rfl, hT, hS, hL⟩ := hrel
        have T := Lib.hid (And.intro hT (And.intro hS hL))
        clear hT hS hL T2
        by_cases hlt : k < l.length
        · obtain ⟨s, hs⟩ : ∃ s, l[k]? = some s := ⟨_, List.getElem?_eq_getElem hlt⟩
          obtain ⟨b, o, rfl, hst⟩ : ∃ b o, A = some ⟨b, o, none⟩ ∧ StepAt W b (o + k * 5) s := by
            rcases HX.out.1 with h0 | ⟨b, o, e, h⟩
            · rw [h0] at hlt; simp at hlt
            · exact ⟨b, o, e, h k s hs⟩
          obtain ⟨c0, c1, c2, c3, c4, _⟩ := hst.bel T.out.1.1
          have HSM := Lib.hid (List.mem_of_getElem? hs)
          have HIN := Lib.hid hst.2.2.2.2.2
          have HLT := Lib.hid hlt
          have hkb : (k : Int) ≤ 400 := by have := HP.out.1; omega
          clear hs hst hk
          go_wp2_with fail
          refine (does_any s (HX.out.2.1 s HSM.out).1 (HX.out.2.1 s HSM.out).2.1 HIN.out (by have := HP.out.2 s HSM.out; omega) (by have := T.out.2.2; omega) T.out.1).mono ?_
          rintro e w3 ⟨rfl, h3⟩
          have T3 := Lib.hid h3
          have L3 := Lib.hid (show (stepD d s).S.length = n ∧ (stepD d s).L.length ≤ k + 1 by have h1 := step_len d s; have h2 := T.out.2; omega)
          clear h3 c0 c1 c2 c3 c4 T
          generalize stepD d s = d' at T3 L3
          go_wp2_with fail
          refine (two_loose T3.out (by have := L3.out.2; omega)).mono ?_
          rintro e w4 ⟨A4, n4, rfl, ho, hb4⟩
          have T4 := Lib.hid (T3.out.keep hb4)
          obtain ⟨A5, n5, cr, hrl, hA5⟩ := T4.out.refL
          have hlen : (d'.L.length : Int) ≤ 401 := by have := L3.out.2; omega
          have X4 := Lib.hid (And.intro ho hA5)
          clear T3 ho hb4 hA5 hrl
          go_wp2_with fail
          have CR := Lib.hid cr
          clear cr
          go_loopw [11] (fun j wr => ∃ m : Nat, m ≤ d'.L.length ∧ j = .int .i64 m ∧ Bel w4 wr) (fun j _ => d'.L.length - (intOf j).toNat)
          case atStart => exact ⟨0, Nat.zero_le _, rfl, Bel.refl w4⟩
          case round =>
            obtain ⟨m, hm, rfl, hB4⟩ := hrel
            by_cases hlm : m < d'.L.length
            · obtain ⟨x, hx⟩ : ∃ x, d'.L[m]? = some x := ⟨_, List.getElem?_eq_getElem hlm⟩
              obtain ⟨b4, rfl, hc4⟩ := loose_cell rfl X4.out.1 hx
              obtain ⟨b5, rfl, hc5⟩ : ∃ gl, A5 = some ⟨gl, 0, none⟩ ∧ ∀ i x, d'.L[i]? = some x → w4.cell? ⟨gl, i * 2, none⟩ = some (.int .i64 x.1) := X4.out.2.resolve_left (by omega)
              have hmi : (m : Int) < (d'.L.length : Int) := by omega
              have HS := Lib.hid (show ∀ w', Bel w4 w' → w'.cell? ⟨r, 1, none⟩ = some (.slice (some ⟨b5, 0, none⟩) d'.L.length n5) ∧ w'.cell? ⟨b4, m, none⟩ = some (.int .i64 x.1) ∧ w'.cell? ⟨b5, m * 2, none⟩ = some (.int .i64 x.1) from fun w' hw => ⟨Bel.cell hw CR.out, Bel.cell hw (hc4 m x hx), Bel.cell hw (hc5 m x hx)⟩)
              have hC : Bel w4 wr.drew := hB4.drew
              have HM := Lib.hid (And.intro hm hlm)
              clear hx hc4 hc5 hm hlm hB4
              go_upto_region 20 with fail
              refine wp_ai (Bel w4) 13 #[false, false, false, false, false, false, false, false, false, false, false, false, false] rfl rfl ?_
              refine ait1 0 10 (o := ({ dst := some 69, op := Go.Op.move (Go.Operand.tmp 10), type := 33, pos := "law.go:99", after := #[], guard := none })) (v := ?_) rfl (by kernel_rfl) (by kernel_rfl) (by kernel_rfl) (fun _ _ _ h => h) hC (by rfl) (by rfl) (fun ev hc hf h0 W hW => ?_) ?_; rotate_left; (focus (first | (go_simp; done) | (go_simp; with_reducible rfl))); rotate_left; simp only [Act.put, List.setIfInBounds_toArray, List.set_cons_zero, List.set_cons_succ]
              refine ait1 1 11 (o := ({ dst := some 70, op := Go.Op.move (Go.Operand.tmp 11), type := 3, pos := "law.go:99", after := #[], guard := none })) (v := ?_) rfl (by kernel_rfl) (by kernel_rfl) (by kernel_rfl) (fun _ _ _ h => h) hC (by rfl) (by rfl) (fun ev hc hf h0 W hW => ?_) ?_; rotate_left; (focus (first | (go_simp; done) | (go_simp; with_reducible rfl))); rotate_left; simp only [Act.put, List.setIfInBounds_toArray, List.set_cons_zero, List.set_cons_succ]
              refine ait1 4 7 (o := ({ dst := some 73, op := Go.Op.move (Go.Operand.tmp 7), type := 29, pos := "law.go:99", after := #[], guard := none })) (v := ?_) rfl (by kernel_rfl) (by kernel_rfl) (by kernel_rfl) (fun _ _ _ h => h) hC (by rfl) (by rfl) (fun ev hc hf h0 W hW => ?_) ?_; rotate_left; (focus (first | (go_simp; done) | (go_simp; with_reducible rfl))); rotate_left; simp only [Act.put, List.setIfInBounds_toArray, List.set_cons_zero, List.set_cons_succ]
              refine ait1 8 11 (o := ({ dst := some 77, op := Go.Op.move (Go.Operand.tmp 11), type := 3, pos := "law.go:99", after := #[], guard := none })) (v := ?_) rfl (by kernel_rfl) (by kernel_rfl) (by kernel_rfl) (fun _ _ _ h => h) hC (by rfl) (by rfl) (fun ev hc hf h0 W hW => ?_) ?_; rotate_left; (focus (first | (go_simp; done) | (go_simp; with_reducible rfl))); rotate_left; simp only [Act.put, List.setIfInBounds_toArray, List.set_cons_zero, List.set_cons_succ]
              refine ait2 2 69 70 (o := ({ dst := some 71, op := Go.Op.indexAddr 33 (Go.Operand.tmp 69) (Go.Operand.tmp 70), type := 0, pos := "law.go:99", after := #[{ on := 0, ground := Go.Ground.data }, { on := 1, ground := Go.Ground.data }], guard := none })) (v := ?_) rfl (by kernel_rfl) (by kernel_rfl) (by kernel_rfl) (fun _ _ _ h => h) hC (by rfl) (by rfl) (by rfl) (fun ev hc hf h0 h1 W hW => ?_) ?_; rotate_left; (focus (first | (go_simp; done) | (go_simp; with_reducible rfl))); rotate_left; simp only [Act.put, List.setIfInBounds_toArray, List.set_cons_zero, List.set_cons_succ]
              refine ait1 3 71 (o := ({ dst := some 72, op := Go.Op.load 3 (Go.Operand.tmp 71), type := 3, pos := "law.go:99", after := #[{ on := 2, ground := Go.Ground.data }], guard := none })) (v := ?_) rfl (by kernel_rfl) (by kernel_rfl) (by kernel_rfl) (fun _ _ _ h => h) hC (by rfl) (by rfl) (fun ev hc hf h0 W hW => ?_) ?_; rotate_left; (focus (obtain ⟨e0, e1, e2⟩ := HS.out W hW; first | (go_simp; done) | (go_simp; with_reducible rfl))); rotate_left; simp only [Act.put, List.setIfInBounds_toArray, List.set_cons_zero, List.set_cons_succ]
              refine ait1 5 73 (o := ({ dst := some 74, op := Go.Op.nilCheck (Go.Operand.tmp 73), type := 0, pos := "law.go:99", after := #[{ on := 4, ground := Go.Ground.data }], guard := none })) (v := ?_) rfl (by kernel_rfl) (by kernel_rfl) (by kernel_rfl) (fun _ _ _ h => h) hC (by rfl) (by rfl) (fun ev hc hf h0 W hW => ?_) ?_; rotate_left; (focus (first | (go_simp; done) | (go_simp; with_reducible rfl))); rotate_left; simp only [Act.put, List.setIfInBounds_toArray, List.set_cons_zero, List.set_cons_succ]
              refine ait1 6 74 (o := ({ dst := some 75, op := Go.Op.fieldAddr 40 (Go.Operand.tmp 74) 1, type := 0, pos := "law.go:99", after := #[{ on := 5, ground := Go.Ground.data }], guard := none })) (v := ?_) rfl (by kernel_rfl) (by kernel_rfl) (by kernel_rfl) (fun _ _ _ h => h) hC (by rfl) (by rfl) (fun ev hc hf h0 W hW => ?_) ?_; rotate_left; (focus (first | (go_simp; done) | (go_simp; with_reducible rfl))); rotate_left; simp only [Act.put, List.setIfInBounds_toArray, List.set_cons_zero, List.set_cons_succ]
              refine ait1 7 75 (o := ({ dst := some 76, op := Go.Op.load 38 (Go.Operand.tmp 75), type := 38, pos := "law.go:99", after := #[{ on := 6, ground := Go.Ground.data }], guard := none })) (v := ?_) rfl (by kernel_rfl) (by kernel_rfl) (by kernel_rfl) (fun _ _ _ h => h) hC (by rfl) (by rfl) (fun ev hc hf h0 W hW => ?_) ?_; rotate_left; (focus (obtain ⟨e0, e1, e2⟩ := HS.out W hW; first | (go_simp; done) | (go_simp; with_reducible rfl))); rotate_left; simp only [Act.put, List.setIfInBounds_toArray, List.set_cons_zero, List.set_cons_succ]
              refine ait2 9 76 77 (o := ({ dst := some 78, op := Go.Op.indexAddr 38 (Go.Operand.tmp 76) (Go.Operand.tmp 77), type := 0, pos := "law.go:99", after := #[{ on := 7, ground := Go.Ground.data }, { on := 8, ground := Go.Ground.data }], guard := none })) (v := ?_) rfl (by kernel_rfl) (by kernel_rfl) (by kernel_rfl) (fun _ _ _ h => h) hC (by rfl) (by rfl) (by rfl) (fun ev hc hf h0 h1 W hW => ?_) ?_; rotate_left; (focus (first | (go_simp; done) | (go_simp; with_reducible rfl))); rotate_left; simp only [Act.put, List.setIfInBounds_toArray, List.set_cons_zero, List.set_cons_succ]
              refine ait1 10 78 (o := ({ dst := some 79, op := Go.Op.fieldAddr 42 (Go.Operand.tmp 78) 0, type := 0, pos := "law.go:99", after := #[{ on := 9, ground := Go.Ground.data }], guard := none })) (v := ?_) rfl (by kernel_rfl) (by kernel_rfl) (by kernel_rfl) (fun _ _ _ h => h) hC (by rfl) (by rfl) (fun ev hc hf h0 W hW => ?_) ?_; rotate_left; (focus (first | (go_simp; done) | (go_simp; with_reducible rfl))); rotate_left; simp only [Act.put, List.setIfInBounds_toArray, List.set_cons_zero, List.set_cons_succ]
              refine ait1 11 79 (o := ({ dst := some 80, op := Go.Op.load 3 (Go.Operand.tmp 79), type := 3, pos := "law.go:99", after := #[{ on := 10, ground := Go.Ground.data }], guard := none })) (v := ?_) rfl (by kernel_rfl) (by kernel_rfl) (by kernel_rfl) (fun _ _ _ h => h) hC (by rfl) (by rfl) (fun ev hc hf h0 W hW => ?_) ?_; rotate_left; (focus (obtain ⟨e0, e1, e2⟩ := HS.out W hW; first | (go_simp; done) | (go_simp; with_reducible rfl))); rotate_left; simp only [Act.put, List.setIfInBounds_toArray, List.set_cons_zero, List.set_cons_succ]
              refine ait2 12 72 80 (o := ({ dst := some 81, op := Go.Op.binOp Go.BinOp.neq 3 (Go.Operand.tmp 72) (Go.Operand.tmp 80) 3, type := 4, pos := "law.go:99", after := #[{ on := 3, ground := Go.Ground.data }, { on := 11, ground := Go.Ground.data }], guard := none })) (v := ?_) rfl (by kernel_rfl) (by kernel_rfl) (by kernel_rfl) (fun _ _ _ h => h) hC (by rfl) (by rfl) (by rfl) (fun ev hc hf h0 h1 W hW => ?_) ?_; rotate_left; (focus (first | (go_simp; done) | (go_simp; with_reducible rfl))); rotate_left; simp only [Act.put, List.setIfInBounds_toArray, List.set_cons_zero, List.set_cons_succ]
              refine ai_done (by kernel_rfl) hC ?_
              go_wp2_with fail
              refine ⟨⟨m + 1, by have := HM.out.2; omega, by simp, hC⟩, ?_⟩
              simp [intOf]
              have := HM.out.2
              omega
            · obtain rfl : m = d'.L.length := by omega
              have T5 := Lib.hid (T4.out.keep hB4)
              clear T4 hm hlm hB4 CR X4
              go_wp2_with fail
              refine ⟨⟨k + 1, d', by have := HLT.out; omega, by simp, T5.out, L3.out.1, L3.out.2⟩, ?_⟩
              simp [intOf]
              have := HLT.out
              omega
        · obtain rfl : k = l.length := by omega
          obtain ⟨str, hstr⟩ : ∃ str, (⟨d.sure.toArray⟩ : ByteArray) = str := ⟨_, rfl⟩
          have HS := Lib.hid hstr
          clear hk hlt hstr
          go_wp2_with fail
          refine (two_sure str HS.out T.out.1).mono ?_
          rintro e w3 ⟨rfl, h3⟩
          have T3 := Lib.hid h3
          clear h3
          go_wp2_with fail
          refine (two_rsure str HS.out T3.out).mono ?_
          rintro e w4 ⟨rfl, rfl⟩
          go_wp2_with fail
          refine (two_size T3.out).mono ?_
          rintro e w4 ⟨rfl, rfl⟩
          rw [T.out.2.1]
          go_wp2_with fail
          refine (alive_any _).mono ?_
          rintro e w5 ⟨rfl, hb5⟩
          have HB5 := Lib.hid (T3.out.1.trans (hb5.mono T3.out.1.size))
          clear hb5
          go_wp2_with fail
          go_ret
          exact ⟨rfl, HB5.out⟩
theorem playsWalk (bl : Int) (a : Option Addr) (n c : Nat) (l : List Stp) (W : World) (wb : (Lit.int .i64 bl).wf = true) (e : l.length = n) (o : ∀ s ∈ l, s.ok2) (s : StepsAt W a l) (y : n * 48 ≤ 140737488351232) :
    Calls Try.prog 3 #[.int .i64 bl, .slice a n c] W fun e W' => e = .returned (.bool true) ∧ Below W.heap.size W W' := by
  subst e
  exact plays_walk bl a c l W (wf64 wb) s o y

end Go.Proofs.Ytbobbekbliichaa
