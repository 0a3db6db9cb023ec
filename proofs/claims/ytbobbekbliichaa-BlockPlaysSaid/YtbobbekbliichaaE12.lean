import Derived.Test.YtbobbekbliichaaE11
import Derived.Maps.AppendAt
namespace Go.Proofs.Ytbobbekbliichaa
open Go.RowKit
set_option linter.unusedSimpArgs false
set_option linter.unusedVariables false


open Go.Lib (byteCells byteCells_length byteCells_one)
def syncS : List (Int × List UInt8) → List (List UInt8) → List (List UInt8)
  | [], S => S
  | x :: L, S => syncS L (tear S x 256)
def Dsk.sync (d : Dsk) : Dsk := { d.done with S := syncS d.L d.S, L := [] }
theorem sync_step {L : List (Int × List UInt8)} {S : List (List UInt8)} {k : Nat} {x : Int × List UInt8} (hx : L[k]? = some x) : syncS (L.drop k) S = syncS (L.drop (k + 1)) (tear S x 256) := by
  have hk := (List.getElem?_eq_some_iff.1 hx).1
  rw [List.drop_eq_getElem_cons hk, (List.getElem?_eq_some_iff.1 hx).2]
  rfl
section
variable {B : Nat} {F : Nat → Prop} {W W' : World} {g s : Nat} {lv : Value} {d : Dsk}
theorem DiskIn.dropL1 (h : DiskIn B F W g s lv d) : DiskIn B F (W.setCell ⟨g, 1, none⟩ (.slice none 0 0)) g s (.slice none 0 0) { d with L := [] } := by
  have hk : Kept (fun k => k = g) W (W.setCell ⟨g, 1, none⟩ (.slice none 0 0)) := (Kept.refl (fun k => k = g) W).set (F := fun k => k = g) (g := g) rfl _
  refine ⟨⟨h.ok.pos, h.ok.few, h.ok.all, fun x hx => by simp at hx, h.ok.fuse, h.ok.big⟩, h.hg, h.hs, by simp [Value.ownBlock], h.sg, by simp [Value.ownBlock], by simp [Value.ownBlock], fun k hf => ⟨(h.low k hf).1, Nat.lt_of_lt_of_le (h.low k hf).2 hk.size⟩, ?_, (hk.block s (h.low s h.hs).2 h.sg).trans h.at_s,
    ⟨by show (flatL []).length = 0 * 257; rw [Nat.zero_mul]; rfl, .inl ⟨rfl, rfl⟩⟩⟩
  have := h.at_g.set 1 (.slice none 0 0)
  simpa using this
theorem sync_bad (h : DiskIn B F W g s lv d) (hb : d.may ≠ 0) : Calls Try.prog 18 #[.pointer (some ⟨g, 0, none⟩)] W fun e W' => e = .returned (.int .i64 d.may) ∧ W = W' := by
  have H := Lib.hid (fun w' (e : W = w') => e ▸ may_disk h)
  obtain ⟨m, hm⟩ : ∃ m, d.may = m := ⟨_, rfl⟩
  rw [hm] at H hb ⊢
  have hb' : (m == 0) = false := by simpa using hb
  clear hm h hb
  go_enter Try.func18, Try.ntmps18
  go_wp2_with (go_at_call 31; refine (H.out _ rfl).mono ?_; rintro e w' ⟨rfl, rfl⟩)
  go_ret
  exact ⟨rfl, rfl⟩
end
set_option maxRecDepth 100000 in
set_option maxHeartbeats 6400000 in
theorem sync_good {B : Nat} {F : Nat → Prop} {W : World} {g s : Nat} {lv : Value} {d : Dsk} (h : DiskIn B F W g s lv d) (hm : d.may = 0) (hL : d.L.length ≤ 1000000) :
    Calls Try.prog 18 #[.pointer (some ⟨g, 0, none⟩)] W fun e W' => e = .returned (.int .i64 0) ∧ DiskIn B F W' g s (.slice none 0 0) d.sync ∧ Kept F W W' := by
  have H := Lib.hid (fun w' (e : W = w') => e ▸ hm ▸ may_disk h)
  have HD := Lib.hid (fun w' (e : W = w') => e ▸ done_disk hm h)
  have X := Lib.hid (And.intro h (And.intro hL hm))
  clear h hL hm
  go_enter Try.func18, Try.ntmps18
  go_wp2_with fail
  refine (H.out _ rfl).mono ?_
  rintro e w' ⟨rfl, rfl⟩
  go_wp2_with fail
  refine (HD.out _ rfl).mono ?_
  rintro e w1 ⟨⟨v1, rfl⟩, hd1, hk1, hz1⟩
  obtain ⟨AL, cap, hlv, hA⟩ := hd1.lvs
  have c1 : w1.cell? ⟨g, 1, none⟩ = some (.slice AL d.L.length cap) := hlv ▸ hd1.cells.2.1
  have D1 := Lib.hid (And.intro hd1 (And.intro hk1 (And.intro hA hlv)))
  clear H HD hd1 hk1 hz1 hlv hA
  go_wp2_with fail
  clear c1
  go_loopw [18] (fun i wr => ∃ (k : Nat) (S : List (List UInt8)), k ≤ d.L.length ∧ i = .int .i64 k ∧ syncS (d.L.drop k) S = syncS d.L d.S ∧ S.length = d.S.length ∧ DiskIn B F wr g s lv { d.done with S := S } ∧ Kept F W wr) (fun i _ => d.L.length - (intOf i).toNat)
  case atStart => exact ⟨0, d.S, Nat.zero_le _, rfl, rfl, rfl, D1.out.1, D1.out.2.1⟩
  case round =>
    obtain ⟨k, S, hk, rfl, hS, hSl, hD, hK⟩ := hrel
    by_cases hlt : k < d.L.length
    · have hki : (k : Int) < (d.L.length : Int) := by omega
      have hkb : (k : Int) ≤ 1000000 := by have := X.out.2.1; omega
      have Y := Lib.hid (And.intro hk (And.intro hS (And.intro hSl (And.intro hD (And.intro hK hlt)))))
      clear hk hS hSl hD hK
      obtain ⟨gl, rfl, hgl, hr⟩ : ∃ gl, AL = some ⟨gl, 0, none⟩ ∧ gl < wr.heap.size ∧ ∀ i x, d.L[i]? = some x → wr.rangeAt gl (i * 257) (wcells x) := by
        obtain ⟨AL', cap', e, hh⟩ := Y.out.2.2.2.1.lvs
        rw [D1.out.2.2.2] at e
        injection e with e1 e2 e3
        rcases hh with h | ⟨gl, h1, h2, h3⟩
        · exact absurd h (by have := Y.out.2.2.2.2.2; show ¬ d.L.length = 0; omega)
        · exact ⟨gl, by rw [e1, h1], h2, h3⟩
      obtain ⟨x, hx⟩ : ∃ x, d.L[k]? = some x := ⟨_, List.getElem?_eq_getElem hlt⟩
      have hxo := X.out.1.ok.loose x (List.mem_of_getElem? hx)
      have hxl := wcells_len x.1 x.2 hxo.1
      have RX := Lib.hid (And.intro (hr k x hx) hxl)
      have HX := Lib.hid (And.intro hx hxo)
      clear hr hx hxo hxl hgl hlt
      go_wp2_with (with_reducible refine wpList_pl 20 rfl ?_)
      refine plv2 16 18 (v := ?_) (W' := ?_) (by rfl) (by rfl) (by rfl) (fun ev hc hf h0 h1 => ?_) ?_; rotate_left 2; (focus (go_simp; constructor <;> with_reducible rfl)); simp only [Act.put, List.setIfInBounds_toArray, List.set_cons_zero, List.set_cons_succ]
      refine plv1 20 _ (by rfl) (by rfl) (fun ev hc hf h0 => ex_load 71 _ _ gl (k * 257) (wcells x) rfl h0 RX.out.1 Try.underlying71 rfl (by rw [RX.out.2]; kernel_rfl)) ?_
      simp only [Act.put, List.setIfInBounds_toArray, List.set_cons_zero, List.set_cons_succ]
      refine plv0 _ (by rfl) (fun ev hc hf => ex_alloc71 rfl) ?_
      simp only [Act.put, List.setIfInBounds_toArray, List.set_cons_zero, List.set_cons_succ]
      refine pls2 5 21 (by rfl) (by rfl) (by rfl) (fun ev hc hf h0 h1 => ex_store_new 71 _ _ wzero (wcells x).toArray rfl h0 h1 (by rw [List.size_toArray, RX.out.2]; kernel_rfl) (by rw [wzero_size, List.size_toArray, RX.out.2]) (all_oneCell_toArray (wcells_one x.1 x.2))) ?_
      simp only [Act.put, List.setIfInBounds_toArray, List.set_cons_zero, List.set_cons_succ]
      refine pl_nil ?_
      obtain ⟨w2, hw2⟩ : ∃ w2, w2 = wr.alloc (.cells (wcells x).toArray 71) := ⟨_, rfl⟩
      rw [← hw2]
      have b2 : Below wr.heap.size wr w2 := hw2 ▸ (Below.refl _ _).alloc (Nat.le_refl _) _
      have n2 : Bk w2 wr.heap.size (wcells x).toArray 71 := hw2 ▸ Bk.new wr _ _
      have d2 := Y.out.2.2.2.1.bel b2
      have Z := Lib.hid (And.intro b2 (And.intro n2 d2))
      clear b2 n2 d2 hw2
      obtain ⟨bN, hbN⟩ : ∃ bN : Nat, x.1 = bN := ⟨x.1.toNat, by have := HX.out.2.2.1; omega⟩
      have hbS : (bN : Int) < (S.length : Int) := by have := HX.out.2.2.2; have := Y.out.2.2.1; omega
      have C0 := Lib.hid (show w2.drew.cell? ⟨g, 0, none⟩ = some (.slice (some ⟨s, 0, none⟩) S.length S.length) from Z.out.2.2.cells.1)
      have C5 := Lib.hid (show w2.drew.cell? ⟨wr.heap.size, 0, none⟩ = some (.int .i64 (bN : Int)) by rw [← hbN]; exact Z.out.2.1.cell 0)
      have R7 := Lib.hid (show w2.drew.rangeAt wr.heap.size 1 (byteCells x.2) from fun j v hv => by
        refine (show w2.drew.cell? _ = _ from Z.out.2.1.cell (1 + j)).trans ?_
        rw [List.getElem?_toArray]
        show (Value.int .i64 x.1 :: byteCells x.2)[1 + j]? = some v
        rw [show 1 + j = j + 1 by omega, List.getElem?_cons_succ, ← hv])
      have I69 := Lib.hid (show (Try.prog.info? 69).map (·.size) = some (byteCells x.2).length by rw [byteCells_length, HX.out.2.1]; kernel_rfl)
      have HB := Lib.hid hbN
      clear hbN
      go_upto_region 8 with fail
      refine wp_aw 10 #[false, false, false, false, false, false, false, false, false, false] rfl rfl ?_
      refine awt1 0 0 (o := ({ dst := some 22, op := Go.Op.move (Go.Operand.tmp 0), type := 25, pos := "block.go:103", after := #[], guard := none })) (v := ?_) rfl (by kernel_rfl) (by kernel_rfl) (by kernel_rfl) (fun _ _ _ h => h) (by rfl) (by rfl) (fun ev hc hf h0 W => ?_) ?_; rotate_left; (focus (first | (go_simp; done) | (go_simp; with_reducible rfl))); rotate_left; simp only [Act.put, List.setIfInBounds_toArray, List.set_cons_zero, List.set_cons_succ]
      refine awt1 1 22 (o := ({ dst := some 23, op := Go.Op.nilCheck (Go.Operand.tmp 22), type := 0, pos := "block.go:103", after := #[{ on := 0, ground := Go.Ground.data }], guard := none })) (v := ?_) rfl (by kernel_rfl) (by kernel_rfl) (by kernel_rfl) (fun _ _ _ h => h) (by rfl) (by rfl) (fun ev hc hf h0 W => ?_) ?_; rotate_left; (focus (first | (go_simp; done) | (go_simp; with_reducible rfl))); rotate_left; simp only [Act.put, List.setIfInBounds_toArray, List.set_cons_zero, List.set_cons_succ]
      refine awt1 2 23 (o := ({ dst := some 24, op := Go.Op.fieldAddr 60 (Go.Operand.tmp 23) 0, type := 0, pos := "block.go:103", after := #[{ on := 1, ground := Go.Ground.data }], guard := none })) (v := ?_) rfl (by kernel_rfl) (by kernel_rfl) (by kernel_rfl) (fun _ _ _ h => h) (by rfl) (by rfl) (fun ev hc hf h0 W => ?_) ?_; rotate_left; (focus (first | (go_simp; done) | (go_simp; with_reducible rfl))); rotate_left; simp only [Act.put, List.setIfInBounds_toArray, List.set_cons_zero, List.set_cons_succ]
      refine awt1 4 5 (o := ({ dst := some 26, op := Go.Op.fieldAddr 71 (Go.Operand.tmp 5) 0, type := 0, pos := "block.go:103", after := #[], guard := none })) (v := ?_) rfl (by kernel_rfl) (by kernel_rfl) (by kernel_rfl) (fun _ _ _ h => h) (by rfl) (by rfl) (fun ev hc hf h0 W => ?_) ?_; rotate_left; (focus (first | (go_simp; done) | (go_simp; with_reducible rfl))); rotate_left; simp only [Act.put, List.setIfInBounds_toArray, List.set_cons_zero, List.set_cons_succ]
      refine awt1 6 5 (o := ({ dst := some 28, op := Go.Op.fieldAddr 71 (Go.Operand.tmp 5) 1, type := 0, pos := "block.go:103", after := #[], guard := none })) (v := ?_) rfl (by kernel_rfl) (by kernel_rfl) (by kernel_rfl) (fun _ _ _ h => h) (by rfl) (by rfl) (fun ev hc hf h0 W => ?_) ?_; rotate_left; (focus (first | (go_simp; done) | (go_simp; with_reducible rfl))); rotate_left; simp only [Act.put, List.setIfInBounds_toArray, List.set_cons_zero, List.set_cons_succ]
      refine aw_join 2 ?L8 ?F8 w2.drew (fun END => ?_) ?_
      case refine_1 =>
        refine aw_all [3, 5, 7] (by kernel_rfl) (by simp) ?_
        refine arv1 (o := ({ dst := some 25, op := Go.Op.load 57 (Go.Operand.tmp 24), type := 57, pos := "block.go:103", after := #[{ on := 2, ground := Go.Ground.data }], guard := none })) 24 (v := ?_) (W' := ?_) rfl (by rfl) (by rfl) (fun ev hc hf h0 => ?_) ?_ ?_; rotate_left 2; (focus (have c0 := C0.out; go_simp; constructor <;> with_reducible rfl))
        · simp only [Act.put, List.setIfInBounds_toArray, List.set_cons_zero, List.set_cons_succ]
          refine aw_all [5, 7] (by kernel_rfl) (by simp) ?_
          refine arv1 (o := ({ dst := some 27, op := Go.Op.load 3 (Go.Operand.tmp 26), type := 3, pos := "block.go:103", after := #[{ on := 4, ground := Go.Ground.data }], guard := none })) 26 (v := ?_) (W' := ?_) rfl (by rfl) (by rfl) (fun ev hc hf h0 => ?_) ?_ ?_; rotate_left 2; (focus (have c5 := C5.out; go_simp; constructor <;> with_reducible rfl))
          · simp only [Act.put, List.setIfInBounds_toArray, List.set_cons_zero, List.set_cons_succ]
            refine aw_all [7] (by kernel_rfl) (by simp) ?_
            refine arv1 (o := ({ dst := some 29, op := Go.Op.load 69 (Go.Operand.tmp 28), type := 69, pos := "block.go:103", after := #[{ on := 6, ground := Go.Ground.data }], guard := none })) 28 _ rfl (by rfl) (by rfl) (fun ev hc hf h0 => ex_load 69 _ _ wr.heap.size 1 (byteCells x.2) rfl h0 R7.out Try.underlying69 rfl I69.out) ?_ ?_
            · simp only [Act.put, List.setIfInBounds_toArray, List.set_cons_zero, List.set_cons_succ]
              exact END
            exact ar_nil
          refine arv1 (o := ({ dst := some 29, op := Go.Op.load 69 (Go.Operand.tmp 28), type := 69, pos := "block.go:103", after := #[{ on := 6, ground := Go.Ground.data }], guard := none })) 28 _ rfl (by rfl) (by rfl) (fun ev hc hf h0 => ex_load 69 _ _ wr.heap.size 1 (byteCells x.2) rfl h0 R7.out Try.underlying69 rfl I69.out) ?_ ?_
          · simp only [Act.put, List.setIfInBounds_toArray, List.set_cons_zero, List.set_cons_succ]
            refine aw_all [5] (by kernel_rfl) (by simp) ?_
            refine arv1 (o := ({ dst := some 27, op := Go.Op.load 3 (Go.Operand.tmp 26), type := 3, pos := "block.go:103", after := #[{ on := 4, ground := Go.Ground.data }], guard := none })) 26 (v := ?_) (W' := ?_) rfl (by rfl) (by rfl) (fun ev hc hf h0 => ?_) ?_ ?_; rotate_left 2; (focus (have c5 := C5.out; go_simp; constructor <;> with_reducible rfl))
            · simp only [Act.put, List.setIfInBounds_toArray, List.set_cons_zero, List.set_cons_succ]
              exact END
            exact ar_nil
          exact ar_nil
        refine arv1 (o := ({ dst := some 27, op := Go.Op.load 3 (Go.Operand.tmp 26), type := 3, pos := "block.go:103", after := #[{ on := 4, ground := Go.Ground.data }], guard := none })) 26 (v := ?_) (W' := ?_) rfl (by rfl) (by rfl) (fun ev hc hf h0 => ?_) ?_ ?_; rotate_left 2; (focus (have c5 := C5.out; go_simp; constructor <;> with_reducible rfl))
        · simp only [Act.put, List.setIfInBounds_toArray, List.set_cons_zero, List.set_cons_succ]
          refine aw_all [3, 7] (by kernel_rfl) (by simp) ?_
          refine arv1 (o := ({ dst := some 25, op := Go.Op.load 57 (Go.Operand.tmp 24), type := 57, pos := "block.go:103", after := #[{ on := 2, ground := Go.Ground.data }], guard := none })) 24 (v := ?_) (W' := ?_) rfl (by rfl) (by rfl) (fun ev hc hf h0 => ?_) ?_ ?_; rotate_left 2; (focus (have c0 := C0.out; go_simp; constructor <;> with_reducible rfl))
          · simp only [Act.put, List.setIfInBounds_toArray, List.set_cons_zero, List.set_cons_succ]
            refine aw_all [7] (by kernel_rfl) (by simp) ?_
            refine arv1 (o := ({ dst := some 29, op := Go.Op.load 69 (Go.Operand.tmp 28), type := 69, pos := "block.go:103", after := #[{ on := 6, ground := Go.Ground.data }], guard := none })) 28 _ rfl (by rfl) (by rfl) (fun ev hc hf h0 => ex_load 69 _ _ wr.heap.size 1 (byteCells x.2) rfl h0 R7.out Try.underlying69 rfl I69.out) ?_ ?_
            · simp only [Act.put, List.setIfInBounds_toArray, List.set_cons_zero, List.set_cons_succ]
              exact END
            exact ar_nil
          refine arv1 (o := ({ dst := some 29, op := Go.Op.load 69 (Go.Operand.tmp 28), type := 69, pos := "block.go:103", after := #[{ on := 6, ground := Go.Ground.data }], guard := none })) 28 _ rfl (by rfl) (by rfl) (fun ev hc hf h0 => ex_load 69 _ _ wr.heap.size 1 (byteCells x.2) rfl h0 R7.out Try.underlying69 rfl I69.out) ?_ ?_
          · simp only [Act.put, List.setIfInBounds_toArray, List.set_cons_zero, List.set_cons_succ]
            refine aw_all [3] (by kernel_rfl) (by simp) ?_
            refine arv1 (o := ({ dst := some 25, op := Go.Op.load 57 (Go.Operand.tmp 24), type := 57, pos := "block.go:103", after := #[{ on := 2, ground := Go.Ground.data }], guard := none })) 24 (v := ?_) (W' := ?_) rfl (by rfl) (by rfl) (fun ev hc hf h0 => ?_) ?_ ?_; rotate_left 2; (focus (have c0 := C0.out; go_simp; constructor <;> with_reducible rfl))
            · simp only [Act.put, List.setIfInBounds_toArray, List.set_cons_zero, List.set_cons_succ]
              exact END
            exact ar_nil
          exact ar_nil
        refine arv1 (o := ({ dst := some 29, op := Go.Op.load 69 (Go.Operand.tmp 28), type := 69, pos := "block.go:103", after := #[{ on := 6, ground := Go.Ground.data }], guard := none })) 28 _ rfl (by rfl) (by rfl) (fun ev hc hf h0 => ex_load 69 _ _ wr.heap.size 1 (byteCells x.2) rfl h0 R7.out Try.underlying69 rfl I69.out) ?_ ?_
        · simp only [Act.put, List.setIfInBounds_toArray, List.set_cons_zero, List.set_cons_succ]
          refine aw_all [3, 5] (by kernel_rfl) (by simp) ?_
          refine arv1 (o := ({ dst := some 25, op := Go.Op.load 57 (Go.Operand.tmp 24), type := 57, pos := "block.go:103", after := #[{ on := 2, ground := Go.Ground.data }], guard := none })) 24 (v := ?_) (W' := ?_) rfl (by rfl) (by rfl) (fun ev hc hf h0 => ?_) ?_ ?_; rotate_left 2; (focus (have c0 := C0.out; go_simp; constructor <;> with_reducible rfl))
          · simp only [Act.put, List.setIfInBounds_toArray, List.set_cons_zero, List.set_cons_succ]
            refine aw_all [5] (by kernel_rfl) (by simp) ?_
            refine arv1 (o := ({ dst := some 27, op := Go.Op.load 3 (Go.Operand.tmp 26), type := 3, pos := "block.go:103", after := #[{ on := 4, ground := Go.Ground.data }], guard := none })) 26 (v := ?_) (W' := ?_) rfl (by rfl) (by rfl) (fun ev hc hf h0 => ?_) ?_ ?_; rotate_left 2; (focus (have c5 := C5.out; go_simp; constructor <;> with_reducible rfl))
            · simp only [Act.put, List.setIfInBounds_toArray, List.set_cons_zero, List.set_cons_succ]
              exact END
            exact ar_nil
          refine arv1 (o := ({ dst := some 27, op := Go.Op.load 3 (Go.Operand.tmp 26), type := 3, pos := "block.go:103", after := #[{ on := 4, ground := Go.Ground.data }], guard := none })) 26 (v := ?_) (W' := ?_) rfl (by rfl) (by rfl) (fun ev hc hf h0 => ?_) ?_ ?_; rotate_left 2; (focus (have c5 := C5.out; go_simp; constructor <;> with_reducible rfl))
          · simp only [Act.put, List.setIfInBounds_toArray, List.set_cons_zero, List.set_cons_succ]
            refine aw_all [3] (by kernel_rfl) (by simp) ?_
            refine arv1 (o := ({ dst := some 25, op := Go.Op.load 57 (Go.Operand.tmp 24), type := 57, pos := "block.go:103", after := #[{ on := 2, ground := Go.Ground.data }], guard := none })) 24 (v := ?_) (W' := ?_) rfl (by rfl) (by rfl) (fun ev hc hf h0 => ?_) ?_ ?_; rotate_left 2; (focus (have c0 := C0.out; go_simp; constructor <;> with_reducible rfl))
            · simp only [Act.put, List.setIfInBounds_toArray, List.set_cons_zero, List.set_cons_succ]
              exact END
            exact ar_nil
          exact ar_nil
        exact ar_nil
      refine awt2 8 25 27 (o := ({ dst := some 30, op := Go.Op.indexAddr 57 (Go.Operand.tmp 25) (Go.Operand.tmp 27), type := 0, pos := "block.go:103", after := #[{ on := 3, ground := Go.Ground.data }, { on := 5, ground := Go.Ground.data }, { on := 0, ground := Go.Ground.phase }, { on := 1, ground := Go.Ground.phase }, { on := 2, ground := Go.Ground.phase }, { on := 3, ground := Go.Ground.phase }, { on := 4, ground := Go.Ground.phase }, { on := 5, ground := Go.Ground.phase }, { on := 6, ground := Go.Ground.phase }, { on := 7, ground := Go.Ground.phase }], guard := none })) (v := ?_) rfl (by kernel_rfl) (by kernel_rfl) (by kernel_rfl) (fun _ _ _ h => h) (by rfl) (by rfl) (by rfl) (fun ev hc hf h0 h1 W => ?_) ?_; rotate_left; (focus (first | (go_simp; done) | (go_simp; with_reducible rfl))); rotate_left; simp only [Act.put, List.setIfInBounds_toArray, List.set_cons_zero, List.set_cons_succ]
      refine aw_all [9] (by kernel_rfl) (by simp) ?_
      have hfl : (flatS S).length = S.length * 256 := flatS_len Y.out.2.2.2.1.ok.all
      have hbs : bN < S.length := by omega
      have hfit : bN * 256 + (byteCells x.2).length ≤ (flatS S).toArray.size := by
        rw [List.size_toArray, hfl, byteCells_length, HX.out.2.1]
        have : (bN + 1) * 256 ≤ S.length * 256 := Nat.mul_le_mul_right _ hbs
        omega
      refine ars2 (o := ({ dst := none, op := Go.Op.store 69 (Go.Operand.tmp 30) (Go.Operand.tmp 29), type := 0, pos := "block.go:103", after := #[{ on := 8, ground := Go.Ground.data }, { on := 7, ground := Go.Ground.data }, { on := 0, ground := Go.Ground.phase }, { on := 1, ground := Go.Ground.phase }, { on := 2, ground := Go.Ground.phase }, { on := 3, ground := Go.Ground.phase }, { on := 4, ground := Go.Ground.phase }, { on := 5, ground := Go.Ground.phase }, { on := 6, ground := Go.Ground.phase }, { on := 7, ground := Go.Ground.phase }], guard := none })) 30 29 rfl (by rfl) (by rfl) (by rfl) (fun ev hc hf h0 h1 => ex_store 69 _ _ s (bN * 256) (byteCells x.2).toArray rfl h0 h1 (there_of Z.out.2.2.drew.at_s (by rw [List.size_toArray]; exact hfit)) (by rw [List.size_toArray]; exact I69.out) (all_oneCell_toArray (byteCells_one x.2))) ?_ ?_
      · simp only [Act.put, List.setIfInBounds_toArray, List.set_cons_zero, List.set_cons_succ]
        refine aw_done (by kernel_rfl) ?_
        have hrow : (flatS S).take (bN * 256) ++ byteCells x.2 ++ (flatS S).drop (bN * 256 + 256) = flatS (tear S x 256) := by
          have := flatS_tear (S := S) Y.out.2.2.2.1.ok.all HX.out.2.1 (x := x) (n := 256) (by rw [HB.out, Int.toNat_natCast]; exact hbs) (Nat.le_refl _)
          rw [HB.out, Int.toNat_natCast, show x.2.take 256 = x.2 from List.take_of_length_le (by rw [HX.out.2.1]; exact Nat.le_refl _)] at this
          exact this
        have hsr := setCells_row Z.out.2.2.drew.at_s hfit (byteCells_one x.2)
        rw [byteCells_length, HX.out.2.1] at hsr
        (try simp only [List.toList_toArray] at hsr)
        rw [hrow] at hsr
        (try simp only [List.toList_toArray])
        rw [hsr]
        have hd3 := Z.out.2.2.drew.setS (W' := w2.drew.setRow s (flatS (tear S x 256)).toArray) (kept_setRow _ _ _) (tear S x 256) (tear_len _ _ _) (tear_all Y.out.2.2.2.1.ok.all HX.out.2.1 (by rw [HB.out, Int.toNat_natCast]; exact hbs) (Nat.le_refl _)) (setRow_heap _ s _ _ 69 _ Z.out.2.2.drew.at_s)
        have hk3 : Kept F W (w2.drew.setRow s (flatS (tear S x 256)).toArray) := ((Y.out.2.2.2.2.1.trans (.of_below Z.out.1)).trans (show Kept F w2 w2.drew from ⟨rfl, rfl, rfl, Nat.le_refl _, fun _ _ _ => rfl⟩)).trans ((kept_setRow _ s _).mono (fun k _ e => by rw [e]; exact Z.out.2.2.hs))
        have Q3 := Lib.hid (And.intro hd3 hk3)
        clear hd3 hk3 hrow hfl hbs hsr hfit
        generalize w2.drew.setRow s (flatS (tear S x 256)).toArray = w5 at Q3 ⊢
        go_wp2_with fail
        refine ⟨⟨k + 1, tear S x 256, by have := Y.out.2.2.2.2.2; omega, by simp, ?_, by rw [tear_len]; exact Y.out.2.2.1, Q3.out.1, Q3.out.2⟩, ?_⟩
        · rw [← Y.out.2.1, sync_step HX.out.1]
        · simp [intOf]
          omega
      exact ar_nil
    · obtain rfl : k = d.L.length := by omega
      rw [List.drop_length] at hS
      have hS' : S = syncS d.L d.S := hS
      subst hS'
      have f1 := hD.at_g.free 1
      obtain ⟨c0, c1, c2, c3⟩ := hD.cells
      have Q := Lib.hid (And.intro hD hK)
      clear hD hK hS hSl hlt hk c0 c2 c3
      go_wp2_with fail
      go_ret
      exact ⟨rfl, Q.out.1.dropL1, Q.out.2.set Q.out.1.hg _⟩
/-- All that is sure. -/
def Dsk.sure (d : Dsk) : List UInt8 := d.S.flatten
theorem flatS_bytes (S : List (List UInt8)) : flatS S = byteCells S.flatten := by
  unfold flatS byteCells
  rw [List.map_flatten]
/-- Bytes go onto a row of one's own. -/
theorem app61 {W : World} {B n : Nat} {v : Value} {xs : List Value} (ty : TypeId) (h : Nat) (bs : List UInt8) (hl : bs.length = 256) (hn : n ≤ 2000000) (hown : W.ownsRow B 5 1 v n xs) (hc : W.rangeAt h 0 (byteCells bs)) (hB : B ≤ W.heap.size) :
    ∃ v' W', (Builtin.append_ #[61, 61] ty #[v, .slice (some ⟨h, 0, none⟩) 256 256]).run Try.prog W = .ok v' W' ∧ W'.ownsRow B 5 1 v' (n + 256) (xs ++ byteCells bs) ∧ W.grownBy W' v.ownBlock := by
  obtain ⟨i, hi, hz, hsz, hb⟩ := info_of info5
  obtain ⟨v', W', hr, h2, h3, h4⟩ := run_append_own (P := Try.prog) W B 61 ty 5 i _ 1 1 Try.underlying61 hi hz hsz hb rfl (by omega) v n xs hown ⟨h, 0, none⟩ 256 256 (byteCells bs) (by rw [byteCells_length, hl]) (fun j u hu => by
    rw [Addr.add_mid]
    exact hc j u hu) (byteCells_one bs) (by simp [maxLen]; omega) (by omega) hB
  exact ⟨v', W', hr, h2, h3⟩
theorem conv_row {w : World} {B n : Nat} {A : Option Addr} {c : Nat} {bs : List UInt8} (h : w.ownsRow B 5 1 (.slice A n c) n (byteCells bs)) (hn : 0 < n) : (convert 61 9 (.slice A n c)).run Try.prog w = .ok (.string ⟨bs.toArray⟩) w := by
  have hl : bs.length = n := by have := h.1; rw [byteCells_length] at this; omega
  rcases h.2 with ⟨_, e⟩ | ⟨q, cap, cur, e, _, hq, hc, _, hs, ht⟩
  · omega
  · injection e with e1 e2 e3
    subst e1 e3
    have := run_convert_bytes_arg (P := Try.prog) w 61 5 Try.underlying61 Try.underlying5 q 0 n c (bs.map (fun b => (b.toNat : Int))) (by rw [List.length_map, hl]) (fun i hi => by
      rw [Nat.zero_add, cell_of_row w q i _ _ _ hq, List.getD_eq_getElem?_getD, ← Array.getElem?_toList]
      have h1 : (cur.toList.take (n * 1))[i]? = (byteCells bs)[i]? := by rw [ht]
      rw [List.getElem?_take_of_lt (by omega)] at h1
      rw [h1]
      unfold byteCells
      rw [List.getElem?_map, List.getElem?_map, List.getElem?_eq_getElem (by omega)]
      rfl) 9 Try.underlying9
    rw [str_bytes] at this
    exact this
set_option maxRecDepth 100000 in
set_option maxHeartbeats 6400000 in
theorem sure_disk {B : Nat} {F : Nat → Prop} {W : World} {g s : Nat} {lv : Value} {d : Dsk} (str : ByteArray) (hstr : (⟨d.sure.toArray⟩ : ByteArray) = str) (h : DiskIn B F W g s lv d) :
    Calls Try.prog 13 #[.pointer (some ⟨g, 0, none⟩)] W fun e W' => e = .returned (.string str) ∧ Below W.heap.size W W' := by
  have H := Lib.hid (fun w' (e : W = w') => e ▸ none_any h)
  have c0 := h.cells.1
  have X := Lib.hid (And.intro h hstr)
  clear h hstr
  go_enter Try.func13, Try.ntmps13
  go_wp2_with fail
  refine (H.out _ rfl).mono ?_
  rintro e w' ⟨rfl, rfl⟩
  go_wp2_with fail
  clear c0 H
  go_loopw [3, 13] (fun v i wr => ∃ (k : Nat), k ≤ d.S.length ∧ i = .int .i64 k ∧ wr.ownsRow W.heap.size 5 1 v (k * 256) (flatS (d.S.take k)) ∧ Below W.heap.size W wr) (fun v i _ => d.S.length - (intOf i).toNat)
  case atStart => exact ⟨0, Nat.zero_le _, rfl, World.ownsRow_nil _ _ _ _, Below.refl _ _⟩
  case round =>
    obtain ⟨k, hk, rfl, hO, HB⟩ := hrel
    by_cases hlt : k < d.S.length
    · have hki : (k : Int) < (d.S.length : Int) := by omega
      have hkb : (k : Int) ≤ 1000000 := by have := X.out.1.ok.few; omega
      obtain ⟨x, hx⟩ : ∃ x, d.S[k]? = some x := ⟨_, List.getElem?_eq_getElem hlt⟩
      have hxl := X.out.1.ok.all x (List.mem_of_getElem? hx)
      have RX := Lib.hid (And.intro (rangeAt_bel (X.out.1.range_s hx) HB) hxl)
      have HX := Lib.hid hx
      have Y := Lib.hid (And.intro hk (And.intro hO (And.intro HB hlt)))
      clear hx hxl hlt hk hO HB
      go_wp2_with (with_reducible refine wpList_pl 15 rfl ?_)
      refine plv2 11 13 (v := ?_) (W' := ?_) (by rfl) (by rfl) (by rfl) (fun ev hc hf h0 h1 => ?_) ?_; rotate_left 2; (focus (go_simp; constructor <;> with_reducible rfl)); simp only [Act.put, List.setIfInBounds_toArray, List.set_cons_zero, List.set_cons_succ]
      refine plv1 15 _ (by rfl) (by rfl) (fun ev hc hf h0 => ex_load 69 _ _ s (k * 256) (byteCells x) rfl h0 RX.out.1 Try.underlying69 rfl (by rw [byteCells_length, RX.out.2]; kernel_rfl)) ?_
      simp only [Act.put, List.setIfInBounds_toArray, List.set_cons_zero, List.set_cons_succ]
      refine plv0 _ (by rfl) (fun ev hc hf => ex_alloc69 rfl) ?_
      simp only [Act.put, List.setIfInBounds_toArray, List.set_cons_zero, List.set_cons_succ]
      refine pls2 5 16 (by rfl) (by rfl) (by rfl) (fun ev hc hf h0 h1 => ex_store_new 69 _ _ bzero (byteCells x).toArray rfl h0 h1 (by rw [List.size_toArray, byteCells_length, RX.out.2]; kernel_rfl) (by rw [bzero_size, List.size_toArray, byteCells_length, RX.out.2]) (all_oneCell_toArray (byteCells_one x))) ?_
      simp only [Act.put, List.setIfInBounds_toArray, List.set_cons_zero, List.set_cons_succ]
      refine pl_nil ?_
      obtain ⟨w2, hw2⟩ : ∃ w2, w2 = wr.alloc (.cells (byteCells x).toArray 69) := ⟨_, rfl⟩
      rw [← hw2]
      have b2 : Below wr.heap.size wr w2 := hw2 ▸ (Below.refl _ _).alloc (Nat.le_refl _) _
      have n2 : Bk w2 wr.heap.size (byteCells x).toArray 69 := hw2 ▸ Bk.new wr _ _
      have r2 : w2.rangeAt wr.heap.size 0 (byteCells x) := fun j v hv => by rw [Nat.zero_add, n2.cell, List.getElem?_toArray, hv]
      have o2 := ownsRow_bel Y.out.2.1 b2
      have hsz2 : W.heap.size ≤ w2.heap.size := Nat.le_trans Y.out.2.2.1.size b2.size
      have B2 : Below W.heap.size W w2 := Y.out.2.2.1.trans (b2.mono Y.out.2.2.1.size)
      obtain ⟨v', w4, hap, o4, g4⟩ := app61 61 wr.heap.size x RX.out.2 (by have := X.out.1.ok.few; have := Y.out.1; omega) o2 r2 hsz2
      have B4 := below_grown B2 g4 hsz2 o2
      have AP := Lib.hid hap
      have Z := Lib.hid (And.intro o4 B4)
      clear b2 n2 hw2 r2 o2 hsz2 B2 hap o4 g4 B4
      go_wp2_with (with_reducible refine wpList_pl 18 rfl ?_)
      refine plv1 5 _ (by rfl) (by rfl) (fun ev hc hf h0 => ex_slice_all _ _ _ rfl h0) ?_
      simp only [Act.put, List.setIfInBounds_toArray, List.set_cons_zero, List.set_cons_succ]
      refine plv2 17 18 _ (by rfl) (by rfl) (by rfl) (fun ev hc hf h0 h1 => ex_app _ _ 61 rfl h0 h1 AP.out) ?_
      simp only [Act.put, List.setIfInBounds_toArray, List.set_cons_zero, List.set_cons_succ]
      refine plv1 19 (v := ?_) (W' := ?_) (by rfl) (by rfl) (fun ev hc hf h0 => ?_) ?_; rotate_left 2; (focus (go_simp; constructor <;> with_reducible rfl)); simp only [Act.put, List.setIfInBounds_toArray, List.set_cons_zero, List.set_cons_succ]
      refine pl_nil ?_
      go_wp2_with fail
      refine ⟨⟨k + 1, by have := Y.out.2.2.2; omega, by simp, ?_, Z.out.2⟩, ?_⟩
      · have : d.S.take (k + 1) = d.S.take k ++ [x] := by rw [List.take_add_one, HX.out]; rfl
        have hf : flatS (d.S.take k ++ [x]) = flatS (d.S.take k) ++ byteCells x := by unfold flatS; rw [List.map_append, List.flatten_append]; simp
        rw [this, hf, Nat.add_mul]
        exact Z.out.1
      · simp [intOf]
        have := Y.out.2.2.2
        omega
    · obtain rfl : k = d.S.length := by omega
      rw [List.take_length, flatS_bytes] at hO
      obtain ⟨A, c, rfl⟩ := ownsRow_form hO
      have hcv := conv_row hO (by have := X.out.1.ok.pos; omega)
      rw [show d.S.flatten = d.sure from rfl, X.out.2] at hcv
      have Q := Lib.hid HB
      clear hO HB hlt hk
      go_wp2_with fail
      go_ret
      exact ⟨rfl, Q.out⟩

end Go.Proofs.Ytbobbekbliichaa
