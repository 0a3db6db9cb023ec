import Derived.Test.YtbobbekbliichaaE21
namespace Go.Proofs.Ytbobbekbliichaa
open Go.RowKit
set_option linter.unusedSimpArgs false
set_option linter.unusedVariables false


open Go.Lib (byteCells byteCells_length byteCells_one)
/-- Where a row's elements lie. -/
theorem own_range {W : World} {B e m n : Nat} {v : Value} {α : Type} (L : List α) (f : α → List Value) (hf : ∀ x ∈ L, (f x).length = m) (hn : L.length = n) (h : W.ownsRow B e m v n (L.map f).flatten) :
    ∃ A cap, v = .slice A n cap ∧ (n = 0 ∨ ∃ gl, A = some ⟨gl, 0, none⟩ ∧ v.ownBlock = some gl ∧ gl < W.heap.size ∧ ∀ i x, L[i]? = some x → W.rangeAt gl (i * m) (f x)) := by
  rcases h.2 with ⟨rfl, h0⟩ | ⟨gl, cap, cur, rfl, _, hg, hc, _, hs, ht⟩
  · exact ⟨none, 0, by rw [h0], .inl h0⟩
  · refine ⟨_, cap, rfl, .inr ⟨gl, rfl, rfl, (Array.getElem?_eq_some_iff.1 hg).1, fun i x hx j u hu => ?_⟩⟩
    have hl : (f x).length = m := hf x (List.mem_of_getElem? hx)
    have hj : j < m := by
      have := (List.getElem?_eq_some_iff.1 hu).1
      rw [hl] at this
      exact this
    have hi : i < n := by rw [← hn]; exact (List.getElem?_eq_some_iff.1 hx).1
    rw [cell_of_row W gl _ _ _ _ hg]
    have h1 := flat_at m (L.map f) (fun y hy => by obtain ⟨z, hz, rfl⟩ := List.mem_map.1 hy; exact hf z hz) i (f x) (by simp [hx]) j hj
    rw [← ht, List.getElem?_take_of_lt (Nat.lt_of_lt_of_le (show i * m + j < (i + 1) * m by rw [Nat.add_mul]; omega) (Nat.mul_le_mul_right _ hi))] at h1
    rw [← Array.getElem?_toList, h1, hu]
theorem rS_flat (S : List (List UInt8)) : rS S = (S.map fun x => [strV x]).flatten := by
  unfold rS
  induction S with
  | nil => rfl
  | cons x S ih => simp [ih]
section
variable {B : Nat} {F : Nat → Prop} {W : World} {r : Nat} {sv lv : Value} {d : Dsk}
theorem RefIn.srow (h : RefIn B F W r sv lv d) : ∃ gs cap, sv = .slice (some ⟨gs, 0, none⟩) d.S.length cap ∧ gs < W.heap.size ∧ ∀ i x, d.S[i]? = some x → W.cell? ⟨gs, i, none⟩ = some (strV x) := by
  have h1 := h.at_s
  rw [rS_flat] at h1
  obtain ⟨A, cap, e, h2⟩ := own_range d.S (fun x => [strV x]) (fun _ _ => rfl) rfl h1
  rcases h2 with h2 | ⟨gl, rfl, _, hg, hr⟩
  · have := h.ok.pos; omega
  · exact ⟨gl, cap, e, hg, fun i x hx => by have := hr i x hx 0 (strV x) rfl; simpa using this⟩
theorem RefIn.lrow (h : RefIn B F W r sv lv d) : ∃ A cap, lv = .slice A d.L.length cap ∧ (d.L.length = 0 ∨ ∃ gl, A = some ⟨gl, 0, none⟩ ∧ gl < W.heap.size ∧ ∀ i x, d.L[i]? = some x → W.cell? ⟨gl, i * 2, none⟩ = some (.int .i64 x.1) ∧ W.cell? ⟨gl, i * 2 + 1, none⟩ = some (strV x.2)) := by
  obtain ⟨A, cap, e, h2⟩ := own_range d.L rcells (fun _ _ => rfl) rfl h.at_l
  refine ⟨A, cap, e, h2.imp id fun ⟨gl, h3, _, hg, hr⟩ => ⟨gl, h3, hg, fun i x hx => ⟨?_, ?_⟩⟩⟩
  · have := hr i x hx 0 (.int .i64 x.1) rfl; simpa using this
  · exact hr i x hx 1 (strV x.2) rfl
theorem rread_down (b : Int) (h : RefIn B F W r sv lv d) (hm : d.may ≠ 0) : Calls Try.prog 26 #[.pointer (some ⟨r, 0, none⟩), .int .i64 b] W fun e W' => e = .returned (.tuple #[.string ⟨#[]⟩, .int .i64 50]) ∧ W = W' := by
  have H := Lib.hid (fun w' (e : W = w') => e ▸ down_ref h)
  rw [show decide (d.may ≠ 0) = true by simpa using hm] at H
  clear h hm
  go_enter Try.func26, Try.ntmps26
  go_wp2_with (go_at_call 32; refine (H.out _ rfl).mono ?_; rintro e w' ⟨rfl, rfl⟩)
  exact bodyPost_ret (v := .tuple #[.string ⟨#[]⟩, .int .i64 50]) (by simp [results, Try.results26, go_sem]) rfl ⟨rfl, rfl⟩
theorem rread_none (b : Int) (h : RefIn B F W r sv lv d) (hm : d.may = 0) (hb : ¬ (0 ≤ b ∧ b < d.S.length)) : Calls Try.prog 26 #[.pointer (some ⟨r, 0, none⟩), .int .i64 b] W fun e W' => e = .returned (.tuple #[.string ⟨#[]⟩, .int .i64 5]) ∧ W = W' := by
  have H := Lib.hid (fun w' (e : W = w') => e ▸ down_ref h)
  have T := Lib.hid (fun w' (e : W = w') => e ▸ there_ref b h)
  rw [show decide (d.may ≠ 0) = false by simpa using hm] at H
  rw [show decide (0 ≤ b ∧ b < (d.S.length : Int)) = false by simpa using hb] at T
  clear h hm hb
  go_enter Try.func26, Try.ntmps26
  go_wp2_with fail
  refine (H.out _ rfl).mono ?_
  rintro e w' ⟨rfl, rfl⟩
  go_wp2_with fail
  refine (T.out _ rfl).mono ?_
  rintro e w' ⟨rfl, rfl⟩
  go_wp2_with fail
  exact bodyPost_ret (v := .tuple #[.string ⟨#[]⟩, .int .i64 5]) (by simp [results, Try.results26, go_sem]) rfl ⟨rfl, rfl⟩
end
set_option maxRecDepth 100000 in
set_option maxHeartbeats 6400000 in
theorem rread_good {B : Nat} {F : Nat → Prop} {W : World} {r : Nat} {sv lv : Value} {d : Dsk} (b : Nat) (str : ByteArray) (hstr : (⟨(d.get b).toArray⟩ : ByteArray) = str) (h : RefIn B F W r sv lv d) (hm : d.may = 0) (hb : b < d.S.length) (hL : d.L.length ≤ 1000000) :
    Calls Try.prog 26 #[.pointer (some ⟨r, 0, none⟩), .int .i64 b] W fun e W' => e = .returned (.tuple #[.string str, .int .i64 0]) ∧ W = W' := by
  have H := Lib.hid (fun w' (e : W = w') => e ▸ down_ref h)
  have T := Lib.hid (fun w' (e : W = w') => e ▸ there_ref (b : Int) h)
  rw [show decide (d.may ≠ 0) = false by simpa using hm] at H
  rw [show decide (0 ≤ (b : Int) ∧ (b : Int) < (d.S.length : Int)) = true by simp; exact hb] at T
  obtain ⟨gs, cs, rfl, _, hs⟩ := h.srow
  obtain ⟨A, cap, rfl, hA⟩ := h.lrow
  obtain ⟨x0, hx0⟩ : ∃ x, d.S[b]? = some x := ⟨_, List.getElem?_eq_getElem hb⟩
  have c0 := h.cells.1
  have c1 := h.cells.2.1
  have cx : W.cell? ⟨gs, b, none⟩ = some (strV x0) := hs b x0 hx0
  have hbi : (b : Int) < (d.S.length : Int) := by omega
  have X := Lib.hid (And.intro hx0 (And.intro hL (And.intro hA hstr)))
  clear h hm hb hs hx0 hL hA hstr
  go_enter Try.func26, Try.ntmps26
  go_wp2_with fail
  refine (H.out _ rfl).mono ?_
  rintro e w' ⟨rfl, rfl⟩
  go_wp2_with fail
  refine (T.out _ rfl).mono ?_
  rintro e w' ⟨rfl, rfl⟩
  go_wp2_with fail
  clear H T
  go_loop [6] (fun i => ∃ k : Nat, k ≤ d.L.length ∧ i = .int .i64 ((k : Int) - 1) ∧ (∀ j y, k ≤ j → d.L[j]? = some y → y.1 ≠ (b : Int))) (fun i => (intOf i + 1).toNat)
  case atStart =>
    refine ⟨d.L.length, Nat.le_refl _, ?_, fun j y hj hy => ?_⟩
    · rw [wrap64_small d.L.length X.out.2.1]
    · have := (List.getElem?_eq_some_iff.1 hy).1
      omega
  case round =>
    obtain ⟨k, hk, rfl, hno⟩ := hrel
    cases k with
    | zero =>
      have hget : d.get (b : Int) = x0 := by
        rw [get_none d b (fun x hx => by
          obtain ⟨j, hj⟩ := List.mem_iff_getElem?.1 hx
          exact hno j x (Nat.zero_le _) hj)]
        rw [Int.toNat_natCast, List.getD_eq_getElem?_getD, X.out.1]
        rfl
      have e0 : strV x0 = .string str := by unfold strV; rw [← hget, X.out.2.2.2]
      rw [e0] at cx
      clear hno hget e0
      go_wp2_with fail
      exact bodyPost_ret (v := .tuple #[.string str, .int .i64 0]) (by simp [results, Try.results26, go_sem]) rfl ⟨rfl, rfl⟩
    | succ j =>
      have e : ((j + 1 : Nat) : Int) - 1 = (j : Int) := by omega
      rw [e]
      obtain ⟨gl, rfl, _, hr⟩ : ∃ gl, A = some ⟨gl, 0, none⟩ ∧ gl < W.heap.size ∧ ∀ i x, d.L[i]? = some x → W.cell? ⟨gl, i * 2, none⟩ = some (.int .i64 x.1) ∧ W.cell? ⟨gl, i * 2 + 1, none⟩ = some (strV x.2) := by
        rcases X.out.2.2.1 with h | h
        · omega
        · exact h
      obtain ⟨y, hy⟩ : ∃ y, d.L[j]? = some y := ⟨_, List.getElem?_eq_getElem (by omega)⟩
      obtain ⟨cy, cz⟩ := hr j y hy
      have hjl : (j : Int) < (d.L.length : Int) := by omega
      by_cases hyb : y.1 = (b : Int)
      · have hget : d.get (b : Int) = y.2 := get_some d b j y hy hyb (fun i z hi hz => hno i z hi hz)
        have e0 : strV y.2 = .string str := by unfold strV; rw [← hget, X.out.2.2.2]
        rw [hyb] at cy
        rw [e0] at cz
        clear hr hno hget hy hyb e0 e cx
        go_wp2_with fail
        exact bodyPost_ret (v := .tuple #[.string str, .int .i64 0]) (by simp [results, Try.results26, go_sem]) rfl ⟨rfl, rfl⟩
      · have hyb' : (y.1 == (b : Int)) = false := by simpa using hyb
        have HNO := Lib.hid (And.intro hno (And.intro hy hyb))
        clear hr cz hno hy hyb cx
        go_wp2_with fail
        obtain ⟨hno, hy, hyb⟩ := HNO.out
        refine ⟨⟨j, by omega, ?_, ?_⟩, ?_⟩
        · rw [wrap64_small j (by have := X.out.2.1; omega)]
        · intro i z hi hz
          rcases Nat.lt_or_ge j i with h | h
          · exact hno i z h hz
          · obtain rfl : i = j := by omega
            rw [hy] at hz
            injection hz with hz
            rw [← hz]
            exact hyb
        · have hw := wrap64_small j (by have := X.out.2.1; omega)
          simp [intOf, hw]
theorem rnew_bad (n : Int) (h : n < 1 ∨ 4096 < n) (W : World) : Calls Try.prog 10 #[.int .i64 n] W fun e W' => e = .returned (.tuple #[.pointer none, .int .i64 2]) ∧ W = W' := by
  rcases h with h | h
  · go_enter Try.func10, Try.ntmps10
    go_wp2_with fail
    exact bodyPost_ret (v := .tuple #[.pointer none, .int .i64 2]) (by simp [results, Try.results10, go_sem]) rfl ⟨rfl, rfl⟩
  · have h2 : ¬ n < 1 := by omega
    go_enter Try.func10, Try.ntmps10
    go_wp2_with fail
    exact bodyPost_ret (v := .tuple #[.pointer none, .int .i64 2]) (by simp [results, Try.results10, go_sem]) rfl ⟨rfl, rfl⟩
theorem zblock_cells : (byteCells zblock).toArray = Array.replicate 256 (Value.int .u8 0) := by
  unfold byteCells zblock
  rw [List.map_replicate, rep_arr]
  rfl
set_option maxRecDepth 100000 in
set_option maxHeartbeats 6400000 in
theorem rnew_good (n : Nat) (h1 : 1 ≤ n) (h2 : n ≤ 4096) (W : World) : Calls Try.prog 10 #[.int .i64 n] W fun e W' =>
    e = .returned (.tuple #[.pointer (some ⟨W.heap.size, 0, none⟩), .int .i64 0]) ∧ Below W.heap.size W W' ∧ RefHas W.heap.size (Fresh W W') W' W.heap.size (newDsk n) := by
  have a1 : ¬ ((n : Int) < 1) := by omega
  have a2 : ¬ ((4096 : Int) < n) := by omega
  have X := Lib.hid (And.intro h1 h2)
  obtain ⟨zs, hzs⟩ : ∃ zs, (⟨zblock.toArray⟩ : ByteArray) = zs := ⟨_, rfl⟩
  have ZS := Lib.hid hzs
  clear h1 h2 hzs
  go_enter Try.func10, Try.ntmps10
  go_wp2_with fail
  go_loopw [5] (fun i wr => ∃ (k : Nat) (sv : Value), k ≤ n ∧ i = .int .i64 k ∧ Bk wr W.heap.size #[sv, .slice none 0 0, .int .i64 (-1)] 40 ∧ wr.ownsRow W.heap.size 9 1 sv k (List.replicate k (.string zs)) ∧ sv.ownBlock ≠ some W.heap.size ∧ Below W.heap.size W wr) (fun i _ => n - (intOf i).toNat)
  case atStart => exact ⟨0, .slice none 0 0, Nat.zero_le _, rfl, Bk.new W _ _, World.ownsRow_nil _ _ _ _, by simp [Value.ownBlock], (Below.refl _ _).alloc (Nat.le_refl _) _⟩
  case round =>
    obtain ⟨k, sv, hk, rfl, hb, hO, hne, HB⟩ := hrel
    by_cases hlt : k < n
    · have hki : (k : Int) < (n : Int) := by omega
      have hkb : (k : Int) ≤ 1000000 := by have := X.out.2; omega
      have hmk := make61 256 (by omega) wr.drew
      simp only [Int.cast_ofNat_Int] at hmk
      obtain ⟨w2, hw2⟩ : ∃ w2, w2 = wr.drew.alloc (.cells (Array.replicate 256 (.int .u8 0)) 5) := ⟨_, rfl⟩
      rw [← hw2] at hmk
      have b2 : Below wr.heap.size wr w2 := hw2 ▸ ((Below.refl wr.heap.size wr).drew).alloc (Nat.le_refl _) _
      have n2 : Bk w2 wr.heap.size (byteCells zblock).toArray 5 := by rw [zblock_cells, hw2]; exact Bk.new wr.drew _ _
      have hcv := conv_bytes n2 zblock_len
      rw [ZS.out] at hcv
      obtain ⟨w3, hw3⟩ : ∃ w3, w3 = w2.alloc (.cells #[.string zs] 9) := ⟨_, rfl⟩
      have b3 : Below wr.heap.size wr w3 := hw3 ▸ b2.alloc b2.size _
      have n3 : Bk w3 w2.heap.size #[.string zs] 9 := hw3 ▸ Bk.new w2 _ _
      have o3 := ownsRow_bel hO b3
      obtain ⟨g', cap', w4, hap, ho4, hg4, hwh⟩ := app_gen 37 37 9 1 16 _ Try.underlying37 info9 rfl (by omega) (by omega) ⟨w2.heap.size, 0, none⟩ [.string zs] (by have := X.out.2; omega) o3 rfl
        (fun j u hu => by
          rw [Addr.add_mid, Nat.zero_add, n3.cell, List.getElem?_toArray]
          exact hu) (by intro u hu; simp at hu; subst hu; rfl) (Nat.le_trans HB.size b3.size)
      have c0 : wr.drew.cell? ⟨W.heap.size, 0, none⟩ = some sv := hb.cell 0
      have c2 : w2.cell? ⟨W.heap.size, 0, none⟩ = some sv := (hb.bel b2).cell 0
      have c3 : w3.cell? ⟨W.heap.size, 0, none⟩ = some sv := (hb.bel b3).cell 0
      have b4 : Bk w4 W.heap.size #[sv, .slice none 0 0, .int .i64 (-1)] 40 := (hb.bel b3).grown hg4 (fun e => hne e.symm)
      have c4 : w4.cell? ⟨W.heap.size, 0, none⟩ = some sv := b4.cell 0
      have f4 : w4.frozen? ⟨W.heap.size, 0, none⟩ = false := b4.free 0
      have B4 : Below W.heap.size W w4 := below_grown (HB.trans (b3.mono HB.size)) hg4 (Nat.le_trans HB.size b3.size) o3
      have hne4 : g' ≠ W.heap.size := by
        rcases hwh with e | e
        · intro e2; exact hne (by rw [e, e2])
        · have := hb.lt; have := b3.size; omega
      have MK := Lib.hid hmk
      have CV := Lib.hid hcv
      have HW3 := Lib.hid hw3
      have AP := Lib.hid hap
      have C0 := Lib.hid c0
      have C2 := Lib.hid c2
      have C3 := Lib.hid c3
      have C4 := Lib.hid (And.intro c4 f4)
      have Y := Lib.hid (And.intro b4 (And.intro ho4 (And.intro B4 (And.intro hne4 hlt))))
      clear hmk hw2 b2 n2 hcv hw3 b3 n3 o3 hap ho4 hg4 hwh c0 c2 c3 b4 c4 f4 B4 hne4 hk hb hO hne HB hlt
      go_upto_region 7 with fail
      refine wp_aw 12 #[false, false, false, false, false, false, false, false, false, false, false, false] rfl rfl ?_
      refine awt1 0 4 (o := ({ dst := some 19, op := Go.Op.move (Go.Operand.tmp 4), type := 29, pos := "ref.go:33", after := #[], guard := none })) (v := ?_) rfl (by kernel_rfl) (by kernel_rfl) (by kernel_rfl) (fun _ _ _ h => h) (by rfl) (by rfl) (fun ev hc hf h0 W => ?_) ?_; rotate_left; (focus (first | (go_simp; done) | (go_simp; with_reducible rfl))); rotate_left; simp only [Act.put, List.setIfInBounds_toArray, List.set_cons_zero, List.set_cons_succ]
      refine awt1 1 4 (o := ({ dst := some 20, op := Go.Op.move (Go.Operand.tmp 4), type := 29, pos := "ref.go:33", after := #[], guard := none })) (v := ?_) rfl (by kernel_rfl) (by kernel_rfl) (by kernel_rfl) (fun _ _ _ h => h) (by rfl) (by rfl) (fun ev hc hf h0 W => ?_) ?_; rotate_left; (focus (first | (go_simp; done) | (go_simp; with_reducible rfl))); rotate_left; simp only [Act.put, List.setIfInBounds_toArray, List.set_cons_zero, List.set_cons_succ]
      refine awt1 2 20 (o := ({ dst := some 21, op := Go.Op.nilCheck (Go.Operand.tmp 20), type := 0, pos := "ref.go:33", after := #[{ on := 1, ground := Go.Ground.data }], guard := none })) (v := ?_) rfl (by kernel_rfl) (by kernel_rfl) (by kernel_rfl) (fun _ _ _ h => h) (by rfl) (by rfl) (fun ev hc hf h0 W => ?_) ?_; rotate_left; (focus (first | (go_simp; done) | (go_simp; with_reducible rfl))); rotate_left; simp only [Act.put, List.setIfInBounds_toArray, List.set_cons_zero, List.set_cons_succ]
      refine awt1 3 21 (o := ({ dst := some 22, op := Go.Op.fieldAddr 40 (Go.Operand.tmp 21) 0, type := 0, pos := "ref.go:33", after := #[{ on := 2, ground := Go.Ground.data }], guard := none })) (v := ?_) rfl (by kernel_rfl) (by kernel_rfl) (by kernel_rfl) (fun _ _ _ h => h) (by rfl) (by rfl) (fun ev hc hf h0 W => ?_) ?_; rotate_left; (focus (first | (go_simp; done) | (go_simp; with_reducible rfl))); rotate_left; simp only [Act.put, List.setIfInBounds_toArray, List.set_cons_zero, List.set_cons_succ]
      refine aw_join 4 ?L7 ?F7 w3 (fun END => ?_) ?_
      case refine_1 =>
        refine aw_all [4, 5] (by kernel_rfl) (by simp) ?_
        refine arv1 (o := ({ dst := some 23, op := Go.Op.load 37 (Go.Operand.tmp 22), type := 37, pos := "ref.go:33", after := #[{ on := 3, ground := Go.Ground.data }], guard := none })) 22 (v := ?_) (W' := ?_) rfl (by rfl) (by rfl) (fun ev hc hf h0 => ?_) ?_ ?_; rotate_left 2; (focus (have c0 := C0.out; go_simp; constructor <;> with_reducible rfl))
        · simp only [Act.put, List.setIfInBounds_toArray, List.set_cons_zero, List.set_cons_succ]
          refine aw_all [5] (by kernel_rfl) (by simp) ?_
          refine arv0 (o := ({ dst := some 24, op := Go.Op.makeSlice 61 (Go.Operand.const (Go.Value.int Go.IntKind.i64 256)) (Go.Operand.const (Go.Value.int Go.IntKind.i64 256)), type := 61, pos := "ref.go:33", after := #[], guard := none })) (.slice (some ⟨wr.heap.size, 0, none⟩) 256 256) (W' := w2) rfl (by rfl) (fun ev hc hf => ?_) ?_ ?_
          · have hmk := MK.out; go_simp
          · simp only [Act.put, List.setIfInBounds_toArray, List.set_cons_zero, List.set_cons_succ]
            refine aw_all [6] (by kernel_rfl) (by simp) ?_
            refine arv1 (o := ({ dst := some 25, op := Go.Op.convert 61 9 (Go.Operand.tmp 24), type := 9, pos := "ref.go:33", after := #[{ on := 5, ground := Go.Ground.data }], guard := none })) 24 (.string zs) (W' := w2) rfl (by rfl) (by rfl) (fun ev hc hf h0 => ?_) ?_ ?_
            · have hcv := CV.out; go_simp
            · simp only [Act.put, List.setIfInBounds_toArray, List.set_cons_zero, List.set_cons_succ]
              refine aw_all [7] (by kernel_rfl) (by simp) ?_
              refine arv1 (o := ({ dst := some 26, op := Go.Op.buildSlice 37 1 #[(0, Go.Operand.tmp 25)], type := 37, pos := "ref.go:33", after := #[{ on := 6, ground := Go.Ground.data }], guard := none })) 25 (.slice (some ⟨w2.heap.size, 0, none⟩) 1 1) (W' := w3) rfl (by rfl) (by rfl) (fun ev hc hf h0 => ?_) ?_ ?_
              · rw [HW3.out]; go_simp
              · simp only [Act.put, List.setIfInBounds_toArray, List.set_cons_zero, List.set_cons_succ]
                exact END
              exact ar_nil
            exact ar_nil
          exact ar_nil
        refine arv0 (o := ({ dst := some 24, op := Go.Op.makeSlice 61 (Go.Operand.const (Go.Value.int Go.IntKind.i64 256)) (Go.Operand.const (Go.Value.int Go.IntKind.i64 256)), type := 61, pos := "ref.go:33", after := #[], guard := none })) (.slice (some ⟨wr.heap.size, 0, none⟩) 256 256) (W' := w2) rfl (by rfl) (fun ev hc hf => ?_) ?_ ?_
        · have hmk := MK.out; go_simp
        · simp only [Act.put, List.setIfInBounds_toArray, List.set_cons_zero, List.set_cons_succ]
          refine aw_all [4, 6] (by kernel_rfl) (by simp) ?_
          refine arv1 (o := ({ dst := some 23, op := Go.Op.load 37 (Go.Operand.tmp 22), type := 37, pos := "ref.go:33", after := #[{ on := 3, ground := Go.Ground.data }], guard := none })) 22 (v := ?_) (W' := ?_) rfl (by rfl) (by rfl) (fun ev hc hf h0 => ?_) ?_ ?_; rotate_left 2; (focus (have c0 := C2.out; go_simp; constructor <;> with_reducible rfl))
          · simp only [Act.put, List.setIfInBounds_toArray, List.set_cons_zero, List.set_cons_succ]
            refine aw_all [6] (by kernel_rfl) (by simp) ?_
            refine arv1 (o := ({ dst := some 25, op := Go.Op.convert 61 9 (Go.Operand.tmp 24), type := 9, pos := "ref.go:33", after := #[{ on := 5, ground := Go.Ground.data }], guard := none })) 24 (.string zs) (W' := w2) rfl (by rfl) (by rfl) (fun ev hc hf h0 => ?_) ?_ ?_
            · have hcv := CV.out; go_simp
            · simp only [Act.put, List.setIfInBounds_toArray, List.set_cons_zero, List.set_cons_succ]
              refine aw_all [7] (by kernel_rfl) (by simp) ?_
              refine arv1 (o := ({ dst := some 26, op := Go.Op.buildSlice 37 1 #[(0, Go.Operand.tmp 25)], type := 37, pos := "ref.go:33", after := #[{ on := 6, ground := Go.Ground.data }], guard := none })) 25 (.slice (some ⟨w2.heap.size, 0, none⟩) 1 1) (W' := w3) rfl (by rfl) (by rfl) (fun ev hc hf h0 => ?_) ?_ ?_
              · rw [HW3.out]; go_simp
              · simp only [Act.put, List.setIfInBounds_toArray, List.set_cons_zero, List.set_cons_succ]
                exact END
              exact ar_nil
            exact ar_nil
          refine arv1 (o := ({ dst := some 25, op := Go.Op.convert 61 9 (Go.Operand.tmp 24), type := 9, pos := "ref.go:33", after := #[{ on := 5, ground := Go.Ground.data }], guard := none })) 24 (.string zs) (W' := w2) rfl (by rfl) (by rfl) (fun ev hc hf h0 => ?_) ?_ ?_
          · have hcv := CV.out; go_simp
          · simp only [Act.put, List.setIfInBounds_toArray, List.set_cons_zero, List.set_cons_succ]
            refine aw_all [4, 7] (by kernel_rfl) (by simp) ?_
            refine arv1 (o := ({ dst := some 23, op := Go.Op.load 37 (Go.Operand.tmp 22), type := 37, pos := "ref.go:33", after := #[{ on := 3, ground := Go.Ground.data }], guard := none })) 22 (v := ?_) (W' := ?_) rfl (by rfl) (by rfl) (fun ev hc hf h0 => ?_) ?_ ?_; rotate_left 2; (focus (have c0 := C2.out; go_simp; constructor <;> with_reducible rfl))
            · simp only [Act.put, List.setIfInBounds_toArray, List.set_cons_zero, List.set_cons_succ]
              refine aw_all [7] (by kernel_rfl) (by simp) ?_
              refine arv1 (o := ({ dst := some 26, op := Go.Op.buildSlice 37 1 #[(0, Go.Operand.tmp 25)], type := 37, pos := "ref.go:33", after := #[{ on := 6, ground := Go.Ground.data }], guard := none })) 25 (.slice (some ⟨w2.heap.size, 0, none⟩) 1 1) (W' := w3) rfl (by rfl) (by rfl) (fun ev hc hf h0 => ?_) ?_ ?_
              · rw [HW3.out]; go_simp
              · simp only [Act.put, List.setIfInBounds_toArray, List.set_cons_zero, List.set_cons_succ]
                exact END
              exact ar_nil
            refine arv1 (o := ({ dst := some 26, op := Go.Op.buildSlice 37 1 #[(0, Go.Operand.tmp 25)], type := 37, pos := "ref.go:33", after := #[{ on := 6, ground := Go.Ground.data }], guard := none })) 25 (.slice (some ⟨w2.heap.size, 0, none⟩) 1 1) (W' := w3) rfl (by rfl) (by rfl) (fun ev hc hf h0 => ?_) ?_ ?_
            · rw [HW3.out]; go_simp
            · simp only [Act.put, List.setIfInBounds_toArray, List.set_cons_zero, List.set_cons_succ]
              refine aw_all [4] (by kernel_rfl) (by simp) ?_
              refine arv1 (o := ({ dst := some 23, op := Go.Op.load 37 (Go.Operand.tmp 22), type := 37, pos := "ref.go:33", after := #[{ on := 3, ground := Go.Ground.data }], guard := none })) 22 (v := ?_) (W' := ?_) rfl (by rfl) (by rfl) (fun ev hc hf h0 => ?_) ?_ ?_; rotate_left 2; (focus (have c0 := C3.out; go_simp; constructor <;> with_reducible rfl))
              · simp only [Act.put, List.setIfInBounds_toArray, List.set_cons_zero, List.set_cons_succ]
                exact END
              exact ar_nil
            exact ar_nil
          exact ar_nil
        exact ar_nil
      refine aw_all [8] (by kernel_rfl) (by simp) ?_
      refine arv2 (o := ({ dst := some 27, op := Go.Op.call { callee := Go.Callee.builtin Go.Builtin.append, args := #[Go.Operand.tmp 23, Go.Operand.tmp 26], argTypes := #[37, 37] }, type := 37, pos := "ref.go:33", after := #[{ on := 4, ground := Go.Ground.data }, { on := 7, ground := Go.Ground.data }], guard := none })) 23 26 _ rfl (by rfl) (by rfl) (by rfl) (fun ev hc hf h0 h1 => ex_app _ _ 37 rfl h0 h1 AP.out) ?_ ?_
      · simp only [Act.put, List.setIfInBounds_toArray, List.set_cons_zero, List.set_cons_succ]
        refine awt1 9 19 (o := ({ dst := some 28, op := Go.Op.nilCheck (Go.Operand.tmp 19), type := 0, pos := "ref.go:33", after := #[{ on := 0, ground := Go.Ground.data }, { on := 0, ground := Go.Ground.phase }, { on := 1, ground := Go.Ground.phase }, { on := 2, ground := Go.Ground.phase }, { on := 3, ground := Go.Ground.phase }, { on := 4, ground := Go.Ground.phase }, { on := 5, ground := Go.Ground.phase }, { on := 6, ground := Go.Ground.phase }, { on := 7, ground := Go.Ground.phase }, { on := 8, ground := Go.Ground.phase }], guard := none })) (v := ?_) rfl (by kernel_rfl) (by kernel_rfl) (by kernel_rfl) (fun _ _ _ h => h) (by rfl) (by rfl) (fun ev hc hf h0 W => ?_) ?_; rotate_left; (focus (first | (go_simp; done) | (go_simp; with_reducible rfl))); rotate_left; simp only [Act.put, List.setIfInBounds_toArray, List.set_cons_zero, List.set_cons_succ]
        refine awt1 10 28 (o := ({ dst := some 29, op := Go.Op.fieldAddr 40 (Go.Operand.tmp 28) 0, type := 0, pos := "ref.go:33", after := #[{ on := 9, ground := Go.Ground.data }, { on := 0, ground := Go.Ground.phase }, { on := 1, ground := Go.Ground.phase }, { on := 2, ground := Go.Ground.phase }, { on := 3, ground := Go.Ground.phase }, { on := 4, ground := Go.Ground.phase }, { on := 5, ground := Go.Ground.phase }, { on := 6, ground := Go.Ground.phase }, { on := 7, ground := Go.Ground.phase }, { on := 8, ground := Go.Ground.phase }], guard := none })) (v := ?_) rfl (by kernel_rfl) (by kernel_rfl) (by kernel_rfl) (fun _ _ _ h => h) (by rfl) (by rfl) (fun ev hc hf h0 W => ?_) ?_; rotate_left; (focus (first | (go_simp; done) | (go_simp; with_reducible rfl))); rotate_left; simp only [Act.put, List.setIfInBounds_toArray, List.set_cons_zero, List.set_cons_succ]
        refine aw_all [11] (by kernel_rfl) (by simp) ?_
        refine ars2 (o := ({ dst := none, op := Go.Op.store 37 (Go.Operand.tmp 29) (Go.Operand.tmp 27), type := 0, pos := "ref.go:33", after := #[{ on := 10, ground := Go.Ground.data }, { on := 8, ground := Go.Ground.data }, { on := 8, ground := Go.Ground.chain }, { on := 0, ground := Go.Ground.phase }, { on := 1, ground := Go.Ground.phase }, { on := 2, ground := Go.Ground.phase }, { on := 3, ground := Go.Ground.phase }, { on := 4, ground := Go.Ground.phase }, { on := 5, ground := Go.Ground.phase }, { on := 6, ground := Go.Ground.phase }, { on := 7, ground := Go.Ground.phase }, { on := 8, ground := Go.Ground.phase }], guard := none })) 29 27 (W' := ?_) rfl (by rfl) (by rfl) (by rfl) (fun ev hc hf h0 h1 => ?_) ?_ ?_; rotate_left 1; (focus (have c4 := C4.out.1; have f4 := C4.out.2; go_simp; with_reducible rfl))
        · simp only [Act.put, List.setIfInBounds_toArray, List.set_cons_zero, List.set_cons_succ]
          refine aw_done (by kernel_rfl) ?_
          go_wp2_with fail
          refine ⟨⟨k + 1, .slice (some ⟨g', 0, none⟩) (k + 1) cap', by have := Y.out.2.2.2.2; omega, by simp, ?_, ?_, by simpa [Value.ownBlock] using Y.out.2.2.2.1, Y.out.2.2.1.setCell (Nat.le_refl _) _⟩, ?_⟩
          · have := Y.out.1.set 0 (.slice (some ⟨g', 0, none⟩) (k + 1) cap')
            simpa using this
          · rw [List.replicate_succ']
            refine ownsRow_kept Y.out.2.1 fun q hq _ => Below.heap_setCell _ _ _ _ ?_
            have hk' : g' = q := by simpa [Value.ownBlock] using hq
            subst hk'
            simpa using Y.out.2.2.2.1
          · simp [intOf]
            have := Y.out.2.2.2.2
            omega
        exact ar_nil
      exact ar_nil
    · obtain rfl : k = n := by omega
      have Y := Lib.hid (And.intro hb (And.intro hO (And.intro hne HB)))
      clear hb hO hne HB hk hlt
      go_wp2_with fail
      refine bodyPost_ret (v := .tuple #[.pointer (some ⟨W.heap.size, 0, none⟩), .int .i64 0]) (by simp [results, Try.results10, go_sem]) rfl ?_
      obtain ⟨hb, hO, hne, HB⟩ := Y.out
      have hlen : (newDsk k).S.length = k := zeroS_len k
      refine ⟨rfl, HB, sv, .slice none 0 0, ⟨⟨by rw [hlen]; have := X.out; omega, by rw [hlen]; exact X.out.2, ?_, fun x hx => by simp [newDsk] at hx, by simp [newDsk], by simp [newDsk]⟩, ⟨Nat.le_refl _, hb.lt⟩, ?_, by simp [Value.ownBlock], hne, by simp [Value.ownBlock], by simp [Value.ownBlock], fun q hq => hq, hb, ?_, ?_⟩⟩
      · intro x hx
        rw [List.eq_of_mem_replicate (show x ∈ List.replicate k zblock from hx)]
        exact zblock_len
      · intro q hq
        have := ownsRow_lt hO hq
        exact ⟨this.2, this.1⟩
      · rw [hlen]
        have : rS (newDsk k).S = List.replicate k (.string zs) := by
          show (List.replicate k zblock).map strV = _
          rw [List.map_replicate]
          unfold strV
          rw [ZS.out]
        rw [this]
        exact hO
      · exact ⟨by show (rL []).length = 0 * 2; rfl, .inl ⟨rfl, rfl⟩⟩

end Go.Proofs.Ytbobbekbliichaa
