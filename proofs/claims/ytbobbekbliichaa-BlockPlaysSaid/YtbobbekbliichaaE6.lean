import Derived.Test.YtbobbekbliichaaE5
namespace Go.Proofs.Ytbobbekbliichaa
open Go.RowKit
set_option linter.unusedSimpArgs false
set_option linter.unusedVariables false


open Go.Lib (byteCells byteCells_length byteCells_one)
/-- The blocks of F, and all that were made since. -/
def Grow (F : Nat → Prop) (a b : World) (k : Nat) : Prop := F k ∨ Fresh a b k
def DiskHas (B : Nat) (F : Nat → Prop) (W : World) (g : Nat) (d : Dsk) : Prop := ∃ s lv, DiskIn B F W g s lv d
def Dsk.add (d : Dsk) (b : Int) (bs : List UInt8) : Dsk := { d with L := d.L ++ [(b, bs)] }
theorem write_nil (b : Int) (str : ByteArray) (W : World) : Calls Try.prog 16 #[.pointer none, .int .i64 b, .string str] W fun e W' => e = .returned (.int .i64 1) ∧ W = W' := by
  go_enter Try.func16, Try.ntmps16
  go_wp2_with (go_at_call 29; refine (there_nil _ _).mono ?_; rintro e w' ⟨rfl, rfl⟩)
  go_ret
  exact ⟨rfl, rfl⟩
section
variable {B : Nat} {F : Nat → Prop} {W : World} {g s : Nat} {lv : Value} {d : Dsk}
theorem write_bad (b : Int) (str : ByteArray) (h : DiskIn B F W g s lv d) (hb : d.there b ≠ 0) : Calls Try.prog 16 #[.pointer (some ⟨g, 0, none⟩), .int .i64 b, .string str] W fun e W' => e = .returned (.int .i64 (d.there b)) ∧ W = W' := by
  have H := Lib.hid (fun w' (e : W = w') => e ▸ there_disk b h)
  obtain ⟨m, hm⟩ : ∃ m, d.there b = m := ⟨_, rfl⟩
  rw [hm] at H hb ⊢
  have hb' : (m == 0) = false := by simpa using hb
  clear hm h hb
  go_enter Try.func16, Try.ntmps16
  go_wp2_with (go_at_call 29; refine (H.out _ rfl).mono ?_; rintro e w' ⟨rfl, rfl⟩)
  go_ret
  exact ⟨rfl, rfl⟩
theorem write_long (b : Int) (str : ByteArray) (h : DiskIn B F W g s lv d) (hb : d.there b = 0) (hs : str.size ≠ 256) : Calls Try.prog 16 #[.pointer (some ⟨g, 0, none⟩), .int .i64 b, .string str] W fun e W' => e = .returned (.int .i64 2) ∧ W = W' := by
  have H := Lib.hid (fun w' (e : W = w') => e ▸ hb ▸ there_disk b h)
  have hs' : ((str.size : Int) == 256) = false := by simp; omega
  clear h hs hb
  go_enter Try.func16, Try.ntmps16
  go_wp2_with (go_at_call 29; refine (H.out _ rfl).mono ?_; rintro e w' ⟨rfl, rfl⟩)
  go_ret
  exact ⟨rfl, rfl⟩
theorem wcells_len (b : Int) (bs : List UInt8) (h : bs.length = 256) : (wcells (b, bs)).length = 257 := by
  unfold wcells
  rw [List.length_cons, byteCells_length, h]
theorem wcells_one (b : Int) (bs : List UInt8) : ∀ v ∈ wcells (b, bs), v.oneCell' = true := by
  intro v hv
  rcases List.mem_cons.1 hv with rfl | hv
  · rfl
  · exact byteCells_one _ v hv
theorem wstart_one (b : Int) : (wstart b).all (·.oneCell') = true := by
  rw [Array.all_eq_true_iff_forall_mem]
  intro v hv
  unfold wstart at hv
  rcases Array.mem_append.1 hv with hv | hv
  · simp at hv; subst hv; rfl
  · rw [(Array.mem_replicate.1 hv).2]; rfl
theorem wcopy (b : Int) (bs : List UInt8) (h : bs.length = 256) : ((wstart b).toList.take 1 ++ byteCells bs ++ (wstart b).toList.drop (1 + 256)) = wcells (b, bs) := by
  have hl : (wstart b).toList = Value.int .i64 b :: List.replicate 256 (Value.int .u8 0) := by
    unfold wstart
    rw [Array.toList_append, Array.toList_replicate]
    rfl
  rw [hl, List.drop_of_length_le (by rw [List.length_cons, List.length_replicate]; omega), List.append_nil, List.take_succ_cons, List.take_zero]
  rfl
end
theorem Kept.of_grown {F : Nat → Prop} {W W' : World} {row : Option Nat} (h : W.grownBy W' row) (hF : ∀ k, row = some k → F k) : Kept F W W' :=
  ⟨h.os, h.tape, h.output, h.size, fun k hk hn => h.block k hk (fun e => hn (hF k e.symm))⟩
theorem flatL_add (L : List (Int × List UInt8)) (b : Int) (bs : List UInt8) : flatL (L ++ [(b, bs)]) = flatL L ++ wcells (b, bs) := by
  unfold flatL
  rw [List.map_append, List.flatten_append]
  simp
theorem write_end {B : Nat} {F : Nat → Prop} {W w3 w4 : World} {g s g' cap' : Nat} {lv : Value} {d0 d : Dsk} {b : Int} {bs : List UInt8} (h0 : DiskIn B F W g s lv d0) (y3 : DiskIn B F w3 g s lv d) (hkW : Kept F W w3)
    (y4 : Bk w4 g #[.slice (some ⟨s, 0, none⟩) d.S.length d.S.length, lv, .bool d.fused, .int .i64 d.left] 60)
    (y5 : w4.ownsRow B 71 257 (.slice (some ⟨g', 0, none⟩) (d.L.length + 1) cap') (d.L.length + 1) (flatL d.L ++ wcells (b, bs))) (y6 : w3.grownBy w4 lv.ownBlock) (y7 : lv.ownBlock = some g' ∨ g' = w3.heap.size)
    (hx : bs.length = 256 ∧ 0 ≤ b ∧ b < d.S.length) (_ : DiskIn B F W g s lv d0) :
    DiskHas B (Grow F W (w4.setCell ⟨g, 1, none⟩ (.slice (some ⟨g', 0, none⟩) (d.L.length + 1) cap'))) (w4.setCell ⟨g, 1, none⟩ (.slice (some ⟨g', 0, none⟩) (d.L.length + 1) cap')) g (d.add b bs) ∧
      Kept F W (w4.setCell ⟨g, 1, none⟩ (.slice (some ⟨g', 0, none⟩) (d.L.length + 1) cap')) := by
  have hk4 : Kept F W w4 := hkW.trans (.of_grown y6 (fun k hk => y3.hl k hk))
  have hk5 : Kept F W (w4.setCell ⟨g, 1, none⟩ (.slice (some ⟨g', 0, none⟩) (d.L.length + 1) cap')) := hk4.set y3.hg _
  have hgl : g' < w4.heap.size := by
    rcases y5.2 with ⟨e, _⟩ | ⟨q, c, cur, e, _, hq, _⟩
    · simp at e
    · simp at e
      rw [e.1]
      exact (Array.getElem?_eq_some_iff.1 hq).1
  have ng : g' ≠ g := by
    rcases y7 with e | e
    · intro e2; exact y3.lg (by rw [e, e2])
    · have := (y3.low g y3.hg).2; omega
  have ns : g' ≠ s := by
    rcases y7 with e | e
    · intro e2; exact y3.ls (by rw [e, e2])
    · have := (y3.low s y3.hs).2; omega
  have hsz : (w4.setCell ⟨g, 1, none⟩ (.slice (some ⟨g', 0, none⟩) (d.L.length + 1) cap')).heap.size = w4.heap.size := by simp [World.setCell]
  refine ⟨⟨s, .slice (some ⟨g', 0, none⟩) (d.L.length + 1) cap', ⟨⟨y3.ok.pos, y3.ok.few, y3.ok.all, ?_, y3.ok.fuse, y3.ok.big⟩, .inl y3.hg, .inl y3.hs, ?_, y3.sg, ?_, ?_, ?_, ?_, ?_, ?_⟩⟩, hk5⟩
  · intro x hx'
    rcases List.mem_append.1 (show x ∈ d.L ++ [(b, bs)] from hx') with h | h
    · exact y3.ok.loose x h
    · rw [List.mem_singleton.1 h]; exact ⟨hx.1, hx.2⟩
  · intro k hk
    have hk' : g' = k := by simpa [Value.ownBlock] using hk
    subst hk'
    rcases y7 with e | e
    · exact .inl (y3.hl _ e)
    · exact .inr ⟨by rw [e]; exact hkW.size, by rw [hsz]; exact hgl⟩
  · simpa [Value.ownBlock] using ng
  · simpa [Value.ownBlock] using ns
  · intro k hk
    rcases hk with hk | hk
    · exact ⟨(h0.low k hk).1, Nat.lt_of_lt_of_le (h0.low k hk).2 hk5.size⟩
    · exact ⟨Nat.le_trans (Nat.le_of_lt (Nat.lt_of_le_of_lt (h0.low g h0.hg).1 (h0.low g h0.hg).2)) hk.1, hk.2⟩
  · have := y4.set 1 (.slice (some ⟨g', 0, none⟩) (d.L.length + 1) cap')
    simp at this
    exact this
  · exact (y3.at_s.grown y6 (fun e => y3.ls e.symm)).far (by simpa using y3.sg) _
  · have hl : (d.add b bs).L.length = d.L.length + 1 := by simp [Dsk.add]
    have hf : flatL (d.add b bs).L = flatL d.L ++ wcells (b, bs) := flatL_add _ _ _
    rw [hl, hf]
    refine ownsRow_kept y5 fun k hk _ => Below.heap_setCell _ _ _ _ ?_
    have hk' : g' = k := by simpa [Value.ownBlock] using hk
    subst hk'
    simpa using ng
set_option maxHeartbeats 6400000 in
theorem write_good {B : Nat} {F : Nat → Prop} {W : World} {g s : Nat} {lv : Value} {d : Dsk} (b : Int) (str : ByteArray) (bs : List UInt8) (h : DiskIn B F W g s lv d) (hb : d.there b = 0) (hs : str.size = 256) (hbs : str.data.toList = bs) (hL : d.L.length ≤ 1000000) :
    Calls Try.prog 16 #[.pointer (some ⟨g, 0, none⟩), .int .i64 b, .string str] W fun e W' => e = .returned (.int .i64 0) ∧ DiskHas B (Grow F W W') W' g (d.done.add b bs) ∧ Kept F W W' := by
  have hbl : bs.length = 256 := by rw [← hbs]; exact hs
  have hmay : d.may = 0 := by
    unfold Dsk.there at hb
    split at hb
    · assumption
    · exact hb
  have hrange : 0 ≤ b ∧ b < d.S.length := by
    unfold Dsk.there at hb
    rw [if_pos hmay] at hb
    split at hb
    · simp at hb
    · omega
  have H := Lib.hid (fun w' (e : W = w') => e ▸ hb ▸ there_disk b h)
  have HD := Lib.hid (fun w' (e : W = w') => e ▸ done_disk hmay h)
  have hs' : ((str.size : Int) == 256) = true := by rw [hs]; rfl
  have X := Lib.hid (And.intro h (And.intro hb (And.intro hs (And.intro hbs (And.intro hL (And.intro hbl hrange))))))
  clear h hb hs hbs hL hbl hrange hmay
  go_enter Try.func16, Try.ntmps16
  go_wp2_with fail
  refine (H.out _ rfl).mono ?_
  rintro e w' ⟨rfl, rfl⟩
  go_wp2_with fail
  refine (HD.out _ rfl).mono ?_
  rintro e w1 ⟨⟨v1, rfl⟩, hd1, hk1, hz1⟩
  have D1 := Lib.hid (And.intro hd1 (And.intro hk1 hz1))
  clear hd1 hk1 hz1 H HD
  go_wp2_with (with_reducible refine wpList_pl 21 rfl ?_)
  refine plv1 20 _ (by rfl) (by rfl) (fun ev hc hf h0 => ex_build71 _ _ rfl h0) ?_
  simp only [Act.put, List.setIfInBounds_toArray, List.set_cons_zero, List.set_cons_succ]
  refine plv0 _ (by rfl) (fun ev hc hf => ex_alloc71 rfl) ?_
  simp only [Act.put, List.setIfInBounds_toArray, List.set_cons_zero, List.set_cons_succ]
  refine pls2 8 21 (by rfl) (by rfl) (by rfl) (fun ev hc hf h0 h1 => ex_store_new 71 _ _ wzero (wstart b) rfl h0 h1 (by rw [wstart_size]; kernel_rfl) (by rw [wzero_size, wstart_size]) (wstart_one b)) ?_
  simp only [Act.put, List.setIfInBounds_toArray, List.set_cons_zero, List.set_cons_succ]
  refine pl_nil ?_
  go_wp2_with (with_reducible refine wpList_pl 23 rfl ?_)
  refine plv1 22 _ (by rfl) (by rfl) (fun ev hc hf h0 => ex_slice_all _ _ _ rfl h0) ?_
  simp only [Act.put, List.setIfInBounds_toArray, List.set_cons_zero, List.set_cons_succ]
  refine plv1 2 (v := ?_) (W' := ?_) (by rfl) (by rfl) (fun ev hc hf h0 => ?_) ?_; rotate_left 2; (focus (go_simp; constructor <;> with_reducible rfl)); simp only [Act.put, List.setIfInBounds_toArray, List.set_cons_zero, List.set_cons_succ]
  have hcp : (w1.alloc (.cells (wstart b) 71)).setRow w1.heap.size ((wstart b).toList.take 1 ++ byteCells str.data.toList ++ (wstart b).toList.drop (1 + 256)).toArray = w1.alloc (.cells (wcells (b, bs)).toArray 71) := by
    rw [World.setRow_alloc_new, X.out.2.2.2.1, wcopy b bs X.out.2.2.2.2.2.1]
  refine plv2 23 24 _ (by rfl) (by rfl) (by rfl) (fun ev hc hf h0 h1 => (ex_copy_str _ _ w1.heap.size 1 str (wstart b) 71 rfl h0 h1 (heap_alloc_last w1 _) X.out.2.2.1 (by rw [wstart_size]; omega)).trans (by rw [hcp])) ?_
  clear hcp
  simp only [Act.put, List.setIfInBounds_toArray, List.set_cons_zero, List.set_cons_succ]
  refine pl_nil ?_
  obtain ⟨w2, hw2⟩ : ∃ w2, w2 = w1.alloc (.cells (wcells (b, bs)).toArray 71) := ⟨_, rfl⟩
  rw [← hw2]
  obtain ⟨w3, hw3⟩ : ∃ w3, w3 = w2.drew.alloc (.cells (wcells (b, bs)).toArray 71) := ⟨_, rfl⟩
  have b2 : Below w1.heap.size w1 w2 := hw2 ▸ (Below.refl _ _).alloc (Nat.le_refl _) _
  have b3 : Below w2.drew.heap.size w2.drew w3 := hw3 ▸ (Below.refl _ _).alloc (Nat.le_refl _) _
  have d2 := D1.out.1.bel b2
  have d3 := (d2.drew).bel b3
  have LV := Lib.hid (show w2.drew.cell? ⟨g, 1, none⟩ = some lv from d2.drew.cells.2.1)
  have LV3 := Lib.hid d3.cells.2.1
  have RA : w2.drew.rangeAt w1.heap.size 0 (wcells (b, bs)) := fun j v hv => by
    have hh : w2.heap[w1.heap.size]? = some (.cells (wcells (b, bs)).toArray 71 (0, 0)) := hw2 ▸ heap_alloc_last w1 _
    rw [Nat.zero_add]
    exact (cell_of_row w2 w1.heap.size j _ _ _ hh).trans (by simpa using hv)
  have I71 : (Try.prog.info? 71).map (·.size) = some (wcells (b, bs)).length := by rw [wcells_len b bs X.out.2.2.2.2.2.1]; kernel_rfl
  have C257 : (wcells (b, bs)).toArray.size = 257 := by simpa using wcells_len b bs X.out.2.2.2.2.2.1
  have hn3 : w3.heap[w2.heap.size]? = some (.cells (wcells (b, bs)).toArray 71 (0, 0)) := hw3 ▸ heap_alloc_last w2.drew _
  obtain ⟨g', cap', w4, hap, ho4, hg4, hwh⟩ := app58 (ty := 58) ⟨w2.heap.size, 0, none⟩ (wcells (b, bs)) (Nat.le_trans (show d.done.L.length ≤ d.L.length from Nat.le_refl _) X.out.2.2.2.2.1) d3.at_l (wcells_len b bs X.out.2.2.2.2.2.1)
    (fun j u hu => by
      have : (⟨w2.heap.size, 0, none⟩ : Addr).add j = ⟨w2.heap.size, j, none⟩ := by unfold Addr.add; split <;> simp_all
      rw [this]
      exact (cell_of_row w3 w2.heap.size j _ _ _ hn3).trans (by simpa using hu)) (wcells_one b bs) (Nat.le_trans (d3.low g d3.hg).1 (Nat.le_of_lt (d3.low g d3.hg).2))
  have RA := Lib.hid RA
  have I71 := Lib.hid I71
  have C257 := Lib.hid C257
  have AP := Lib.hid hap
  have b4 : Bk w4 g #[.slice (some ⟨s, 0, none⟩) d.done.S.length d.done.S.length, lv, .bool d.done.fused, .int .i64 d.done.left] 60 := d3.at_g.grown hg4 (fun e => d3.lg e.symm)
  have c4 : w4.cell? ⟨g, 1, none⟩ = some lv := b4.cell 1
  have f4 : w4.frozen? ⟨g, 1, none⟩ = false := b4.free 1
  have Y := Lib.hid (And.intro b2 (And.intro b3 (And.intro d3 (And.intro b4 (And.intro ho4 (And.intro hg4 hwh))))))
  have C4 := Lib.hid (And.intro c4 f4)
  have HW3 := Lib.hid hw3
  clear hw3 b2 b3 d2 d3 hn3 hap ho4 hg4 hwh b4 c4 f4 hw2
  go_upto_region 9 with fail
  refine wp_aw 11 #[false, false, false, false, false, false, false, false, false, false, false] rfl rfl ?_
  refine awt1 0 0 (o := ({ dst := some 26, op := Go.Op.move (Go.Operand.tmp 0), type := 25, pos := "block.go:93", after := #[], guard := none })) (v := ?_) rfl (by kernel_rfl) (by kernel_rfl) (by kernel_rfl) (fun _ _ _ h => h) (by rfl) (by rfl) (fun ev hc hf h0 W => ?_) ?_; rotate_left; (focus (first | (go_simp; done) | (go_simp; with_reducible rfl))); rotate_left; simp only [Act.put, List.setIfInBounds_toArray, List.set_cons_zero, List.set_cons_succ]
  refine awt1 1 0 (o := ({ dst := some 27, op := Go.Op.move (Go.Operand.tmp 0), type := 25, pos := "block.go:93", after := #[], guard := none })) (v := ?_) rfl (by kernel_rfl) (by kernel_rfl) (by kernel_rfl) (fun _ _ _ h => h) (by rfl) (by rfl) (fun ev hc hf h0 W => ?_) ?_; rotate_left; (focus (first | (go_simp; done) | (go_simp; with_reducible rfl))); rotate_left; simp only [Act.put, List.setIfInBounds_toArray, List.set_cons_zero, List.set_cons_succ]
  refine awt1 2 27 (o := ({ dst := some 28, op := Go.Op.nilCheck (Go.Operand.tmp 27), type := 0, pos := "block.go:93", after := #[{ on := 1, ground := Go.Ground.data }], guard := none })) (v := ?_) rfl (by kernel_rfl) (by kernel_rfl) (by kernel_rfl) (fun _ _ _ h => h) (by rfl) (by rfl) (fun ev hc hf h0 W => ?_) ?_; rotate_left; (focus (first | (go_simp; done) | (go_simp; with_reducible rfl))); rotate_left; simp only [Act.put, List.setIfInBounds_toArray, List.set_cons_zero, List.set_cons_succ]
  refine awt1 3 28 (o := ({ dst := some 29, op := Go.Op.fieldAddr 60 (Go.Operand.tmp 28) 1, type := 0, pos := "block.go:93", after := #[{ on := 2, ground := Go.Ground.data }], guard := none })) (v := ?_) rfl (by kernel_rfl) (by kernel_rfl) (by kernel_rfl) (fun _ _ _ h => h) (by rfl) (by rfl) (fun ev hc hf h0 W => ?_) ?_; rotate_left; (focus (first | (go_simp; done) | (go_simp; with_reducible rfl))); rotate_left; simp only [Act.put, List.setIfInBounds_toArray, List.set_cons_zero, List.set_cons_succ]
  refine aw_join 4 ?L9 ?F9 w3 (fun END => ?_) ?_
  case refine_1 =>
    refine aw_all [4, 5] (by kernel_rfl) (by simp) ?_
    refine arv1 (o := ({ dst := some 30, op := Go.Op.load 58 (Go.Operand.tmp 29), type := 58, pos := "block.go:93", after := #[{ on := 3, ground := Go.Ground.data }], guard := none })) 29 (v := ?_) (W' := ?_) rfl (by rfl) (by rfl) (fun ev hc hf h0 => ?_) ?_ ?_; rotate_left 2; (focus (have c1 := LV.out; go_simp; constructor <;> with_reducible rfl))
    · simp only [Act.put, List.setIfInBounds_toArray, List.set_cons_zero, List.set_cons_succ]
      refine aw_all [5] (by kernel_rfl) (by simp) ?_
      refine arv1 (o := ({ dst := some 31, op := Go.Op.load 71 (Go.Operand.tmp 8), type := 71, pos := "block.go:93", after := #[], guard := none })) 8 _ rfl (by rfl) (by rfl) (fun ev hc hf h0 => ex_load 71 _ _ _ 0 (wcells (b, bs)) rfl h0 RA.out Try.underlying71 rfl I71.out) ?_ ?_
      · simp only [Act.put, List.setIfInBounds_toArray, List.set_cons_zero, List.set_cons_succ]
        refine aw_all [6] (by kernel_rfl) (by simp) ?_
        refine arv1 (o := ({ dst := some 32, op := Go.Op.buildSlice 58 1 #[(0, Go.Operand.tmp 31)], type := 58, pos := "block.go:93", after := #[{ on := 5, ground := Go.Ground.data }], guard := none })) 31 _ (W' := w3) rfl (by rfl) (by rfl) (fun ev hc hf h0 => HW3.out ▸ ex_buildSlice58 _ (wcells (b, bs)).toArray C257.out rfl h0) ?_ ?_
        · simp only [Act.put, List.setIfInBounds_toArray, List.set_cons_zero, List.set_cons_succ]
          exact END
        exact ar_nil
      exact ar_nil
    refine arv1 (o := ({ dst := some 31, op := Go.Op.load 71 (Go.Operand.tmp 8), type := 71, pos := "block.go:93", after := #[], guard := none })) 8 _ rfl (by rfl) (by rfl) (fun ev hc hf h0 => ex_load 71 _ _ _ 0 (wcells (b, bs)) rfl h0 RA.out Try.underlying71 rfl I71.out) ?_ ?_
    · simp only [Act.put, List.setIfInBounds_toArray, List.set_cons_zero, List.set_cons_succ]
      refine aw_all [4, 6] (by kernel_rfl) (by simp) ?_
      refine arv1 (o := ({ dst := some 30, op := Go.Op.load 58 (Go.Operand.tmp 29), type := 58, pos := "block.go:93", after := #[{ on := 3, ground := Go.Ground.data }], guard := none })) 29 (v := ?_) (W' := ?_) rfl (by rfl) (by rfl) (fun ev hc hf h0 => ?_) ?_ ?_; rotate_left 2; (focus (have c1 := LV.out; go_simp; constructor <;> with_reducible rfl))
      · simp only [Act.put, List.setIfInBounds_toArray, List.set_cons_zero, List.set_cons_succ]
        refine aw_all [6] (by kernel_rfl) (by simp) ?_
        refine arv1 (o := ({ dst := some 32, op := Go.Op.buildSlice 58 1 #[(0, Go.Operand.tmp 31)], type := 58, pos := "block.go:93", after := #[{ on := 5, ground := Go.Ground.data }], guard := none })) 31 _ (W' := w3) rfl (by rfl) (by rfl) (fun ev hc hf h0 => HW3.out ▸ ex_buildSlice58 _ (wcells (b, bs)).toArray C257.out rfl h0) ?_ ?_
        · simp only [Act.put, List.setIfInBounds_toArray, List.set_cons_zero, List.set_cons_succ]
          exact END
        exact ar_nil
      refine arv1 (o := ({ dst := some 32, op := Go.Op.buildSlice 58 1 #[(0, Go.Operand.tmp 31)], type := 58, pos := "block.go:93", after := #[{ on := 5, ground := Go.Ground.data }], guard := none })) 31 _ (W' := w3) rfl (by rfl) (by rfl) (fun ev hc hf h0 => HW3.out ▸ ex_buildSlice58 _ (wcells (b, bs)).toArray C257.out rfl h0) ?_ ?_
      · simp only [Act.put, List.setIfInBounds_toArray, List.set_cons_zero, List.set_cons_succ]
        refine aw_all [4] (by kernel_rfl) (by simp) ?_
        refine arv1 (o := ({ dst := some 30, op := Go.Op.load 58 (Go.Operand.tmp 29), type := 58, pos := "block.go:93", after := #[{ on := 3, ground := Go.Ground.data }], guard := none })) 29 (v := ?_) (W' := ?_) rfl (by rfl) (by rfl) (fun ev hc hf h0 => ?_) ?_ ?_; rotate_left 2; (focus (have c1 := LV3.out; go_simp; constructor <;> with_reducible rfl))
        · simp only [Act.put, List.setIfInBounds_toArray, List.set_cons_zero, List.set_cons_succ]
          exact END
        exact ar_nil
      exact ar_nil
    exact ar_nil
  refine aw_all [7] (by kernel_rfl) (by simp) ?_
  refine arv2 (o := ({ dst := some 33, op := Go.Op.call { callee := Go.Callee.builtin Go.Builtin.append, args := #[Go.Operand.tmp 30, Go.Operand.tmp 32], argTypes := #[58, 58] }, type := 58, pos := "block.go:93", after := #[{ on := 4, ground := Go.Ground.data }, { on := 6, ground := Go.Ground.data }], guard := none })) 30 32 _ rfl (by rfl) (by rfl) (by rfl) (fun ev hc hf h0 h1 => ex_app _ _ 58 rfl h0 h1 AP.out) ?_ ?_
  · simp only [Act.put, List.setIfInBounds_toArray, List.set_cons_zero, List.set_cons_succ]
    refine awt1 8 26 (o := ({ dst := some 34, op := Go.Op.nilCheck (Go.Operand.tmp 26), type := 0, pos := "block.go:93", after := #[{ on := 0, ground := Go.Ground.data }, { on := 0, ground := Go.Ground.phase }, { on := 1, ground := Go.Ground.phase }, { on := 2, ground := Go.Ground.phase }, { on := 3, ground := Go.Ground.phase }, { on := 4, ground := Go.Ground.phase }, { on := 5, ground := Go.Ground.phase }, { on := 6, ground := Go.Ground.phase }, { on := 7, ground := Go.Ground.phase }], guard := none })) (v := ?_) rfl (by kernel_rfl) (by kernel_rfl) (by kernel_rfl) (fun _ _ _ h => h) (by rfl) (by rfl) (fun ev hc hf h0 W => ?_) ?_; rotate_left; (focus (first | (go_simp; done) | (go_simp; with_reducible rfl))); rotate_left; simp only [Act.put, List.setIfInBounds_toArray, List.set_cons_zero, List.set_cons_succ]
    refine awt1 9 34 (o := ({ dst := some 35, op := Go.Op.fieldAddr 60 (Go.Operand.tmp 34) 1, type := 0, pos := "block.go:93", after := #[{ on := 8, ground := Go.Ground.data }, { on := 0, ground := Go.Ground.phase }, { on := 1, ground := Go.Ground.phase }, { on := 2, ground := Go.Ground.phase }, { on := 3, ground := Go.Ground.phase }, { on := 4, ground := Go.Ground.phase }, { on := 5, ground := Go.Ground.phase }, { on := 6, ground := Go.Ground.phase }, { on := 7, ground := Go.Ground.phase }], guard := none })) (v := ?_) rfl (by kernel_rfl) (by kernel_rfl) (by kernel_rfl) (fun _ _ _ h => h) (by rfl) (by rfl) (fun ev hc hf h0 W => ?_) ?_; rotate_left; (focus (first | (go_simp; done) | (go_simp; with_reducible rfl))); rotate_left; simp only [Act.put, List.setIfInBounds_toArray, List.set_cons_zero, List.set_cons_succ]
    refine aw_all [10] (by kernel_rfl) (by simp) ?_
    refine ars2 (o := ({ dst := none, op := Go.Op.store 58 (Go.Operand.tmp 35) (Go.Operand.tmp 33), type := 0, pos := "block.go:93", after := #[{ on := 9, ground := Go.Ground.data }, { on := 7, ground := Go.Ground.data }, { on := 7, ground := Go.Ground.chain }, { on := 0, ground := Go.Ground.phase }, { on := 1, ground := Go.Ground.phase }, { on := 2, ground := Go.Ground.phase }, { on := 3, ground := Go.Ground.phase }, { on := 4, ground := Go.Ground.phase }, { on := 5, ground := Go.Ground.phase }, { on := 6, ground := Go.Ground.phase }, { on := 7, ground := Go.Ground.phase }], guard := none })) 35 33 (W' := ?_) rfl (by rfl) (by rfl) (by rfl) (fun ev hc hf h0 h1 => ?_) ?_ ?_; rotate_left 1; (focus (have c4 := C4.out.1; have f4 := C4.out.2; go_simp; with_reducible rfl))
    · simp only [Act.put, List.setIfInBounds_toArray, List.set_cons_zero, List.set_cons_succ]
      refine aw_done (by kernel_rfl) ?_
      go_wp2_with fail
      go_ret
      obtain ⟨y1, y2, y3, y4, y5, y6, y7⟩ := Y.out
      obtain ⟨q1, q2, q3⟩ := D1.out
      have hkW : Kept F W w3 := ((q2.trans (.of_below y1)).trans (show Kept F w2 w2.drew from ⟨rfl, rfl, rfl, Nat.le_refl _, fun _ _ _ => rfl⟩)).trans (show Kept F w2.drew w3 from .of_below y2)
      exact ⟨rfl, write_end X.out.1 y3 hkW y4 y5 y6 y7 ⟨X.out.2.2.2.2.2.1, X.out.2.2.2.2.2.2⟩ X.out.1⟩
    exact ar_nil
  exact ar_nil

end Go.Proofs.Ytbobbekbliichaa
