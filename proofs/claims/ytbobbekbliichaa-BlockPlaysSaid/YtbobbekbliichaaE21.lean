import Derived.Test.YtbobbekbliichaaE20
namespace Go.Proofs.Ytbobbekbliichaa
open Go.RowKit
set_option linter.unusedSimpArgs false
set_option linter.unusedVariables false


open Go.Lib (byteCells byteCells_length byteCells_one)
theorem info42 : (Try.prog.info? 42).map (fun i => (i.zero, i.size, i.bytes)) = some (some (.agg #[.int .i64 0, .string ⟨#[]⟩]), 2, 24) := by kernel_rfl
theorem info9 : (Try.prog.info? 9).map (fun i => (i.zero, i.size, i.bytes)) = some (some (.string ⟨#[]⟩), 1, 16) := by kernel_rfl
/-- One element goes onto a row of one's own. -/
theorem app_gen {W : World} {B n : Nat} {v : Value} {xs : List Value} (t ty e size bytes : Nat) (z : Value) (ht : Try.prog.underlying t = some (.slice e)) (hinf : (Try.prog.info? e).map (fun i => (i.zero, i.size, i.bytes)) = some (some z, size, bytes)) (hzs : z.cells.size = size) (h0 : 0 < size) (hby : bytes ≤ 1000)
    (ad : Addr) (news : List Value) (hn : n ≤ 1000000) (hown : W.ownsRow B e size v n xs) (hl : news.length = size) (hnews : ∀ j u, news[j]? = some u → W.cell? (ad.add j) = some u) (h1 : ∀ u ∈ news, u.oneCell' = true) (hB : B ≤ W.heap.size) :
    ∃ g' cap' W', (Builtin.append_ #[t, t] ty #[v, .slice (some ad) 1 1]).run Try.prog W = .ok (.slice (some ⟨g', 0, none⟩) (n + 1) cap') W' ∧ W'.ownsRow B e size (.slice (some ⟨g', 0, none⟩) (n + 1) cap') (n + 1) (xs ++ news) ∧ W.grownBy W' v.ownBlock ∧ (v.ownBlock = some g' ∨ g' = W.heap.size) := by
  obtain ⟨i, hi, hz, hsz, hb⟩ := info_of hinf
  have hbb : (n + 1) * bytes ≤ 140737488355328 := Nat.le_trans (Nat.mul_le_mul (Nat.succ_le_succ hn) hby) (by omega)
  obtain ⟨v', W', hr, h2, h3, h4⟩ := run_append_own (P := Try.prog) W B t ty e i z size bytes ht hi hz hsz hb hzs h0 v n xs hown ad 1 1 news (by rw [hl]; omega) hnews h1 (by simp [maxLen]; omega) hbb hB
  obtain ⟨g', cap', rfl, hwh⟩ := append_where (P := Try.prog) W B t ty e i z ht hi hz v n xs (by rw [hsz]; exact hown) ad 1 1 news (by rw [hl, hsz]; omega) hnews h1 (by omega) (by simp [maxLen]; omega) (by rw [hb]; exact hbb) v' W' hr
  exact ⟨g', cap', W', hr, h2, h3, hwh⟩
section
variable {B : Nat} {F : Nat → Prop} {W w3 w4 : World} {r g' cap' : Nat} {sv lv : Value} {d0 d : Dsk}
theorem row_at_lt {W : World} {B e size n g' cap' : Nat} {xs : List Value} (h : W.ownsRow B e size (.slice (some ⟨g', 0, none⟩) n cap') n xs) : g' < W.heap.size := by
  rcases h.2 with ⟨e, _⟩ | ⟨q, c, cur, e, _, hq, _⟩
  · simp at e
  · simp at e
    rw [e.1]
    exact (Array.getElem?_eq_some_iff.1 hq).1
/-- Behind an append onto the loose writes. -/
theorem ref_addL {b : Int} {bs : List UInt8} (h0 : RefHas B F W r d0) (y3 : RefIn B F w3 r sv lv d) (hkW : Kept F W w3)
    (y5 : w4.ownsRow B 42 2 (.slice (some ⟨g', 0, none⟩) (d.L.length + 1) cap') (d.L.length + 1) (rL d.L ++ rcells (b, bs))) (y6 : w3.grownBy w4 lv.ownBlock) (y7 : lv.ownBlock = some g' ∨ g' = w3.heap.size)
    (hx : bs.length = 256 ∧ 0 ≤ b ∧ b < d.S.length) :
    RefHas B (Grow F W (w4.setCell ⟨r, 1, none⟩ (.slice (some ⟨g', 0, none⟩) (d.L.length + 1) cap'))) (w4.setCell ⟨r, 1, none⟩ (.slice (some ⟨g', 0, none⟩) (d.L.length + 1) cap')) r (d.add b bs) ∧
      Kept F W (w4.setCell ⟨r, 1, none⟩ (.slice (some ⟨g', 0, none⟩) (d.L.length + 1) cap')) := by
  obtain ⟨sv0, lv0, h0⟩ := h0
  have hk4 : Kept F W w4 := hkW.trans (.of_grown y6 (fun k hk => y3.hl k hk))
  have hk5 : Kept F W (w4.setCell ⟨r, 1, none⟩ (.slice (some ⟨g', 0, none⟩) (d.L.length + 1) cap')) := hk4.set y3.hr _
  have hgl : g' < w4.heap.size := row_at_lt y5
  have nr : g' ≠ r := by
    rcases y7 with e | e
    · intro e2; exact y3.lr (by rw [e, e2])
    · have := (y3.low r y3.hr).2; omega
  have ns : sv.ownBlock ≠ some g' := by
    rcases y7 with e | e
    · intro e2; exact y3.sl _ e2 e
    · intro e2; have := (y3.low g' (y3.hs g' e2)).2; omega
  have hsz : (w4.setCell ⟨r, 1, none⟩ (.slice (some ⟨g', 0, none⟩) (d.L.length + 1) cap')).heap.size = w4.heap.size := by simp [World.setCell]
  have hl : (d.add b bs).L.length = d.L.length + 1 := by simp [Dsk.add]
  have hf : rL (d.add b bs).L = rL d.L ++ rcells (b, bs) := by
    show rL (d.L ++ [(b, bs)]) = _
    unfold rL
    rw [List.map_append, List.flatten_append]
    simp
  refine ⟨⟨sv, .slice (some ⟨g', 0, none⟩) (d.L.length + 1) cap', ⟨⟨y3.ok.pos, y3.ok.few, y3.ok.all, ?_, y3.ok.fuse, y3.ok.big⟩, .inl y3.hr, fun k hk => .inl (y3.hs k hk), ?_, y3.sr, ?_, ?_, ?_, ?_, ?_, ?_⟩⟩, hk5⟩
  · intro x hx'
    rcases List.mem_append.1 (show x ∈ d.L ++ [(b, bs)] from hx') with h | h
    · exact y3.ok.loose x h
    · rw [List.mem_singleton.1 h]; exact ⟨hx.1, hx.2⟩
  · intro k hk
    have hk' : g' = k := by simpa [Value.ownBlock] using hk
    subst hk'
    rcases y7 with e | e
    · exact .inl (y3.hl _ e)
    · exact .inr ⟨by rw [e]; exact hkW.size, by rw [hsz]; exact hgl⟩
  · simpa [Value.ownBlock] using nr
  · intro k hk e
    have hk' : g' = k := by simpa [Value.ownBlock] using e
    exact ns (by rw [hk, hk'])
  · intro k hk
    rcases hk with hk | hk
    · exact ⟨(h0.low k hk).1, Nat.lt_of_lt_of_le (h0.low k hk).2 hk5.size⟩
    · exact ⟨Nat.le_trans (Nat.le_of_lt (Nat.lt_of_le_of_lt (h0.low r h0.hr).1 (h0.low r h0.hr).2)) hk.1, hk.2⟩
  · have b4 : Bk w4 r #[sv, lv, .int .i64 (rleft d)] 40 := y3.at_r.grown y6 (fun e => y3.lr e.symm)
    have := b4.set 1 (.slice (some ⟨g', 0, none⟩) (d.L.length + 1) cap')
    simp at this
    exact this
  · show World.ownsRow _ B 9 1 sv d.S.length (rS d.S)
    refine ownsRow_kept (W := w4) (ownsRow_kept y3.at_s fun k hk hlt => y6.block k hlt (fun e => y3.sl k hk e.symm)) fun k hk _ => Below.heap_setCell _ _ _ _ (fun e => y3.sr (by rw [hk]; simp at e; rw [e]))
  · rw [hl, hf]
    refine ownsRow_kept y5 fun k hk _ => Below.heap_setCell _ _ _ _ ?_
    have hk' : g' = k := by simpa [Value.ownBlock] using hk
    subst hk'
    simpa using nr
end
section
variable {B : Nat} {F : Nat → Prop} {W : World} {r : Nat} {sv lv : Value} {d : Dsk}
theorem rwrite_down (b : Int) (str : ByteArray) (h : RefIn B F W r sv lv d) (hm : d.may ≠ 0) : Calls Try.prog 23 #[.pointer (some ⟨r, 0, none⟩), .int .i64 b, .string str] W fun e W' => e = .returned (.int .i64 50) ∧ W = W' := by
  have H := Lib.hid (fun w' (e : W = w') => e ▸ down_ref h)
  rw [show decide (d.may ≠ 0) = true by simpa using hm] at H
  clear h hm
  go_enter Try.func23, Try.ntmps23
  go_wp2_with (go_at_call 32; refine (H.out _ rfl).mono ?_; rintro e w' ⟨rfl, rfl⟩)
  go_ret
  exact ⟨rfl, rfl⟩
theorem rwrite_none (b : Int) (str : ByteArray) (h : RefIn B F W r sv lv d) (hm : d.may = 0) (hb : ¬ (0 ≤ b ∧ b < d.S.length)) : Calls Try.prog 23 #[.pointer (some ⟨r, 0, none⟩), .int .i64 b, .string str] W fun e W' => e = .returned (.int .i64 5) ∧ W = W' := by
  have H := Lib.hid (fun w' (e : W = w') => e ▸ down_ref h)
  have T := Lib.hid (fun w' (e : W = w') => e ▸ there_ref b h)
  rw [show decide (d.may ≠ 0) = false by simpa using hm] at H
  rw [show decide (0 ≤ b ∧ b < (d.S.length : Int)) = false by simpa using hb] at T
  clear h hm hb
  go_enter Try.func23, Try.ntmps23
  go_wp2_with fail
  refine (H.out _ rfl).mono ?_
  rintro e w' ⟨rfl, rfl⟩
  go_wp2_with fail
  refine (T.out _ rfl).mono ?_
  rintro e w' ⟨rfl, rfl⟩
  go_wp2_with fail
  go_ret
  exact ⟨rfl, rfl⟩
theorem rwrite_long (b : Int) (str : ByteArray) (h : RefIn B F W r sv lv d) (hm : d.may = 0) (hb : 0 ≤ b ∧ b < d.S.length) (hs : str.size ≠ 256) : Calls Try.prog 23 #[.pointer (some ⟨r, 0, none⟩), .int .i64 b, .string str] W fun e W' => e = .returned (.int .i64 2) ∧ W = W' := by
  have H := Lib.hid (fun w' (e : W = w') => e ▸ down_ref h)
  have T := Lib.hid (fun w' (e : W = w') => e ▸ there_ref b h)
  rw [show decide (d.may ≠ 0) = false by simpa using hm] at H
  rw [show decide (0 ≤ b ∧ b < (d.S.length : Int)) = true by simpa using hb] at T
  have hs' : ((str.size : Int) == 256) = false := by simp; omega
  clear h hm hb hs
  go_enter Try.func23, Try.ntmps23
  go_wp2_with fail
  refine (H.out _ rfl).mono ?_
  rintro e w' ⟨rfl, rfl⟩
  go_wp2_with fail
  refine (T.out _ rfl).mono ?_
  rintro e w' ⟨rfl, rfl⟩
  go_wp2_with fail
  go_ret
  exact ⟨rfl, rfl⟩
end
set_option maxRecDepth 100000 in
set_option maxHeartbeats 6400000 in
theorem rwrite_good {B : Nat} {F : Nat → Prop} {W : World} {r : Nat} {sv lv : Value} {d : Dsk} (b : Int) (str : ByteArray) (bs : List UInt8) (h : RefIn B F W r sv lv d) (hm : d.may = 0) (hb : 0 ≤ b ∧ b < d.S.length) (hs : bs.length = 256) (hbs : (⟨bs.toArray⟩ : ByteArray) = str) (hL : d.L.length ≤ 1000000) :
    Calls Try.prog 23 #[.pointer (some ⟨r, 0, none⟩), .int .i64 b, .string str] W fun e W' => e = .returned (.int .i64 0) ∧ RefHas B (Grow F W W') W' r (d.done.add b bs) ∧ Kept F W W' := by
  have H := Lib.hid (fun w' (e : W = w') => e ▸ down_ref h)
  have T := Lib.hid (fun w' (e : W = w') => e ▸ there_ref b h)
  have CN := Lib.hid (fun w' (e : W = w') => e ▸ counts_ref hm h)
  rw [show decide (d.may ≠ 0) = false by simpa using hm] at H
  rw [show decide (0 ≤ b ∧ b < (d.S.length : Int)) = true by simpa using hb] at T
  have hs' : ((str.size : Int) == 256) = true := by rw [← hbs]; show ((bs.toArray.size : Int) == 256) = true; rw [List.size_toArray, hs]; rfl
  have X := Lib.hid (And.intro h (And.intro hb (And.intro hs (And.intro hbs hL))))
  clear h hm hb hs hbs hL
  go_enter Try.func23, Try.ntmps23
  go_wp2_with fail
  refine (H.out _ rfl).mono ?_
  rintro e w' ⟨rfl, rfl⟩
  go_wp2_with fail
  refine (T.out _ rfl).mono ?_
  rintro e w' ⟨rfl, rfl⟩
  go_wp2_with fail
  refine (CN.out _ rfl).mono ?_
  rintro e w1 ⟨⟨v1, rfl⟩, hd1, hk1, hz1⟩
  clear H T CN
  obtain ⟨w3, hw3⟩ : ∃ w3, w3 = w1.alloc (.cells #[.int .i64 b, .string str] 42) := ⟨_, rfl⟩
  have b3 : Below w1.heap.size w1 w3 := hw3 ▸ (Below.refl _ _).alloc (Nat.le_refl _) _
  have n3 : Bk w3 w1.heap.size #[.int .i64 b, .string str] 42 := hw3 ▸ Bk.new w1 _ _
  have d3 := hd1.bel b3
  obtain ⟨g', cap', w4, hap, ho4, hg4, hwh⟩ := app_gen 38 38 42 2 24 _ Try.underlying38 info42 rfl (by omega) (by omega) ⟨w1.heap.size, 0, none⟩ (rcells (b, bs)) (show d.done.L.length ≤ 1000000 from X.out.2.2.2.2) d3.at_l rfl
    (fun j u hu => by
      rw [Addr.add_mid, Nat.zero_add, n3.cell, List.getElem?_toArray, ← X.out.2.2.2.1]
      exact hu) (by intro u hu; simp [rcells] at hu; rcases hu with rfl | rfl <;> rfl) (Nat.le_trans (d3.low r d3.hr).1 (Nat.le_of_lt (d3.low r d3.hr).2))
  have c1 : w1.cell? ⟨r, 1, none⟩ = some lv := hd1.cells.2.1
  have b4 : Bk w4 r #[sv, lv, .int .i64 (rleft d.done)] 40 := d3.at_r.grown hg4 (fun e => d3.lr e.symm)
  have c4 : w4.cell? ⟨r, 1, none⟩ = some lv := b4.cell 1
  have f4 : w4.frozen? ⟨r, 1, none⟩ = false := b4.free 1
  have AP := Lib.hid hap
  have HW3 := Lib.hid hw3
  have Y := Lib.hid (And.intro d3 (And.intro (hk1.trans (.of_below b3)) (And.intro ho4 (And.intro hg4 hwh))))
  clear hd1 hk1 hz1 b3 n3 d3 hap ho4 hg4 hwh b4 hw3
  go_wp2_with (with_reducible refine wpList_pl 20 rfl ?_)
  refine plv1 19 (v := ?_) (W' := ?_) (by rfl) (by rfl) (fun ev hc hf h0 => ?_) ?_; rotate_left 2; (focus (go_simp; constructor <;> with_reducible rfl)); simp only [Act.put, List.setIfInBounds_toArray, List.set_cons_zero, List.set_cons_succ]
  refine plv1 20 (v := ?_) (W' := ?_) (by rfl) (by rfl) (fun ev hc hf h0 => ?_) ?_; rotate_left 2; (focus (go_simp; constructor <;> with_reducible rfl)); simp only [Act.put, List.setIfInBounds_toArray, List.set_cons_zero, List.set_cons_succ]
  refine plv1 21 (v := ?_) (W' := ?_) (by rfl) (by rfl) (fun ev hc hf h0 => ?_) ?_; rotate_left 2; (focus (go_simp; constructor <;> with_reducible rfl)); simp only [Act.put, List.setIfInBounds_toArray, List.set_cons_zero, List.set_cons_succ]
  refine plv1 1 (v := ?_) (W' := ?_) (by rfl) (by rfl) (fun ev hc hf h0 => ?_) ?_; rotate_left 2; (focus (go_simp; constructor <;> with_reducible rfl)); simp only [Act.put, List.setIfInBounds_toArray, List.set_cons_zero, List.set_cons_succ]
  refine plv1 2 (v := ?_) (W' := ?_) (by rfl) (by rfl) (fun ev hc hf h0 => ?_) ?_; rotate_left 2; (focus (go_simp; constructor <;> with_reducible rfl)); simp only [Act.put, List.setIfInBounds_toArray, List.set_cons_zero, List.set_cons_succ]
  refine plv2 23 24 (v := ?_) (W' := ?_) (by rfl) (by rfl) (by rfl) (fun ev hc hf h0 h1 => ?_) ?_; rotate_left 2; (focus (go_simp; constructor <;> with_reducible rfl)); simp only [Act.put, List.setIfInBounds_toArray, List.set_cons_zero, List.set_cons_succ]
  refine plv1 25 (.slice (some ⟨w1.heap.size, 0, none⟩) 1 1) (W' := w3) (by rfl) (by rfl) (fun ev hc hf h0 => ?_) ?_
  · rw [HW3.out]
    go_simp
  simp only [Act.put, List.setIfInBounds_toArray, List.set_cons_zero, List.set_cons_succ]
  refine plv2 22 26 _ (by rfl) (by rfl) (by rfl) (fun ev hc hf h0 h1 => ex_app _ _ 38 rfl h0 h1 AP.out) ?_
  simp only [Act.put, List.setIfInBounds_toArray, List.set_cons_zero, List.set_cons_succ]
  refine PL.mk ?_
  go_wp2_with fail
  go_ret
  exact ⟨rfl, ref_addL ⟨sv, lv, X.out.1⟩ Y.out.1 Y.out.2.1 Y.out.2.2.1 Y.out.2.2.2.1 Y.out.2.2.2.2 ⟨X.out.2.2.1, X.out.2.1⟩⟩

end Go.Proofs.Ytbobbekbliichaa
