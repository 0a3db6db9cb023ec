import Derived.Test.YtbobbekbliichaaE6
import Derived.WalkMore
import Derived.Laws.CopyOwn
namespace Go.Proofs.Ytbobbekbliichaa
open Go.RowKit
set_option linter.unusedSimpArgs false
set_option linter.unusedVariables false


open Go.Lib (byteCells byteCells_length byteCells_one)
theorem flat_at {α : Type} (n : Nat) : ∀ (L : List (List α)), (∀ x ∈ L, x.length = n) → ∀ (i : Nat) (x : List α), L[i]? = some x → ∀ j, j < n → L.flatten[i * n + j]? = x[j]?
  | [], _, i, x, hx, _, _ => by simp at hx
  | y :: L, h, 0, x, hx, j, hj => by
    simp at hx
    subst hx
    rw [List.flatten_cons, Nat.zero_mul, Nat.zero_add, List.getElem?_append_left (by rw [h _ (by simp)]; exact hj)]
  | y :: L, h, i + 1, x, hx, j, hj => by
    have hy := h y (by simp)
    have ih := flat_at n L (fun z hz => h z (by simp [hz])) i x (by simpa using hx) j hj
    rw [List.flatten_cons, List.getElem?_append_right (by rw [hy, Nat.add_mul]; omega), hy, show (i + 1) * n + j - n = i * n + j by rw [Nat.add_mul]; omega]
    exact ih
theorem flatS_at {S : List (List UInt8)} (h : ∀ x ∈ S, x.length = 256) {i : Nat} {x : List UInt8} (hx : S[i]? = some x) (j : Nat) (hj : j < 256) : (flatS S)[i * 256 + j]? = (byteCells x)[j]? := by
  unfold flatS
  refine flat_at 256 _ ?_ i (byteCells x) (by simp [hx]) j hj
  intro y hy
  obtain ⟨z, hz, rfl⟩ := List.mem_map.1 hy
  rw [byteCells_length, h z hz]
theorem flatL_at {L : List (Int × List UInt8)} (h : ∀ x ∈ L, x.2.length = 256) {i : Nat} {x : Int × List UInt8} (hx : L[i]? = some x) (j : Nat) (hj : j < 257) : (flatL L)[i * 257 + j]? = (wcells x)[j]? := by
  unfold flatL
  refine flat_at 257 _ ?_ i (wcells x) (by simp [hx]) j hj
  intro y hy
  obtain ⟨z, hz, rfl⟩ := List.mem_map.1 hy
  exact wcells_len z.1 z.2 (h z hz)
section
variable {B : Nat} {F : Nat → Prop} {W : World} {g s : Nat} {lv : Value} {d : Dsk}
theorem DiskIn.range_s (h : DiskIn B F W g s lv d) {i : Nat} {x : List UInt8} (hx : d.S[i]? = some x) : W.rangeAt s (i * 256) (byteCells x) := fun j v hv => by
  have hl : x.length = 256 := h.ok.all x (List.mem_of_getElem? hx)
  have hj : j < 256 := by
    have := (List.getElem?_eq_some_iff.1 hv).1
    rw [byteCells_length, hl] at this
    exact this
  rw [h.at_s.cell]
  have := flatS_at h.ok.all hx j hj
  simpa [hv] using this
/-- Where the loose writes lie. -/
theorem DiskIn.loose (h : DiskIn B F W g s lv d) {i : Nat} {x : Int × List UInt8} (hx : d.L[i]? = some x) : ∃ gl cap, lv = .slice (some ⟨gl, 0, none⟩) d.L.length cap ∧ gl < W.heap.size ∧ ∀ i x, d.L[i]? = some x → W.rangeAt gl (i * 257) (wcells x) := by
  have hlt : i < d.L.length := (List.getElem?_eq_some_iff.1 hx).1
  rcases h.at_l.2 with ⟨_, h0⟩ | ⟨gl, cap, cur, e, _, hg, hc, _, hs, ht⟩
  · omega
  · refine ⟨gl, cap, e, (Array.getElem?_eq_some_iff.1 hg).1, fun i x hx j v hv => ?_⟩
    have hl : (wcells x).length = 257 := wcells_len x.1 x.2 (h.ok.loose x (List.mem_of_getElem? hx)).1
    have hj : j < 257 := by
      have := (List.getElem?_eq_some_iff.1 hv).1
      rw [hl] at this
      exact this
    have hi : i < d.L.length := (List.getElem?_eq_some_iff.1 hx).1
    rw [cell_of_row W gl _ _ _ _ hg]
    have h1 := flatL_at (fun x hx => (h.ok.loose x hx).1) hx j hj
    rw [← ht, List.getElem?_take_of_lt (Nat.lt_of_lt_of_le (show i * 257 + j < (i + 1) * 257 by rw [Nat.add_mul]; omega) (Nat.mul_le_mul_right _ hi))] at h1
    rw [← Array.getElem?_toList, h1, hv]
theorem DiskIn.lvs (h : DiskIn B F W g s lv d) : ∃ A cap, lv = .slice A d.L.length cap ∧ (d.L.length = 0 ∨ ∃ gl, A = some ⟨gl, 0, none⟩ ∧ gl < W.heap.size ∧ ∀ i x, d.L[i]? = some x → W.rangeAt gl (i * 257) (wcells x)) := by
  rcases Nat.eq_zero_or_pos d.L.length with h0 | h0
  · rcases h.at_l.2 with ⟨e, _⟩ | ⟨gl, cap, cur, e, _⟩
    · exact ⟨none, 0, by rw [e, h0], .inl h0⟩
    · exact ⟨_, cap, e, .inl h0⟩
  · obtain ⟨gl, cap, e, h1, h2⟩ := h.loose (List.getElem?_eq_getElem h0)
    exact ⟨_, cap, e, .inr ⟨gl, rfl, h1, h2⟩⟩
theorem rangeAt_bel {W W' : World} {b o : Nat} {cs : List Value} (h : W.rangeAt b o cs) (hb : Below W.heap.size W W') : W'.rangeAt b o cs := fun j v hv =>
  Bel.cell (show Bel W W' from hb) (h j v hv)
theorem wcells_range {W : World} {gl o : Nat} {x : Int × List UInt8} (h : W.rangeAt gl o (wcells x)) : W.cell? ⟨gl, o, none⟩ = some (.int .i64 x.1) ∧ W.rangeAt gl (o + 1) (byteCells x.2) := by
  refine ⟨?_, fun j v hv => ?_⟩
  · have := h 0 (.int .i64 x.1) (by simp [wcells])
    simpa using this
  · have := h (j + 1) v (by simpa [wcells] using hv)
    rw [show o + 1 + j = o + (j + 1) by omega]
    exact this
theorem str_bytes (bs : List UInt8) : strOfNums (bs.map (fun b => (b.toNat : Int))) = ⟨bs.toArray⟩ := by
  unfold strOfNums
  rw [List.map_map]
  congr 2
  conv => rhs; rw [← List.map_id bs]
  apply List.map_congr_left
  intro b _
  simp
theorem setCells_row {w : World} {g o : Nat} {cur : Array Value} {t : TypeId} {vs : List Value} (hg : Bk w g cur t) (hfit : o + vs.length ≤ cur.size) (h1 : ∀ v ∈ vs, v.oneCell' = true) :
    w.setCells g o vs = w.setRow g (cur.toList.take o ++ vs ++ cur.toList.drop (o + vs.length)).toArray := by
  have a := run_storeCells_at Try.prog g o t vs 0 cur w hg (by simpa using hfit) h1
  have b := run_storeCells_cells (P := Try.prog) g o vs 0 w (fun j hj => by
    rw [hg.cell, Nat.add_zero, Array.getElem?_eq_getElem (by omega)]; rfl) (fun j hj => hg.free _) h1
  rw [a] at b
  injection b with _ b
  simpa using b.symm
theorem Bk.splice {w : World} {g o : Nat} {cur : Array Value} {t : TypeId} {vs : List Value} (hg : Bk w g cur t) (hfit : o + vs.length ≤ cur.size) (h1 : ∀ v ∈ vs, v.oneCell' = true) :
    Bk (w.setCells g o vs) g (cur.toList.take o ++ vs ++ cur.toList.drop (o + vs.length)).toArray t := by
  rw [setCells_row hg hfit h1]
  exact setRow_heap w g cur _ t _ hg
theorem Bk.whole {w : World} {g : Nat} {cur : Array Value} {t : TypeId} {vs : List Value} (hg : Bk w g cur t) (hfit : vs.length = cur.size) (h1 : ∀ v ∈ vs, v.oneCell' = true) : Bk (w.setCells g 0 vs) g vs.toArray t := by
  have := hg.splice (o := 0) (vs := vs) (by omega) h1
  rw [List.take_zero, List.nil_append, Nat.zero_add, hfit, List.drop_of_length_le (by simp), List.append_nil] at this
  exact this
theorem there_of {w : World} {g : Nat} {cur : Array Value} {t : TypeId} (hg : Bk w g cur t) {o n : Nat} (hfit : o + n ≤ cur.size) : w.there g o n := fun j hj => by
  refine ⟨?_, hg.free _⟩
  rw [hg.cell, Array.getElem?_eq_getElem (by omega)]
  rfl
theorem bel_setCells {B : Nat} {a w : World} {g o : Nat} {cur : Array Value} {t : TypeId} {vs : List Value} (h : Below B a w) (hB : B ≤ g) (hg : Bk w g cur t) (hfit : o + vs.length ≤ cur.size) (h1 : ∀ v ∈ vs, v.oneCell' = true) : Below B a (w.setCells g o vs) := by
  rw [setCells_row hg hfit h1]
  exact below_setRow h hB _
theorem conv_bytes {w : World} {g : Nat} {t : TypeId} {bs : List UInt8} (hg : Bk w g (byteCells bs).toArray t) (hl : bs.length = 256) : (convert 61 9 (.slice (some ⟨g, 0, none⟩) 256 256)).run Try.prog w = .ok (.string ⟨bs.toArray⟩) w := by
  have := run_convert_bytes_arg (P := Try.prog) w 61 5 Try.underlying61 Try.underlying5 g 0 256 256 (bs.map (fun b => (b.toNat : Int))) (by rw [List.length_map, hl]) (fun i hi => by
    rw [Nat.zero_add, hg.cell, List.getElem?_toArray, List.getD_eq_getElem?_getD]
    unfold byteCells
    rw [List.getElem?_map, List.getElem?_map, List.getElem?_eq_getElem (by omega)]
    rfl) 9 Try.underlying9
  rw [str_bytes] at this
  exact this
theorem read_nil (b : Int) (W : World) : Calls Try.prog 20 #[.pointer none, .int .i64 b] W fun e W' => e = .returned (.tuple #[.string ⟨#[]⟩, .int .i64 1]) ∧ W = W' := by
  go_enter Try.func20, Try.ntmps20
  go_wp2
  go_step3
  go_wp2_with (go_at_call 29; refine (there_nil _ _).mono ?_; rintro e w' ⟨rfl, rfl⟩)
  rw [Exit.noGoto_ret]
  exact bodyPost_ret (v := .tuple #[.string ⟨#[]⟩, .int .i64 1]) (by simp [results, Try.results20, go_sem]) rfl ⟨rfl, rfl⟩
theorem read_bad (b : Int) (h : DiskIn B F W g s lv d) (hb : d.there b ≠ 0) : Calls Try.prog 20 #[.pointer (some ⟨g, 0, none⟩), .int .i64 b] W fun e W' => e = .returned (.tuple #[.string ⟨#[]⟩, .int .i64 (d.there b)]) ∧ W = W' := by
  have H := Lib.hid (fun w' (e : W = w') => e ▸ there_disk b h)
  obtain ⟨m, hm⟩ : ∃ m, d.there b = m := ⟨_, rfl⟩
  rw [hm] at H hb ⊢
  have hb' : (m == 0) = false := by simpa using hb
  clear hm h hb
  go_enter Try.func20, Try.ntmps20
  go_wp2
  go_step3
  go_wp2_with (go_at_call 29; refine (H.out _ rfl).mono ?_; rintro e w' ⟨rfl, rfl⟩)
  rw [Exit.noGoto_ret]
  exact bodyPost_ret (v := .tuple #[.string ⟨#[]⟩, .int .i64 m]) (by simp [results, Try.results20, go_sem]) rfl ⟨rfl, rfl⟩
end
theorem wrap64_small (n : Nat) (h : n ≤ 1000000) : wrap64 ((n : Int) - 1) = (n : Int) - 1 := by
  unfold wrap64
  omega
def Dsk.get (d : Dsk) (b : Int) : List UInt8 := ((d.L.reverse.find? (fun x => x.1 == b)).map (·.2)).getD (d.S.getD b.toNat [])
theorem get_none (d : Dsk) (b : Int) (h : ∀ x ∈ d.L, x.1 ≠ b) : d.get b = d.S.getD b.toNat [] := by
  unfold Dsk.get
  rw [List.find?_eq_none.2 (fun x hx => by simpa using h x (List.mem_reverse.1 hx))]
  rfl
theorem get_some (d : Dsk) (b : Int) (i : Nat) (x : Int × List UInt8) (hx : d.L[i]? = some x) (he : x.1 = b) (h : ∀ j y, i < j → d.L[j]? = some y → y.1 ≠ b) : d.get b = x.2 := by
  unfold Dsk.get
  have hi := (List.getElem?_eq_some_iff.1 hx).1
  have hsp : d.L.reverse = (d.L.drop (i + 1)).reverse ++ x :: (d.L.take i).reverse := by
    conv => lhs; rw [← List.take_append_drop i d.L]
    rw [List.reverse_append, List.drop_eq_getElem_cons hi, (List.getElem?_eq_some_iff.1 hx).2]
    simp
  rw [hsp, List.find?_append, List.find?_eq_none.2 (fun y hy => by
    rw [List.mem_reverse] at hy
    obtain ⟨k, hk⟩ := List.mem_iff_getElem?.1 hy
    rw [List.getElem?_drop] at hk
    simpa using h (i + 1 + k) y (by omega) hk)]
  simp [he]
set_option maxRecDepth 100000 in
set_option maxHeartbeats 6400000 in
theorem read_good {B : Nat} {F : Nat → Prop} {W : World} {g s : Nat} {lv : Value} {d : Dsk} (b : Nat) (str : ByteArray) (hstr : (⟨(d.get b).toArray⟩ : ByteArray) = str) (h : DiskIn B F W g s lv d) (hb : d.there b = 0) (hL : d.L.length ≤ 1000000) :
    Calls Try.prog 20 #[.pointer (some ⟨g, 0, none⟩), .int .i64 b] W fun e W' => e = .returned (.tuple #[.string str, .int .i64 0]) ∧ Below W.heap.size W W' := by
  have hmay : d.may = 0 := by
    unfold Dsk.there at hb
    split at hb
    · assumption
    · exact hb
  have hrange : b < d.S.length := by
    unfold Dsk.there at hb
    rw [if_pos hmay] at hb
    split at hb
    · simp at hb
    · omega
  have H := Lib.hid (fun w' (e : W = w') => e ▸ hb ▸ there_disk b h)
  obtain ⟨x0, hx0⟩ : ∃ x, d.S[b]? = some x := ⟨_, List.getElem?_eq_getElem hrange⟩
  have hl0 : x0.length = 256 := h.ok.all x0 (List.mem_of_getElem? hx0)
  have RS := Lib.hid (h.range_s hx0)
  have c0 := h.cells.1
  have c1 := h.cells.2.1
  have hbl : (b : Int) < (d.S.length : Int) := by omega
  have X := Lib.hid (And.intro h (And.intro hb (And.intro hL (And.intro hx0 (And.intro hl0 hstr)))))
  clear h hb hL hmay hrange hx0 hl0 hstr
  go_enter Try.func20, Try.ntmps20
  go_wp2
  go_step3
  go_wp2_with fail
  refine (H.out _ rfl).mono ?_
  rintro e w' ⟨rfl, rfl⟩
  go_wp2_with (with_reducible refine wpList_pl 16 rfl ?_)
  refine plv1 15 (v := ?_) (W' := ?_) (by rfl) (by rfl) (fun ev hc hf h0 => ?_) ?_; rotate_left 2; (focus (go_simp; constructor <;> with_reducible rfl)); simp only [Act.put, List.setIfInBounds_toArray, List.set_cons_zero, List.set_cons_succ]
  refine plv1 16 (v := ?_) (W' := ?_) (by rfl) (by rfl) (fun ev hc hf h0 => ?_) ?_; rotate_left 2; (focus (go_simp; constructor <;> with_reducible rfl)); simp only [Act.put, List.setIfInBounds_toArray, List.set_cons_zero, List.set_cons_succ]
  refine plv1 17 (v := ?_) (W' := ?_) (by rfl) (by rfl) (fun ev hc hf h0 => ?_) ?_; rotate_left 2; (focus (go_simp; constructor <;> with_reducible rfl)); simp only [Act.put, List.setIfInBounds_toArray, List.set_cons_zero, List.set_cons_succ]
  refine plv1 1 (v := ?_) (W' := ?_) (by rfl) (by rfl) (fun ev hc hf h0 => ?_) ?_; rotate_left 2; (focus (go_simp; constructor <;> with_reducible rfl)); simp only [Act.put, List.setIfInBounds_toArray, List.set_cons_zero, List.set_cons_succ]
  refine plv2 18 19 (v := ?_) (W' := ?_) (by rfl) (by rfl) (by rfl) (fun ev hc hf h0 h1 => ?_) ?_; rotate_left 2; (focus (go_simp; constructor <;> with_reducible rfl)); simp only [Act.put, List.setIfInBounds_toArray, List.set_cons_zero, List.set_cons_succ]
  refine plv1 20 _ (by rfl) (by rfl) (fun ev hc hf h0 => ex_load 69 _ _ s (b * 256) (byteCells x0) rfl h0 RS.out Try.underlying69 rfl (by rw [byteCells_length, X.out.2.2.2.2.1]; kernel_rfl)) ?_
  simp only [Act.put, List.setIfInBounds_toArray, List.set_cons_zero, List.set_cons_succ]
  refine plv0 _ (by rfl) (fun ev hc hf => ex_alloc69 rfl) ?_
  simp only [Act.put, List.setIfInBounds_toArray, List.set_cons_zero, List.set_cons_succ]
  refine pls2 7 21 (by rfl) (by rfl) (by rfl) (fun ev hc hf h0 h1 => ex_store_new 69 _ _ bzero (byteCells x0).toArray rfl h0 h1 (by rw [List.size_toArray, byteCells_length, X.out.2.2.2.2.1]; kernel_rfl) (by rw [bzero_size, List.size_toArray, byteCells_length, X.out.2.2.2.2.1]) (all_oneCell_toArray (byteCells_one x0))) ?_
  simp only [Act.put, List.setIfInBounds_toArray, List.set_cons_zero, List.set_cons_succ]
  refine pl_nil ?_
  have hb1 : Below W.heap.size W (W.alloc (.cells (byteCells x0).toArray 69)) := (Below.refl _ _).alloc (Nat.le_refl _) _
  have hk1 : Bk (W.alloc (.cells (byteCells x0).toArray 69)) W.heap.size (byteCells x0).toArray 69 := Bk.new W _ _
  generalize (W.alloc (.cells (byteCells x0).toArray 69)) = w1 at hb1 hk1 ⊢
  obtain ⟨A, cap, hlv, hA⟩ := X.out.1.lvs
  have HA := Lib.hid hA
  have HW := Lib.hid (And.intro hb1 hk1)
  have c1' : w1.cell? ⟨g, 1, none⟩ = some (.slice A d.L.length cap) := by rw [← hlv]; exact Bel.cell (show Bel W w1 from hb1) c1
  have C1 := Lib.hid (show W.cell? ⟨g, 1, none⟩ = some (.slice A d.L.length cap) from hlv ▸ c1)
  clear c0 c1 hlv hA hb1 hk1 hbl RS H
  go_wp2
  go_step3
  go_wp2_with fail
  clear c1'
  go_loopw [8] (fun i wr => ∃ k : Nat, k ≤ d.L.length ∧ i = .int .i64 ((k : Int) - 1) ∧ (∀ j y, k ≤ j → d.L[j]? = some y → y.1 ≠ (b : Int)) ∧ Bk wr W.heap.size (byteCells x0).toArray 69 ∧ Below W.heap.size W wr) (fun i _ => (intOf i + 1).toNat)
  case atStart =>
    refine ⟨d.L.length, Nat.le_refl _, ?_, fun j y hj hy => ?_, HW.out.2, HW.out.1⟩
    · rw [wrap64_small d.L.length X.out.2.2.1]
    · have := (List.getElem?_eq_some_iff.1 hy).1
      omega
  case round =>
    obtain ⟨k, hk, rfl, hno, hbk, HB⟩ := hrel
    have c1 := Bel.cell (show Bel W wr from HB) C1.out
    cases k with
    | zero =>
      have hget : d.get (b : Int) = x0 := by
        rw [get_none d b (fun x hx => by
          obtain ⟨j, hj⟩ := List.mem_iff_getElem?.1 hx
          exact hno j x (Nat.zero_le _) hj)]
        rw [Int.toNat_natCast, List.getD_eq_getElem?_getD, X.out.2.2.2.1]
        rfl
      have hcv := conv_bytes hbk X.out.2.2.2.2.1
      rw [← hget, X.out.2.2.2.2.2] at hcv
      have HBB := Lib.hid HB
      clear hno hbk HB hget
      go_wp2_with fail
      rw [Exit.noGoto_ret]
      exact bodyPost_ret (v := .tuple #[.string str, .int .i64 0]) (by simp [results, Try.results20, go_sem]) rfl ⟨rfl, HBB.out⟩
    | succ j =>
      have e : ((j + 1 : Nat) : Int) - 1 = (j : Int) := by omega
      rw [e]
      obtain ⟨gl, rfl, hgl, hr⟩ : ∃ gl, A = some ⟨gl, 0, none⟩ ∧ gl < W.heap.size ∧ ∀ i x, d.L[i]? = some x → W.rangeAt gl (i * 257) (wcells x) := by
        rcases HA.out with h | h
        · omega
        · exact h
      obtain ⟨y, hy⟩ : ∃ y, d.L[j]? = some y := ⟨_, List.getElem?_eq_getElem (by omega)⟩
      obtain ⟨cy, ry⟩ := wcells_range (hr j y hy)
      have cyr := Bel.cell (show Bel W wr from HB) cy
      have ryr := rangeAt_bel ry HB
      have hjl : (j : Int) < (d.L.length : Int) := by omega
      by_cases hyb : y.1 = (b : Int)
      · have hget : d.get (b : Int) = y.2 := get_some d b j y hy hyb (fun i z hi hz => hno i z hi hz)
        have hyl : y.2.length = 256 := (X.out.1.ok.loose y (List.mem_of_getElem? hy)).1
        rw [hyb] at cyr
        have RY := Lib.hid ryr
        have HBK := Lib.hid hbk
        have HBB := Lib.hid HB
        have HG := Lib.hid (And.intro hget hyl)
        clear hr cy ry ryr hno hbk HB hget hyl hy hyb e
        go_wp2_with (with_reducible refine wpList_pl 43 rfl ?_)
        refine plv1 42 (v := ?_) (W' := ?_) (by rfl) (by rfl) (fun ev hc hf h0 => ?_) ?_; rotate_left 2; (focus (go_simp; constructor <;> with_reducible rfl)); simp only [Act.put, List.setIfInBounds_toArray, List.set_cons_zero, List.set_cons_succ]
        refine plv1 43 (v := ?_) (W' := ?_) (by rfl) (by rfl) (fun ev hc hf h0 => ?_) ?_; rotate_left 2; (focus (go_simp; constructor <;> with_reducible rfl)); simp only [Act.put, List.setIfInBounds_toArray, List.set_cons_zero, List.set_cons_succ]
        refine plv1 44 (v := ?_) (W' := ?_) (by rfl) (by rfl) (fun ev hc hf h0 => ?_) ?_; rotate_left 2; (focus (go_simp; constructor <;> with_reducible rfl)); simp only [Act.put, List.setIfInBounds_toArray, List.set_cons_zero, List.set_cons_succ]
        refine plv1 8 (v := ?_) (W' := ?_) (by rfl) (by rfl) (fun ev hc hf h0 => ?_) ?_; rotate_left 2; (focus (go_simp; constructor <;> with_reducible rfl)); simp only [Act.put, List.setIfInBounds_toArray, List.set_cons_zero, List.set_cons_succ]
        refine plv2 45 46 (v := ?_) (W' := ?_) (by rfl) (by rfl) (by rfl) (fun ev hc hf h0 h1 => ?_) ?_; rotate_left 2; (focus (go_simp; constructor <;> with_reducible rfl)); simp only [Act.put, List.setIfInBounds_toArray, List.set_cons_zero, List.set_cons_succ]
        refine plv1 47 (v := ?_) (W' := ?_) (by rfl) (by rfl) (fun ev hc hf h0 => ?_) ?_; rotate_left 2; (focus (go_simp; constructor <;> with_reducible rfl)); simp only [Act.put, List.setIfInBounds_toArray, List.set_cons_zero, List.set_cons_succ]
        refine plv1 48 _ (by rfl) (by rfl) (fun ev hc hf h0 => ex_load 69 _ _ gl (j * 257 + 1) (byteCells y.2) rfl h0 RY.out Try.underlying69 rfl (by rw [byteCells_length, HG.out.2]; kernel_rfl)) ?_
        simp only [Act.put, List.setIfInBounds_toArray, List.set_cons_zero, List.set_cons_succ]
        have hs256 : (byteCells y.2).length = (byteCells x0).toArray.size := by rw [List.size_toArray, byteCells_length, byteCells_length, HG.out.2, X.out.2.2.2.2.1]
        refine pls2 7 49 (by rfl) (by rfl) (by rfl) (fun ev hc hf h0 h1 => ex_store 69 _ _ W.heap.size 0 (byteCells y.2).toArray rfl h0 h1 (there_of HBK.out (by rw [Nat.zero_add, List.size_toArray, hs256]; exact Nat.le_refl _)) (by rw [List.size_toArray, byteCells_length, HG.out.2]; kernel_rfl) (all_oneCell_toArray (byteCells_one y.2))) ?_
        simp only [Act.put, List.setIfInBounds_toArray, List.set_cons_zero, List.set_cons_succ]
        refine pl_nil ?_
        have hbk2 := HBK.out.whole hs256 (byteCells_one y.2)
        have hbb2 := bel_setCells HBB.out (Nat.le_refl _) HBK.out (o := 0) (vs := byteCells y.2) (by rw [Nat.zero_add, hs256]; exact Nat.le_refl _) (byteCells_one y.2)
        (try simp only [List.toList_toArray])
        generalize wr.setCells W.heap.size 0 (byteCells y.2) = w5 at hbk2 hbb2 ⊢
        have hcv := conv_bytes hbk2 HG.out.2
        rw [← HG.out.1, X.out.2.2.2.2.2] at hcv
        have HB5 := Lib.hid hbb2
        clear hbk2 hbb2 hs256 c1 cyr
        go_wp2_with fail
        rw [Exit.noGoto_ret]
        exact bodyPost_ret (v := .tuple #[.string str, .int .i64 0]) (by simp [results, Try.results20, go_sem]) rfl ⟨rfl, HB5.out⟩
      · have hyb' : (y.1 == (b : Int)) = false := by simpa using hyb
        have HNO := Lib.hid (And.intro hno (And.intro hbk (And.intro HB (And.intro hy hyb))))
        clear hr cy ry ryr hno hbk HB hy hyb
        go_wp2_with fail
        obtain ⟨hno, hbk, HB, hy, hyb⟩ := HNO.out
        refine ⟨⟨j, by omega, ?_, ?_, hbk, HB⟩, ?_⟩
        · rw [wrap64_small j (by have := X.out.2.2.1; omega)]
        · intro i z hi hz
          rcases Nat.lt_or_ge j i with h | h
          · exact hno i z h hz
          · obtain rfl : i = j := by omega
            rw [hy] at hz
            injection hz with hz
            rw [← hz]
            exact hyb
        · have hw := wrap64_small j (by have := X.out.2.2.1; omega)
          simp [intOf, hw]

end Go.Proofs.Ytbobbekbliichaa
