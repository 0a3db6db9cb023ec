import Derived.Test.YtbobbekbliichaaE8
namespace Go.Proofs.Ytbobbekbliichaa
open Go.RowKit
set_option linter.unusedSimpArgs false
set_option linter.unusedVariables false


open Go.Lib (byteCells byteCells_length byteCells_one)
theorem info3 : (Try.prog.info? 3).map (fun i => (i.zero, i.size, i.bytes)) = some (some (.int .i64 0), 1, 8) := by kernel_rfl
/-- One int goes onto a row of one's own. -/
theorem app33 {W : World} {B n : Nat} {v : Value} {xs : List Value} (ty : TypeId) (ad : Addr) (p : Int) (hn : n ≤ 1000000) (hown : W.ownsRow B 3 1 v n xs) (hc : W.cell? ad = some (.int .i64 p)) (hB : B ≤ W.heap.size) :
    ∃ v' W', (Builtin.append_ #[33, 33] ty #[v, .slice (some ad) 1 1]).run Try.prog W = .ok v' W' ∧ W'.ownsRow B 3 1 v' (n + 1) (xs ++ [.int .i64 p]) ∧ W.grownBy W' v.ownBlock := by
  obtain ⟨i, hi, hz, hsz, hb⟩ := info_of info3
  obtain ⟨v', W', hr, h2, h3, h4⟩ := run_append_own (P := Try.prog) W B 33 ty 3 i _ 1 8 Try.underlying33 hi hz hsz hb rfl (by omega) v n xs hown ad 1 1 [.int .i64 p] rfl (fun j u hu => by
    cases j with
    | zero =>
      simp at hu
      subst hu
      have : ad.add 0 = ad := by unfold Addr.add; split <;> simp_all
      rw [this]; exact hc
    | succ j => simp at hu) (by simp [Value.oneCell']) (by simp [maxLen]; omega) (by omega) hB
  exact ⟨v', W', hr, h2, h3⟩
/-- The answer of Loose. -/
def LooseIs (W : World) (L : List (Int × List UInt8)) (e : Ending) (W' : World) : Prop :=
  ∃ A c, e = .returned (.slice A L.length c) ∧ W'.ownsRow W.heap.size 3 1 (.slice A L.length c) L.length (L.map fun x => .int .i64 x.1) ∧ Below W.heap.size W W'
theorem loose_nil (W : World) : Calls Try.prog 12 #[.pointer none] W fun e W' => e = .returned (.slice none 0 0) ∧ W = W' := by
  go_enter Try.func12, Try.ntmps12
  go_wp2_with (go_at_call 28; refine (none_nil _).mono ?_; rintro e w' ⟨rfl, rfl⟩)
  go_ret
  exact ⟨rfl, rfl⟩
theorem ownsRow_form {W : World} {B n : Nat} {e : TypeId} {v : Value} {xs : List Value} (h : W.ownsRow B e 1 v n xs) : ∃ A c, v = .slice A n c := by
  rcases h.2 with ⟨rfl, rfl⟩ | ⟨g, cap, cur, rfl, _⟩
  · exact ⟨none, 0, rfl⟩
  · exact ⟨_, _, rfl⟩
theorem below_grown {B : Nat} {w w1 w2 : World} {v : Value} {e : TypeId} {n : Nat} {xs : List Value} (h : Below B w w1) (k : w1.grownBy w2 v.ownBlock) (hB : B ≤ w1.heap.size) (ho : w1.ownsRow B e 1 v n xs) : Below B w w2 := by
  refine h.grown k hB (fun j e => ?_)
  rcases ho.2 with ⟨rfl, rfl⟩ | ⟨g, cap, cur, rfl, hg, _⟩
  · simp [Value.ownBlock] at e
  · simp [Value.ownBlock] at e; omega
set_option maxRecDepth 100000 in
set_option maxHeartbeats 6400000 in
theorem loose_disk {B : Nat} {F : Nat → Prop} {W : World} {g s : Nat} {lv : Value} {d : Dsk} (h : DiskIn B F W g s lv d) (hL : d.L.length ≤ 1000000) :
    Calls Try.prog 12 #[.pointer (some ⟨g, 0, none⟩)] W (LooseIs W d.L) := by
  have H := Lib.hid (fun w' (e : W = w') => e ▸ none_any h)
  obtain ⟨AL, cap, hlv, hA⟩ := h.lvs
  have c1 : W.cell? ⟨g, 1, none⟩ = some (.slice AL d.L.length cap) := hlv ▸ h.cells.2.1
  have X := Lib.hid (And.intro h (And.intro hL (And.intro hA hlv)))
  clear h hL hlv hA
  go_enter Try.func12, Try.ntmps12
  go_wp2_with fail
  refine (H.out _ rfl).mono ?_
  rintro e w' ⟨rfl, rfl⟩
  go_wp2_with fail
  clear c1 H
  go_loopw [2, 12] (fun v i wr => ∃ (k : Nat), k ≤ d.L.length ∧ i = .int .i64 k ∧ wr.ownsRow W.heap.size 3 1 v k ((d.L.take k).map fun x => .int .i64 x.1) ∧ Below W.heap.size W wr) (fun v i _ => d.L.length - (intOf i).toNat)
  case atStart => exact ⟨0, Nat.zero_le _, rfl, World.ownsRow_nil _ _ _ _, Below.refl _ _⟩
  case round =>
    obtain ⟨k, hk, rfl, hO, HB⟩ := hrel
    by_cases hlt : k < d.L.length
    · have hki : (k : Int) < (d.L.length : Int) := by omega
      have hkb : (k : Int) ≤ 1000000 := by have := X.out.2.1; omega
      obtain ⟨gl, rfl, hgl, hr⟩ : ∃ gl, AL = some ⟨gl, 0, none⟩ ∧ gl < W.heap.size ∧ ∀ i x, d.L[i]? = some x → W.rangeAt gl (i * 257) (wcells x) := by
        rcases X.out.2.2.1 with h | h
        · omega
        · exact h
      obtain ⟨x, hx⟩ : ∃ x, d.L[k]? = some x := ⟨_, List.getElem?_eq_getElem hlt⟩
      have hxo := X.out.1.ok.loose x (List.mem_of_getElem? hx)
      have hxl := wcells_len x.1 x.2 hxo.1
      have RX := Lib.hid (And.intro (rangeAt_bel (hr k x hx) HB) hxl)
      have HX := Lib.hid (And.intro hx hxo)
      have Y := Lib.hid (And.intro hk (And.intro hO (And.intro HB hlt)))
      clear hr hx hxo hxl hgl hlt hk hO HB
      go_wp2_with (with_reducible refine wpList_pl 14 rfl ?_)
      refine plv2 10 12 (v := ?_) (W' := ?_) (by rfl) (by rfl) (by rfl) (fun ev hc hf h0 h1 => ?_) ?_; rotate_left 2; (focus (go_simp; constructor <;> with_reducible rfl)); simp only [Act.put, List.setIfInBounds_toArray, List.set_cons_zero, List.set_cons_succ]
      refine plv1 14 _ (by rfl) (by rfl) (fun ev hc hf h0 => ex_load 71 _ _ gl (k * 257) (wcells x) rfl h0 RX.out.1 Try.underlying71 rfl (by rw [RX.out.2]; kernel_rfl)) ?_
      simp only [Act.put, List.setIfInBounds_toArray, List.set_cons_zero, List.set_cons_succ]
      refine plv0 _ (by rfl) (fun ev hc hf => ex_alloc71 rfl) ?_
      simp only [Act.put, List.setIfInBounds_toArray, List.set_cons_zero, List.set_cons_succ]
      refine pls2 4 15 (by rfl) (by rfl) (by rfl) (fun ev hc hf h0 h1 => ex_store_new 71 _ _ wzero (wcells x).toArray rfl h0 h1 (by rw [List.size_toArray, RX.out.2]; kernel_rfl) (by rw [wzero_size, List.size_toArray, RX.out.2]) (all_oneCell_toArray (wcells_one x.1 x.2))) ?_
      simp only [Act.put, List.setIfInBounds_toArray, List.set_cons_zero, List.set_cons_succ]
      refine pl_nil ?_
      obtain ⟨w2, hw2⟩ : ∃ w2, w2 = wr.alloc (.cells (wcells x).toArray 71) := ⟨_, rfl⟩
      rw [← hw2]
      have b2 : Below wr.heap.size wr w2 := hw2 ▸ (Below.refl _ _).alloc (Nat.le_refl _) _
      have n2 : Bk w2 wr.heap.size (wcells x).toArray 71 := hw2 ▸ Bk.new wr _ _
      have x2 : w2.cell? ⟨wr.heap.size, 0, none⟩ = some (.int .i64 x.1) := n2.cell 0
      obtain ⟨w3, hw3⟩ : ∃ w3, w3 = w2.alloc (.cells #[.int .i64 x.1] 3) := ⟨_, rfl⟩
      have b3 : Below wr.heap.size wr w3 := hw3 ▸ b2.alloc b2.size _
      have n3 : Bk w3 w2.heap.size #[.int .i64 x.1] 3 := hw3 ▸ Bk.new w2 _ _
      have x3 : w3.cell? ⟨w2.heap.size, 0, none⟩ = some (.int .i64 x.1) := n3.cell 0
      have o3 := ownsRow_bel Y.out.2.1 b3
      have hsz3 : W.heap.size ≤ w3.heap.size := Nat.le_trans Y.out.2.2.1.size b3.size
      have B3 : Below W.heap.size W w3 := Y.out.2.2.1.trans (b3.mono Y.out.2.2.1.size)
      obtain ⟨v', w4, hap, o4, g4⟩ := app33 33 ⟨w2.heap.size, 0, none⟩ x.1 (by have := X.out.2.1; omega) o3 x3 hsz3
      have B4 := below_grown B3 g4 hsz3 o3
      have AP := Lib.hid hap
      have HW3 := Lib.hid hw3
      have Z := Lib.hid (And.intro o4 B4)
      clear b2 n2 hw2 hw3 b3 n3 x3 o3 hsz3 B3 hap o4 g4 B4
      go_wp2_with (with_reducible refine wpList_pl 17 rfl ?_)
      refine plv1 4 (v := ?_) (W' := ?_) (by rfl) (by rfl) (fun ev hc hf h0 => ?_) ?_; rotate_left 2; (focus (go_simp; constructor <;> with_reducible rfl)); simp only [Act.put, List.setIfInBounds_toArray, List.set_cons_zero, List.set_cons_succ]
      refine plv1 17 (v := ?_) (W' := ?_) (by rfl) (by rfl) (fun ev hc hf h0 => ?_) ?_; rotate_left 2; (focus (go_simp; constructor <;> with_reducible rfl)); simp only [Act.put, List.setIfInBounds_toArray, List.set_cons_zero, List.set_cons_succ]
      refine plv1 18 (.slice (some ⟨w2.heap.size, 0, none⟩) 1 1) (W' := w3) (by rfl) (by rfl) (fun ev hc hf h0 => ?_) ?_
      · rw [HW3.out]
        go_simp
      simp only [Act.put, List.setIfInBounds_toArray, List.set_cons_zero, List.set_cons_succ]
      refine plv2 16 19 _ (by rfl) (by rfl) (by rfl) (fun ev hc hf h0 h1 => ex_app _ _ 33 rfl h0 h1 AP.out) ?_
      simp only [Act.put, List.setIfInBounds_toArray, List.set_cons_zero, List.set_cons_succ]
      refine plv1 20 (v := ?_) (W' := ?_) (by rfl) (by rfl) (fun ev hc hf h0 => ?_) ?_; rotate_left 2; (focus (go_simp; constructor <;> with_reducible rfl)); simp only [Act.put, List.setIfInBounds_toArray, List.set_cons_zero, List.set_cons_succ]
      refine pl_nil ?_
      go_wp2_with fail
      refine ⟨⟨k + 1, by have := Y.out.2.2.2; omega, by simp, ?_, Z.out.2⟩, ?_⟩
      · have hk := Y.out.2.2.2
        have : d.L.take (k + 1) = d.L.take k ++ [x] := by rw [List.take_add_one, HX.out.1]; rfl
        rw [this, List.map_append]
        exact Z.out.1
      · simp [intOf]
        have := Y.out.2.2.2
        omega
    · obtain rfl : k = d.L.length := by omega
      rw [List.take_length] at hO
      obtain ⟨A, c, rfl⟩ := ownsRow_form hO
      have Q := Lib.hid (And.intro hO HB)
      clear hO HB hlt hk
      go_wp2_with fail
      go_ret
      exact ⟨A, c, rfl, Q.out.1, Q.out.2⟩

end Go.Proofs.Ytbobbekbliichaa
