import Derived.Test.YtbobbekbliichaaE22
import Derived.StillTail
namespace Go.Proofs.Ytbobbekbliichaa
open Go.RowKit
set_option linter.unusedSimpArgs false
set_option linter.unusedVariables false


open Go.Lib (byteCells byteCells_length byteCells_one)
/-- The still walk, shut. -/
structure SQ (ops : Array Oper) (w : World) (Q : Act → Prop) (l : List Oper) (a : Act) : Prop where
  out : wpStill Try.prog ops w Q l a
section
variable {ops : Array Oper} {w : World} {Q : Act → Prop} {a : Act} {o : Oper} {rest : List Oper}
theorem sq_nil (h : Q a) : SQ ops w Q [] a := ⟨wpStill_nil h⟩
theorem sq_val (v : Value) (hw : Region.wanted o (yielded ops a.tmps) = true) (hv : (execOp a.eval o).run Try.prog w = .ok (.value v) w) (h : SQ ops w Q rest (a.put o.dst v)) : SQ ops w Q (o :: rest) a := by
  constructor
  unfold wpStill
  rw [if_pos hw]
  unfold Oper.still
  rw [hv, Oper.stillUpon_value]
  exact h.out

theorem sqv0 (v : Value) (hw : Region.wanted o (yielded ops a.tmps) = true)  (hv : ∀ ev : Operand → Value, (∀ v, ev (.const v) = v) → (∀ f, ev (.func f) = .func (.func f) #[] #[]) → (execOp ev o).run Try.prog w = .ok (.value v) w) (h : SQ ops w Q rest (a.put o.dst v)) : SQ ops w Q (o :: rest) a :=
  sq_val v hw (hv a.eval (fun _ => rfl) (fun _ => rfl) ) h

theorem sqv1 (n0 : Nat) {x0 : Value} (v : Value) (hw : Region.wanted o (yielded ops a.tmps) = true) (h0 : a.tmps.toList[n0]? = some x0) (hv : ∀ ev : Operand → Value, (∀ v, ev (.const v) = v) → (∀ f, ev (.func f) = .func (.func f) #[] #[]) → ev (.tmp n0) = x0 → (execOp ev o).run Try.prog w = .ok (.value v) w) (h : SQ ops w Q rest (a.put o.dst v)) : SQ ops w Q (o :: rest) a :=
  sq_val v hw (hv a.eval (fun _ => rfl) (fun _ => rfl) (slot_eval h0)) h

theorem sqv2 (n0 n1 : Nat) {x0 x1 : Value} (v : Value) (hw : Region.wanted o (yielded ops a.tmps) = true) (h0 : a.tmps.toList[n0]? = some x0) (h1 : a.tmps.toList[n1]? = some x1) (hv : ∀ ev : Operand → Value, (∀ v, ev (.const v) = v) → (∀ f, ev (.func f) = .func (.func f) #[] #[]) → ev (.tmp n0) = x0 → ev (.tmp n1) = x1 → (execOp ev o).run Try.prog w = .ok (.value v) w) (h : SQ ops w Q rest (a.put o.dst v)) : SQ ops w Q (o :: rest) a :=
  sq_val v hw (hv a.eval (fun _ => rfl) (fun _ => rfl) (slot_eval h0) (slot_eval h1)) h

end
/-- A region that draws its order: a head that only looks, a tail in the text's order. -/
theorem wp_sq (n : Nat) {id : Nat} {Q : Exit → Act → World → Prop} {a : Act} {w : World} {l : List Oper} (hB : Region.lexTailB .any l.toArray n = true)
    (h : SQ l.toArray w.drew (fun a' => wpList Try.prog l.toArray Q (l.drop n) a' w.drew) (l.take n) a) : (Code.region id l.toArray true).wp Try.prog Q a w :=
  wp_region_still_tail n (by kernel_rfl) hB h.out
theorem ownsRow_set {W : World} {B e g n cap i : Nat} {xs : List Value} (u : Value) (h : W.ownsRow B e 1 (.slice (some ⟨g, 0, none⟩) n cap) n xs) (hi : i < n) : (W.setCell ⟨g, i, none⟩ u).ownsRow B e 1 (.slice (some ⟨g, 0, none⟩) n cap) n (xs.set i u) := by
  obtain ⟨h1, h2⟩ := h
  refine ⟨by rw [List.length_set]; exact h1, ?_⟩
  rcases h2 with ⟨e, _⟩ | ⟨q, c, cur, e, hB, hq, hc, hm, hs, ht⟩
  · simp at e
  · injection e with e1 e2 e3
    injection e1 with e1
    injection e1 with e1
    subst e1 e3
    refine .inr ⟨g, cap, cur.setIfInBounds i u, rfl, hB, ?_, hc, hm, by simpa using hs, ?_⟩
    · have := (show Bk W g cur e from hq).set i u
      exact this
    · rw [← ht, Array.toList_setIfInBounds, List.take_set]
theorem tear_full (S : List (List UInt8)) (x : Int × List UInt8) (hx : x.2.length = 256) (h : ∀ y ∈ S, y.length = 256) : tear S x 256 = S.set x.1.toNat x.2 := by
  unfold tear
  by_cases hb : x.1.toNat < S.length
  · have h2 : (S.getD x.1.toNat []).length = 256 := by
      rw [List.getD_eq_getElem?_getD, List.getElem?_eq_getElem hb]
      exact h _ (List.getElem_mem hb)
    rw [List.take_of_length_le (by omega), List.drop_of_length_le (by omega), List.append_nil]
  · rw [List.set_eq_of_length_le (by omega), List.set_eq_of_length_le (by omega)]
section
variable {B : Nat} {F : Nat → Prop} {W : World} {r gs cap : Nat} {lv : Value} {d : Dsk}
theorem RefIn.setS {n : Nat} (h : RefIn B F W r (.slice (some ⟨gs, 0, none⟩) n cap) lv d) (hn : n = d.S.length) (i : Nat) (hi : i < n) (y : List UInt8) (hy : y.length = 256) :
    RefIn B F (W.setCell ⟨gs, i, none⟩ (strV y)) r (.slice (some ⟨gs, 0, none⟩) n cap) lv { d with S := d.S.set i y } := by
  subst hn
  have hg : F gs := h.hs gs rfl
  have hk : Kept (fun k => k = gs) W (W.setCell ⟨gs, i, none⟩ (strV y)) := (Kept.refl (fun k => k = gs) W).set (F := fun k => k = gs) (g := gs) rfl _
  refine ⟨⟨by simpa using h.ok.pos, by simpa using h.ok.few, fun x hx => ?_, by simpa using h.ok.loose, h.ok.fuse, h.ok.big⟩, h.hr, h.hs, h.hl, h.sr, h.lr, h.sl, fun k hf => ⟨(h.low k hf).1, Nat.lt_of_lt_of_le (h.low k hf).2 hk.size⟩, ?_, ?_, ?_⟩
  · rcases List.mem_or_eq_of_mem_set hx with h1 | rfl
    · exact h.ok.all x h1
    · exact hy
  · exact (hk.block r (h.low r h.hr).2 (fun e => h.sr (by rw [e]; rfl))).trans h.at_r
  · have := ownsRow_set (strV y) h.at_s hi
    show World.ownsRow _ B 9 1 _ (d.S.set i y).length (rS (d.S.set i y))
    rw [List.length_set, show rS (d.S.set i y) = (rS d.S).set i (strV y) from by unfold rS; rw [List.map_set]]
    exact this
  · exact ownsRow_kept h.at_l fun k hb hlt => hk.block k hlt (fun e => h.sl gs rfl (by rw [hb, e]))
/-- Nothing is loose any more. -/
theorem RefIn.dropL {sv : Value} (h : RefIn B F W r sv lv d) : RefIn B F (W.setCell ⟨r, 1, none⟩ (.slice none 0 0)) r sv (.slice none 0 0) { d with L := [] } := by
  have hk : Kept (fun k => k = r) W (W.setCell ⟨r, 1, none⟩ (.slice none 0 0)) := (Kept.refl (fun k => k = r) W).set (F := fun k => k = r) (g := r) rfl _
  refine ⟨⟨h.ok.pos, h.ok.few, h.ok.all, fun x hx => by simp at hx, h.ok.fuse, h.ok.big⟩, h.hr, h.hs, by simp [Value.ownBlock], h.sr, by simp [Value.ownBlock], by simp [Value.ownBlock], fun k hf => ⟨(h.low k hf).1, Nat.lt_of_lt_of_le (h.low k hf).2 hk.size⟩, ?_, ?_, ⟨by show (rL []).length = 0 * 2; rfl, .inl ⟨rfl, rfl⟩⟩⟩
  · have := h.at_r.set 1 (.slice none 0 0)
    simp at this
    exact this
  · exact ownsRow_kept h.at_s fun k hb hlt => hk.block k hlt (fun e => h.sr (by rw [hb, e]))
theorem rsync_down {sv : Value} (h : RefIn B F W r sv lv d) (hm : d.may ≠ 0) : Calls Try.prog 24 #[.pointer (some ⟨r, 0, none⟩)] W fun e W' => e = .returned (.int .i64 50) ∧ W = W' := by
  have H := Lib.hid (fun w' (e : W = w') => e ▸ down_ref h)
  rw [show decide (d.may ≠ 0) = true by simpa using hm] at H
  clear h hm
  go_enter Try.func24, Try.ntmps24
  go_wp2_with (go_at_call 32; refine (H.out _ rfl).mono ?_; rintro e w' ⟨rfl, rfl⟩)
  go_ret
  exact ⟨rfl, rfl⟩
end
set_option maxRecDepth 100000 in
set_option maxHeartbeats 6400000 in
theorem rsync_good {B : Nat} {F : Nat → Prop} {W : World} {r : Nat} {sv lv : Value} {d : Dsk} (h : RefIn B F W r sv lv d) (hm : d.may = 0) (hL : d.L.length ≤ 1000000) :
    Calls Try.prog 24 #[.pointer (some ⟨r, 0, none⟩)] W fun e W' => e = .returned (.int .i64 0) ∧ RefIn B F W' r sv (.slice none 0 0) d.sync ∧ Kept F W W' := by
  have H := Lib.hid (fun w' (e : W = w') => e ▸ down_ref h)
  have CN := Lib.hid (fun w' (e : W = w') => e ▸ counts_ref hm h)
  rw [show decide (d.may ≠ 0) = false by simpa using hm] at H
  obtain ⟨gs, cs, hsv, _, _⟩ := h.srow
  have X := Lib.hid (And.intro h hL)
  subst hsv
  clear h hm hL
  go_enter Try.func24, Try.ntmps24
  go_wp2_with fail
  refine (H.out _ rfl).mono ?_
  rintro e w' ⟨rfl, rfl⟩
  go_wp2_with fail
  refine (CN.out _ rfl).mono ?_
  rintro e w1 ⟨⟨v1, rfl⟩, hd1, hk1, hz1⟩
  have D1 := Lib.hid (And.intro hd1 hk1)
  clear H CN hd1 hk1 hz1
  go_wp2_with fail
  go_loopw [3] (fun i wr => ∃ (k : Nat) (S : List (List UInt8)), k ≤ d.L.length ∧ i = .int .i64 k ∧ syncS (d.L.drop k) S = syncS d.L d.S ∧ S.length = d.S.length ∧ RefIn B F wr r (.slice (some ⟨gs, 0, none⟩) d.S.length cs) lv { d.done with S := S } ∧ Kept F W wr) (fun i _ => d.L.length - (intOf i).toNat)
  case atStart => exact ⟨0, d.S, Nat.zero_le _, rfl, rfl, rfl, D1.out.1, D1.out.2⟩
  case round =>
    obtain ⟨k, S, hk, rfl, hS, hSl, hD, hK⟩ := hrel
    obtain ⟨A, cap, hlv, hA⟩ := hD.lrow
    have hlv' : lv = .slice A d.L.length cap := hlv
    have hc1 := hD.cells.2.1
    rw [hlv'] at hc1
    have c0 : wr.cell? ⟨r, 0, none⟩ = some (.slice (some ⟨gs, 0, none⟩) d.S.length cs) := hD.cells.1
    by_cases hlt : k < d.L.length
    · have hki : (k : Int) < (d.L.length : Int) := by omega
      have hkb : (k : Int) ≤ 1000000 := by have := X.out.2; omega
      obtain ⟨gl, rfl, _, hr⟩ : ∃ gl, A = some ⟨gl, 0, none⟩ ∧ gl < wr.heap.size ∧ ∀ i x, d.L[i]? = some x → wr.cell? ⟨gl, i * 2, none⟩ = some (.int .i64 x.1) ∧ wr.cell? ⟨gl, i * 2 + 1, none⟩ = some (strV x.2) := by
        rcases hA with h | h
        · exact absurd h (by show ¬ d.L.length = 0; omega)
        · exact h
      obtain ⟨x, hx⟩ : ∃ x, d.L[k]? = some x := ⟨_, List.getElem?_eq_getElem hlt⟩
      have hxo := X.out.1.ok.loose x (List.mem_of_getElem? hx)
      obtain ⟨cx, cy⟩ := hr k x hx
      obtain ⟨bN, hbN⟩ : ∃ bN : Nat, x.1 = bN := ⟨x.1.toNat, by have := hxo.2.1; omega⟩
      have hbS : (bN : Int) < (d.S.length : Int) := by have := hxo.2.2; omega
      rw [hbN] at cx
      obtain ⟨str, hstr⟩ : ∃ str, strV x.2 = .string str := ⟨_, rfl⟩
      rw [hstr] at cy
      have C := Lib.hid (show wr.drew.cell? ⟨r, 0, none⟩ = some (.slice (some ⟨gs, 0, none⟩) d.S.length cs) ∧ wr.drew.cell? ⟨r, 1, none⟩ = some (.slice (some ⟨gl, 0, none⟩) d.L.length cap) ∧ wr.drew.cell? ⟨gl, k * 2, none⟩ = some (.int .i64 (bN : Int)) ∧ wr.drew.cell? ⟨gl, k * 2 + 1, none⟩ = some (.string str) from ⟨c0, hc1, cx, cy⟩)
      obtain ⟨gsc, gcc⟩ : ∃ v, wr.drew.cell? ⟨gs, bN, none⟩ = some v := by
        obtain ⟨gs', cs', e, _, hs⟩ := hD.srow
        injection e with e1 e2 e3
        injection e1 with e1
        injection e1 with e1
        subst e1
        exact ⟨_, hs bN _ (List.getElem?_eq_getElem (show bN < S.length by omega))⟩
      have gff : wr.drew.frozen? ⟨gs, bN, none⟩ = false := by
        rcases hD.at_s.2 with ⟨e, _⟩ | ⟨q, c, cur, e, _, hq, _⟩
        · simp at e
        · injection e with e1 e2 e3
          injection e1 with e1
          injection e1 with e1
          subst e1
          exact Bk.free (show Bk wr gs cur 9 from hq) bN
      have Y := Lib.hid (And.intro hS (And.intro hSl (And.intro hD (And.intro hK (And.intro hlt (And.intro hx (And.intro hxo (And.intro hbN hstr))))))))
      have G := Lib.hid (And.intro gcc gff)
      clear hk hS hSl hD hK hlv hlv' hA c0 hlt hr hx hxo cx cy hbN hstr gcc gff
      go_upto_region 7 with fail
      refine wp_sq 20 (by kernel_rfl) ?_
      simp only [List.take_succ_cons, List.take_zero, List.drop_succ_cons, List.drop_zero]
      refine sqv1 0 (v := ?_) (by rfl) (by rfl) (fun ev hc hf h0 => ?_) ?_; rotate_left; (focus (first | (go_simp; done) | (go_simp; with_reducible rfl))); rotate_left; simp only [Act.put, List.setIfInBounds_toArray, List.set_cons_zero, List.set_cons_succ]
      refine sqv1 17 (v := ?_) (by rfl) (by rfl) (fun ev hc hf h0 => ?_) ?_; rotate_left; (focus (first | (go_simp; done) | (go_simp; with_reducible rfl))); rotate_left; simp only [Act.put, List.setIfInBounds_toArray, List.set_cons_zero, List.set_cons_succ]
      refine sqv1 18 (v := ?_) (by rfl) (by rfl) (fun ev hc hf h0 => ?_) ?_; rotate_left; (focus (first | (go_simp; done) | (go_simp; with_reducible rfl))); rotate_left; simp only [Act.put, List.setIfInBounds_toArray, List.set_cons_zero, List.set_cons_succ]
      refine sqv1 19 (v := ?_) (by rfl) (by rfl) (fun ev hc hf h0 => ?_) ?_; rotate_left; (focus (obtain ⟨q0, q1, q2, q3⟩ := C.out; first | (go_simp; done) | (go_simp; with_reducible rfl))); rotate_left; simp only [Act.put, List.setIfInBounds_toArray, List.set_cons_zero, List.set_cons_succ]
      refine sqv1 0 (v := ?_) (by rfl) (by rfl) (fun ev hc hf h0 => ?_) ?_; rotate_left; (focus (first | (go_simp; done) | (go_simp; with_reducible rfl))); rotate_left; simp only [Act.put, List.setIfInBounds_toArray, List.set_cons_zero, List.set_cons_succ]
      refine sqv1 21 (v := ?_) (by rfl) (by rfl) (fun ev hc hf h0 => ?_) ?_; rotate_left; (focus (first | (go_simp; done) | (go_simp; with_reducible rfl))); rotate_left; simp only [Act.put, List.setIfInBounds_toArray, List.set_cons_zero, List.set_cons_succ]
      refine sqv1 22 (v := ?_) (by rfl) (by rfl) (fun ev hc hf h0 => ?_) ?_; rotate_left; (focus (first | (go_simp; done) | (go_simp; with_reducible rfl))); rotate_left; simp only [Act.put, List.setIfInBounds_toArray, List.set_cons_zero, List.set_cons_succ]
      refine sqv1 23 (v := ?_) (by rfl) (by rfl) (fun ev hc hf h0 => ?_) ?_; rotate_left; (focus (obtain ⟨q0, q1, q2, q3⟩ := C.out; first | (go_simp; done) | (go_simp; with_reducible rfl))); rotate_left; simp only [Act.put, List.setIfInBounds_toArray, List.set_cons_zero, List.set_cons_succ]
      refine sqv1 3 (v := ?_) (by rfl) (by rfl) (fun ev hc hf h0 => ?_) ?_; rotate_left; (focus (first | (go_simp; done) | (go_simp; with_reducible rfl))); rotate_left; simp only [Act.put, List.setIfInBounds_toArray, List.set_cons_zero, List.set_cons_succ]
      refine sqv2 24 25 (v := ?_) (by rfl) (by rfl) (by rfl) (fun ev hc hf h0 h1 => ?_) ?_; rotate_left; (focus (first | (go_simp; done) | (go_simp; with_reducible rfl))); rotate_left; simp only [Act.put, List.setIfInBounds_toArray, List.set_cons_zero, List.set_cons_succ]
      refine sqv1 26 (v := ?_) (by rfl) (by rfl) (fun ev hc hf h0 => ?_) ?_; rotate_left; (focus (first | (go_simp; done) | (go_simp; with_reducible rfl))); rotate_left; simp only [Act.put, List.setIfInBounds_toArray, List.set_cons_zero, List.set_cons_succ]
      refine sqv1 27 (v := ?_) (by rfl) (by rfl) (fun ev hc hf h0 => ?_) ?_; rotate_left; (focus (obtain ⟨q0, q1, q2, q3⟩ := C.out; first | (go_simp; done) | (go_simp; with_reducible rfl))); rotate_left; simp only [Act.put, List.setIfInBounds_toArray, List.set_cons_zero, List.set_cons_succ]
      refine sqv1 0 (v := ?_) (by rfl) (by rfl) (fun ev hc hf h0 => ?_) ?_; rotate_left; (focus (first | (go_simp; done) | (go_simp; with_reducible rfl))); rotate_left; simp only [Act.put, List.setIfInBounds_toArray, List.set_cons_zero, List.set_cons_succ]
      refine sqv1 29 (v := ?_) (by rfl) (by rfl) (fun ev hc hf h0 => ?_) ?_; rotate_left; (focus (first | (go_simp; done) | (go_simp; with_reducible rfl))); rotate_left; simp only [Act.put, List.setIfInBounds_toArray, List.set_cons_zero, List.set_cons_succ]
      refine sqv1 30 (v := ?_) (by rfl) (by rfl) (fun ev hc hf h0 => ?_) ?_; rotate_left; (focus (first | (go_simp; done) | (go_simp; with_reducible rfl))); rotate_left; simp only [Act.put, List.setIfInBounds_toArray, List.set_cons_zero, List.set_cons_succ]
      refine sqv1 31 (v := ?_) (by rfl) (by rfl) (fun ev hc hf h0 => ?_) ?_; rotate_left; (focus (obtain ⟨q0, q1, q2, q3⟩ := C.out; first | (go_simp; done) | (go_simp; with_reducible rfl))); rotate_left; simp only [Act.put, List.setIfInBounds_toArray, List.set_cons_zero, List.set_cons_succ]
      refine sqv1 3 (v := ?_) (by rfl) (by rfl) (fun ev hc hf h0 => ?_) ?_; rotate_left; (focus (first | (go_simp; done) | (go_simp; with_reducible rfl))); rotate_left; simp only [Act.put, List.setIfInBounds_toArray, List.set_cons_zero, List.set_cons_succ]
      refine sqv2 32 33 (v := ?_) (by rfl) (by rfl) (by rfl) (fun ev hc hf h0 h1 => ?_) ?_; rotate_left; (focus (first | (go_simp; done) | (go_simp; with_reducible rfl))); rotate_left; simp only [Act.put, List.setIfInBounds_toArray, List.set_cons_zero, List.set_cons_succ]
      refine sqv1 34 (v := ?_) (by rfl) (by rfl) (fun ev hc hf h0 => ?_) ?_; rotate_left; (focus (first | (go_simp; done) | (go_simp; with_reducible rfl))); rotate_left; simp only [Act.put, List.setIfInBounds_toArray, List.set_cons_zero, List.set_cons_succ]
      refine sqv1 35 (v := ?_) (by rfl) (by rfl) (fun ev hc hf h0 => ?_) ?_; rotate_left; (focus (obtain ⟨q0, q1, q2, q3⟩ := C.out; first | (go_simp; done) | (go_simp; with_reducible rfl))); rotate_left; simp only [Act.put, List.setIfInBounds_toArray, List.set_cons_zero, List.set_cons_succ]
      refine sq_nil ?_
      refine PL.out ?_
      refine plv2 20 28 (v := ?_) (W' := ?_) (by rfl) (by rfl) (by rfl) (fun ev hc hf h0 h1 => ?_) ?_; rotate_left 2; (focus (go_simp; constructor <;> with_reducible rfl)); simp only [Act.put, List.setIfInBounds_toArray, List.set_cons_zero, List.set_cons_succ]
      refine pls2 37 36 (W' := ?_) (by rfl) (by rfl) (by rfl) (fun ev hc hf h0 h1 => ?_) ?_; rotate_left 1; (focus (have g1 := G.out.1; have g2 := G.out.2; go_simp; with_reducible rfl)); simp only [Act.put, List.setIfInBounds_toArray, List.set_cons_zero, List.set_cons_succ]
      refine pl_nil ?_
      have hd3 := RefIn.setS (d := { d.done with S := S }) (Y.out.2.2.1.bel ((Below.refl wr.heap.size wr).drew)) Y.out.2.1.symm bN (by have := Y.out.2.1; omega) x.2 Y.out.2.2.2.2.2.2.1.1
      rw [Y.out.2.2.2.2.2.2.2.2] at hd3
      have htf : S.set bN x.2 = tear S x 256 := by rw [tear_full S x Y.out.2.2.2.2.2.2.1.1 Y.out.2.2.1.ok.all, Y.out.2.2.2.2.2.2.2.1, Int.toNat_natCast]
      rw [htf] at hd3
      have hk3 : Kept F W (wr.drew.setCell ⟨gs, bN, none⟩ (.string str)) := (Y.out.2.2.2.1.trans (show Kept F wr wr.drew from ⟨rfl, rfl, rfl, Nat.le_refl _, fun _ _ _ => rfl⟩)).set (Y.out.2.2.1.hs gs rfl) _
      have Q3 := Lib.hid (show RefIn B F ((wr.setCell ⟨gs, bN, none⟩ (.string str)).drew) r (.slice (some ⟨gs, 0, none⟩) d.S.length cs) lv { d.done with S := tear S x 256 } ∧ Kept F W ((wr.setCell ⟨gs, bN, none⟩ (.string str)).drew) from ⟨hd3, hk3⟩)
      clear hd3 hk3 htf C G
      generalize (wr.setCell ⟨gs, bN, none⟩ (.string str)).drew = w5 at Q3 ⊢
      go_wp2_with fail
      refine ⟨⟨k + 1, tear S x 256, by have := Y.out.2.2.2.2.1; omega, by simp, ?_, by rw [tear_len]; exact Y.out.2.1, Q3.out.1, Q3.out.2⟩, ?_⟩
      · rw [← Y.out.1, sync_step Y.out.2.2.2.2.2.1]
      · simp [intOf]
        have := Y.out.2.2.2.2.1
        omega
    · obtain rfl : k = d.L.length := by omega
      rw [List.drop_length] at hS
      have hS' : S = syncS d.L d.S := hS
      subst hS'
      have f1 := hD.at_r.free 1
      have Q := Lib.hid (And.intro hD hK)
      clear hD hK hS hSl hlt hk c0 hlv hlv' hA
      go_wp2_with fail
      go_ret
      exact ⟨rfl, Q.out.1.dropL, Q.out.2.set Q.out.1.hr _⟩

end Go.Proofs.Ytbobbekbliichaa
