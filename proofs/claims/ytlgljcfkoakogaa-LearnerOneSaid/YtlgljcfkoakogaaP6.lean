import Derived.Test.YtlgljcfkoakogaaP5
import Derived.Deep.DeepCutAuto
namespace Go.Proofs.Ytlgljcfkoakogaa
open Go.RowKit
set_option linter.unusedSimpArgs false
set_option linter.unusedVariables false


open Go.Maps Go.Shelf
def VoteAt (w : World) (b o : Nat) (c : Vt) : Prop :=
  w.cell? ⟨b, o, none⟩ = some (.bool c.has) ∧ w.cell? ⟨b, o + 1, none⟩ = some (.int .u64 c.r) ∧ w.cell? ⟨b, o + 2, none⟩ = some (.int .i64 c.n) ∧ w.cell? ⟨b, o + 3, none⟩ = some (.string c.val)
def VotesAt (w : World) (A : Option Addr) (l : List Vt) : Prop :=
  l = [] ∨ ∃ b o, A = some ⟨b, o, none⟩ ∧ ∀ j c, l[j]? = some c → VoteAt w b (o + j * 4) c
theorem VoteAt.bel {w w' : World} {b o : Nat} {c : Vt} (h : VoteAt w b o c) (hb : Bel w w') : VoteAt w' b o c :=
  ⟨Bel.cell hb h.1, Bel.cell hb h.2.1, Bel.cell hb h.2.2.1, Bel.cell hb h.2.2.2⟩
theorem VotesAt.bel {w w' : World} {A : Option Addr} {l : List Vt} (h : VotesAt w A l) (hb : Bel w w') : VotesAt w' A l := by
  rcases h with h | ⟨b, o, e, h⟩
  · exact .inl h
  · exact .inr ⟨b, o, e, fun j c hj => (h j c hj).bel hb⟩
theorem VoteAt.low {w w' : World} {b o m : Nat} {c : Vt} (h : VoteAt w b o c) (hb : Below m w w') (hm : b < m) : VoteAt w' b o c :=
  ⟨(hb.cell (p := ⟨b, o, none⟩) hm).trans h.1, (hb.cell (p := ⟨b, o + 1, none⟩) hm).trans h.2.1, (hb.cell (p := ⟨b, o + 2, none⟩) hm).trans h.2.2.1, (hb.cell (p := ⟨b, o + 3, none⟩) hm).trans h.2.2.2⟩
theorem VotesAt.low {w w' : World} {A : Option Addr} {l : List Vt} (h : VotesAt w A l) (hb : Below w.heap.size w w') : VotesAt w' A l := h.bel hb
def better (m x : Vt) : Vt := if 0 < cmpB x.r x.n m.r m.n then x else m
/-- The first of the greatest. -/
def best : List Vt → Vt
  | [] => Vt.zero
  | x :: t => t.foldl better x
theorem best_snoc {l : List Vt} (h : l ≠ []) (x : Vt) : best (l ++ [x]) = better (best l) x := by
  cases l with
  | nil => exact absurd rfl h
  | cons y t => simp [best, List.foldl_append]
theorem best_take {l : List Vt} {k : Nat} (hk : k < l.length) (h1 : 1 ≤ k) : best (l.take (k + 1)) = better (best (l.take k)) l[k] := by
  rw [List.take_add_one, List.getElem?_eq_getElem hk]
  exact best_snoc (by intro e; have := congrArg List.length e; rw [List.length_take] at this; simp only [List.length_nil] at this; omega) _
set_option maxRecDepth 100000
set_option maxHeartbeats 3200000
theorem clo68 (a b : Vt) (W : World) : Calls Try.prog 68 #[a.v, b.v] W fun e W' => e = .returned (.int .i64 (cmpB a.r a.n b.r b.n)) ∧ Below W.heap.size W W' := by
  unfold Vt.v
  have hb0 := ((Below.refl W.heap.size W).alloc (Nat.le_refl _) (.cells #[.bool a.has, .int .u64 a.r, .int .i64 a.n, .string a.val] 46)).alloc (by simp) (.cells #[.bool b.has, .int .u64 b.r, .int .i64 b.n, .string b.val] 46)
  go_enter Try.func68, Try.ntmps68
  go_wp2_with (go_at_call 21; refine (cmp_any _ _ _ _ _).mono ?_; rintro e w' ⟨rfl, hbw⟩)
  go_ret
  exact ⟨rfl, hb0.trans (hbw.mono hb0.size)⟩
theorem maxfunc_any (A : Option Addr) (cap : Nat) (l : List Vt) (W : World) (hl : 1 ≤ l.length) (hl2 : l.length ≤ 1000000) (hx : VotesAt W A l) :
    Calls Try.prog 73 #[.slice A l.length cap, .func (.func 68) #[] #[]] W fun e W' => e = .returned (best l).v ∧ Below W.heap.size W W' := by
  obtain ⟨c0, hc0⟩ : ∃ c, l[0]? = some c := ⟨_, List.getElem?_eq_getElem (by omega)⟩
  obtain ⟨b, o, rfl, hv⟩ : ∃ b o, A = some ⟨b, o, none⟩ ∧ ∀ j c, l[j]? = some c → VoteAt W b (o + j * 4) c := by
    rcases hx with h | h
    · rw [h] at hl; simp at hl
    · exact h
  have HV := Lib.hid hv
  have hbl : b < W.heap.size := World.block_lt_of_cell? W _ (hv 0 c0 hc0).1
  have hb0 := (Below.refl W.heap.size W).alloc (Nat.le_refl _) (.cells #[.bool false, .int .u64 0, .int .i64 0, .string ⟨#[]⟩] 46)
  have z0 : (W.alloc (.cells #[.bool false, .int .u64 0, .int .i64 0, .string ⟨#[]⟩] 46)).heap.size = W.heap.size + 1 := World.size_alloc _ _
  obtain ⟨v0, v1, v2, v3⟩ := (hv 0 c0 hc0).bel hb0
  simp only [Nat.zero_mul, Nat.add_zero] at v0 v1 v2 v3
  have hb1 := hb0.alloc hb0.size (.cells #[.bool c0.has, .int .u64 c0.r, .int .i64 c0.n, .string c0.val] 46)
  have B0 := (Bk.new W #[.bool false, .int .u64 0, .int .i64 0, .string ⟨#[]⟩] 46).alloc (.cells #[.bool c0.has, .int .u64 c0.r, .int .i64 c0.n, .string c0.val] 46)
  have B1 := Bk.new (W.alloc (.cells #[.bool false, .int .u64 0, .int .i64 0, .string ⟨#[]⟩] 46)) #[.bool c0.has, .int .u64 c0.r, .int .i64 c0.n, .string c0.val] 46
  rw [z0] at B1
  clear hv hx
  have hl1 : ¬ (l.length : Int) < 1 := by omega
  have hl0 : (0 : Int) < (l.length : Int) := by omega
  go_enter Try.func73, Try.ntmps73
  go_upto_region 4 with fail
  clear v0 v1 v2 v3
  generalize (W.alloc (.cells #[.bool false, .int .u64 0, .int .i64 0, .string ⟨#[]⟩] 46)).alloc (.cells #[.bool c0.has, .int .u64 c0.r, .int .i64 c0.n, .string c0.val] 46) = w1 at B0 B1 hb1 ⊢
  go_wp2_with fail
  go_loopw [6] (fun i wr => ∃ (k : Nat) (m : Vt), 1 ≤ k ∧ k ≤ l.length ∧ i = .int .i64 k ∧ m = best (l.take k) ∧ Bk wr (W.heap.size + 1) #[.bool m.has, .int .u64 m.r, .int .i64 m.n, .string m.val] 46 ∧ Bk wr W.heap.size #[.bool false, .int .u64 0, .int .i64 0, .string ⟨#[]⟩] 46 ∧ Below W.heap.size W wr) (fun i _ => l.length + 1 - (intOf i).toNat)
  case atStart =>
    refine ⟨1, c0, Nat.le_refl _, hl, rfl, ?_, B1, B0, hb1⟩
    cases l with
    | nil => simp at hl
    | cons y t => simp at hc0; subst hc0; simp [best]
  case round =>
    obtain ⟨k, m, hk1, hkl, rfl, hm, K1, K0, HB⟩ := hrel
    have hki : (k : Int) ≤ (l.length : Int) := by omega
    by_cases hlt : k < l.length
    · have hne : (k : Int) < (l.length : Int) := by omega
      obtain ⟨c, hc⟩ : ∃ c, l[k]? = some c := ⟨_, List.getElem?_eq_getElem hlt⟩
      have hbt := best_take hlt hk1
      have hck : l[k] = c := by rw [List.getElem?_eq_getElem hlt] at hc; injection hc
      rw [hck, ← hm] at hbt
      have hvk := (HV.out k c hc).low HB hbl
      have HS := Lib.hid (show ∀ w', Bel wr w' → w'.cell? ⟨b, o + k * 4, none⟩ = some (.bool c.has) ∧ w'.cell? ⟨b, o + k * 4 + 1, none⟩ = some (.int .u64 c.r) ∧ w'.cell? ⟨b, o + k * 4 + 2, none⟩ = some (.int .i64 c.n) ∧ w'.cell? ⟨b, o + k * 4 + 3, none⟩ = some (.string c.val) ∧
          w'.cell? ⟨W.heap.size + 1, 0, none⟩ = some (.bool m.has) ∧ w'.cell? ⟨W.heap.size + 1, 1, none⟩ = some (.int .u64 m.r) ∧ w'.cell? ⟨W.heap.size + 1, 2, none⟩ = some (.int .i64 m.n) ∧ w'.cell? ⟨W.heap.size + 1, 3, none⟩ = some (.string m.val) from fun w' hw => by
        have hv := hvk.bel hw
        have hK := K1.bel hw
        exact ⟨hv.1, hv.2.1, hv.2.2.1, hv.2.2.2, hK.cell 0, hK.cell 1, hK.cell 2, hK.cell 3⟩)
      have KC := Lib.hid (show ∀ W : World, Calls Try.prog 68 #[.agg #[.bool c.has, .int .u64 c.r, .int .i64 c.n, .string c.val], .agg #[.bool m.has, .int .u64 m.r, .int .i64 m.n, .string m.val]] W fun e W' => e = .returned (.int .i64 (cmpB c.r c.n m.r m.n)) ∧ Below W.heap.size W W' from fun W => clo68 c m W)
      clear hvk hm
      go_upto_region 7 with fail
      refine wp_qw (by kernel_rfl) ?_
      (refine qv1 1 (v := ?_) (by rfl) (by rfl) (fun ev hc hf h0 W hW => ?_) ?_; rotate_left; (focus (obtain ⟨e0, e1, e2, e3, e4, e5, e6, e7⟩ := HS.out W hW; first | (go_simp; done) | (go_simp; with_reducible rfl))); rotate_left; simp only [Act.put, List.setIfInBounds_toArray, List.set_cons_zero, List.set_cons_succ])
      (refine qv1 0 (v := ?_) (by rfl) (by rfl) (fun ev hc hf h0 W hW => ?_) ?_; rotate_left; (focus (obtain ⟨e0, e1, e2, e3, e4, e5, e6, e7⟩ := HS.out W hW; first | (go_simp; done) | (go_simp; with_reducible rfl))); rotate_left; simp only [Act.put, List.setIfInBounds_toArray, List.set_cons_zero, List.set_cons_succ])
      (refine qv1 6 (v := ?_) (by rfl) (by rfl) (fun ev hc hf h0 W hW => ?_) ?_; rotate_left; (focus (obtain ⟨e0, e1, e2, e3, e4, e5, e6, e7⟩ := HS.out W hW; first | (go_simp; done) | (go_simp; with_reducible rfl))); rotate_left; simp only [Act.put, List.setIfInBounds_toArray, List.set_cons_zero, List.set_cons_succ])
      (refine qv2 21 22 (v := ?_) (by rfl) (by rfl) (by rfl) (fun ev hc hf h0 h1 W hW => ?_) ?_; rotate_left; (focus (obtain ⟨e0, e1, e2, e3, e4, e5, e6, e7⟩ := HS.out W hW; first | (go_simp; done) | (go_simp; with_reducible rfl))); rotate_left; simp only [Act.put, List.setIfInBounds_toArray, List.set_cons_zero, List.set_cons_succ])
      (refine qv1 23 (v := ?_) (by rfl) (by rfl) (fun ev hc hf h0 W hW => ?_) ?_; rotate_left; (focus (obtain ⟨e0, e1, e2, e3, e4, e5, e6, e7⟩ := HS.out W hW; first | (go_simp; done) | (go_simp; with_reducible rfl))); rotate_left; simp only [Act.put, List.setIfInBounds_toArray, List.set_cons_zero, List.set_cons_succ])
      (refine qv1 5 (v := ?_) (by rfl) (by rfl) (fun ev hc hf h0 W hW => ?_) ?_; rotate_left; (focus (obtain ⟨e0, e1, e2, e3, e4, e5, e6, e7⟩ := HS.out W hW; first | (go_simp; done) | (go_simp; with_reducible rfl))); rotate_left; simp only [Act.put, List.setIfInBounds_toArray, List.set_cons_zero, List.set_cons_succ])
      (refine qc3 20 24 25 _ _ _ (by rfl) (by rfl) (by rfl) (by rfl) (fun ev hc hf h0 h1 h2 W hW => ?_) (fun W hW => q_calls hW (KC.out W)) ?_; (focus (obtain ⟨e0, e1, e2, e3, e4, e5, e6, e7⟩ := HS.out W hW; go_simp; done)); simp only [Act.put, List.setIfInBounds_toArray, List.set_cons_zero, List.set_cons_succ])
      (refine qv1 26 (v := ?_) (by rfl) (by rfl) (fun ev hc hf h0 W hW => ?_) ?_; rotate_left; (focus (obtain ⟨e0, e1, e2, e3, e4, e5, e6, e7⟩ := HS.out W hW; first | (go_simp; done) | (go_simp; with_reducible rfl))); rotate_left; simp only [Act.put, List.setIfInBounds_toArray, List.set_cons_zero, List.set_cons_succ])
      refine qnil ?_
      intro w5 hW5
      have K1 := K1.bel hW5
      have K0 := K0.bel hW5
      have HB := HB.trans (hW5.mono HB.size)
      have hvk := Lib.hid ((HV.out k c hc).low HB hbl)
      clear HS KC hW5
      by_cases hgt : 0 < cmpB c.r c.n m.r m.n
      · have hbt2 := Lib.hid (show c = best (l.take (k + 1)) by rw [hbt]; unfold better; rw [if_pos hgt])
        obtain ⟨v0, v1, v2, v3⟩ := hvk.out
        have f0 := K1.free 0
        have f1 := K1.free 1
        have f2 := K1.free 2
        have f3 := K1.free 3
        obtain ⟨m0, m1, m2, m3⟩ : w5.cell? ⟨W.heap.size + 1, 0, none⟩ = some (.bool m.has) ∧ w5.cell? ⟨W.heap.size + 1, 1, none⟩ = some (.int .u64 m.r) ∧ w5.cell? ⟨W.heap.size + 1, 2, none⟩ = some (.int .i64 m.n) ∧ w5.cell? ⟨W.heap.size + 1, 3, none⟩ = some (.string m.val) := ⟨K1.cell 0, K1.cell 1, K1.cell 2, K1.cell 3⟩
        clear hbt
        go_wp2_with fail
        go_roundw
        case rel =>
          refine ⟨k + 1, c, by omega, by omega, by go_num, hbt2.out, ?_, (((K0.far (by dsimp only; omega) _).far (by dsimp only; omega) _).far (by dsimp only; omega) _).far (by dsimp only; omega) _, (((HB.setCell (p := ⟨W.heap.size + 1, 0, none⟩) (by dsimp only; omega) _).setCell (p := ⟨W.heap.size + 1, 1, none⟩) (by dsimp only; omega) _).setCell (p := ⟨W.heap.size + 1, 2, none⟩) (by dsimp only; omega) _).setCell (p := ⟨W.heap.size + 1, 3, none⟩) (by dsimp only; omega) _⟩
          simpa using (((K1.set 0 (.bool c.has)).set 1 (.int .u64 c.r)).set 2 (.int .i64 c.n)).set 3 (.string c.val)
        case measure => simp [intOf]; omega
      · have hbt2 := Lib.hid (show m = best (l.take (k + 1)) by rw [hbt]; unfold better; rw [if_neg hgt])
        clear hbt
        go_wp2_with fail
        go_roundw
        case rel => exact ⟨k + 1, m, by omega, by omega, by go_num, hbt2.out, K1, K0, HB⟩
        case measure => simp [intOf]; omega
    · obtain rfl : k = l.length := by omega
      rw [List.take_length] at hm
      obtain ⟨m0, m1, m2, m3⟩ : wr.cell? ⟨W.heap.size + 1, 0, none⟩ = some (.bool m.has) ∧ wr.cell? ⟨W.heap.size + 1, 1, none⟩ = some (.int .u64 m.r) ∧ wr.cell? ⟨W.heap.size + 1, 2, none⟩ = some (.int .i64 m.n) ∧ wr.cell? ⟨W.heap.size + 1, 3, none⟩ = some (.string m.val) := ⟨K1.cell 0, K1.cell 1, K1.cell 2, K1.cell 3⟩
      obtain ⟨r0, r1, r2, r3⟩ : wr.cell? ⟨W.heap.size, 0, none⟩ = some (.bool false) ∧ wr.cell? ⟨W.heap.size, 1, none⟩ = some (.int .u64 0) ∧ wr.cell? ⟨W.heap.size, 2, none⟩ = some (.int .i64 0) ∧ wr.cell? ⟨W.heap.size, 3, none⟩ = some (.string ⟨#[]⟩) := ⟨K0.cell 0, K0.cell 1, K0.cell 2, K0.cell 3⟩
      have f0 := K0.free 0
      have f1 := K0.free 1
      have f2 := K0.free 2
      have f3 := K0.free 3
      go_wp2_with fail
      have KR := (((K0.set 0 (.bool m.has)).set 1 (.int .u64 m.r)).set 2 (.int .i64 m.n)).set 3 (.string m.val)
      have e0 := KR.cell 0
      have e1 := KR.cell 1
      have e2 := KR.cell 2
      have e3 := KR.cell 3
      simp at e0 e1 e2 e3
      rw [← hm]
      exact bodyPost_ret (v := m.v) (by simp [results, Try.results73, go_sem, e0, e1, e2, e3, Vt.v]) rfl ⟨rfl, (((HB.setCell (p := ⟨W.heap.size, 0, none⟩) (Nat.le_refl _) _).setCell (p := ⟨W.heap.size, 1, none⟩) (Nat.le_refl _) _).setCell (p := ⟨W.heap.size, 2, none⟩) (Nat.le_refl _) _).setCell (p := ⟨W.heap.size, 3, none⟩) (Nat.le_refl _) _⟩

end Go.Proofs.Ytlgljcfkoakogaa
