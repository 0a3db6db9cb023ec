import Derived.Test.YtlgljcfkoakogaaP4
namespace Go.Proofs.Ytlgljcfkoakogaa
open Go.RowKit
set_option linter.unusedSimpArgs false
set_option linter.unusedVariables false


open Go.Maps Go.Shelf
/-- Accepted, of one that may propose. -/
def pAcc (P : Prp) (x : Int) : Bool × Prp :=
  let P' : Prp := { P with acc := fun y => if y = x then some ((P.acc x).getD 0 + 1) else P.acc y, aord := if (P.acc x).isSome = true then P.aord else P.aord ++ [x], nn := P.nn + 1 }
  (!enB P.N P.aord.length && enB P.N P'.aord.length, P')
section
variable {W : World} {g pm am : Nat} {s : Value} {P : Prp} (x : Int) (v : Vt)
set_option maxRecDepth 100000
set_option maxHeartbeats 3200000
theorem ppromise_any (h : PropAt W g pm am s P) (hx0 : 0 ≤ x) (hx1 : x < P.N) (hm : mayB P.r P.n = true) (hv : pMayB P.r P.n v = true) (hnn : P.nn < 1000000) :
    Calls Try.prog 48 #[.pointer (some ⟨g, 0, none⟩), .int .i64 x, .agg #[.int .u64 P.r, .int .i64 P.n], v.v] W fun e W' => e = .returned (.tuple #[.bool (pProm P x v).1, .int .i64 0]) ∧ ∃ s', PropNext W W' g pm am s s' (pProm P x v).2 := by
  unfold pProm
  cases hc : P.prom x with
  | some c =>
    rw [if_pos (by simp)]
    exact (pprom_has x v h hx0 hx1 hm hv c hc).mono fun e w' ⟨a, b, d⟩ => ⟨a, s, b, fun k hk => .inl hk, Kept.of_below d⟩
  | none =>
    rw [if_neg (by simp)]
    cases hen : enB P.N P.order.length with
    | true =>
      rw [if_pos rfl]
      exact (pprom_enough x v h hx0 hx1 hm hv hc hen).mono fun e w' ⟨a, b, d⟩ => ⟨a, s, b, fun k hk => .inl hk, Kept.of_below d⟩
    | false =>
      rw [if_neg (by simp)]
      exact pprom_new x v h hx0 hx1 hm hv hc hen hnn
theorem paccepted_any (h : PropAt W g pm am s P) (hx0 : 0 ≤ x) (hx1 : x < P.N) (hm : mayB P.r P.n = true) (hen : enB P.N P.order.length = true) (hnn : P.nn < 1000000) :
    Calls Try.prog 49 #[.pointer (some ⟨g, 0, none⟩), .int .i64 x, .agg #[.int .u64 P.r, .int .i64 P.n]] W fun e W' => e = .returned (.tuple #[.bool (pAcc P x).1, .int .i64 0]) ∧ PropNext W W' g pm am s s (pAcc P x).2 := by
  have hb0 := (Below.refl W.heap.size W).alloc (Nat.le_refl _) (.cells #[.int .u64 P.r, .int .i64 P.n] 24)
  have k1 := Bk.new W #[.int .u64 P.r, .int .i64 P.n] 24
  have X0 := h.keep hb0
  obtain ⟨d0, d1, d2, d3, d4, d5, d6, dz⟩ := X0.cells
  have a0 : ¬ x < 0 := by omega
  have a1 : ¬ (P.N : Int) ≤ x := by omega
  go_enter Try.func49, Try.ntmps49
  go_wp2_with fail
  refine (may_any P.r P.n _).mono ?_
  rintro e w1 ⟨rfl, hb1⟩
  rw [hm]
  have X1 := Lib.hid (X0.keep hb1)
  have k11 := Lib.hid (k1.bel hb1)
  have HB1 := Lib.hid (hb0.trans (hb1.mono hb0.size))
  clear hb0 hb1 X0 k1 d0 d1 d2 d3 d4 d5 d6 dz
  go_upto_region 7 with fail
  have HS := Lib.hid (show ∀ w', Bel w1 w' → w'.cell? ⟨W.heap.size, 0, none⟩ = some (.int .u64 P.r) ∧ w'.cell? ⟨W.heap.size, 1, none⟩ = some (.int .i64 P.n) ∧ w'.cell? ⟨g, 0, none⟩ = some (.int .u64 P.r) ∧ w'.cell? ⟨g, 1, none⟩ = some (.int .i64 P.n) from fun w' hw => by
    have hX := X1.out.keep hw
    exact ⟨(k11.out.bel hw).cell 0, (k11.out.bel hw).cell 1, hX.cells.1, hX.cells.2.1⟩)
  have hq := ne_same P.r P.n
  refine wp_qw (by kernel_rfl) ?_
  (refine qv1 5 (v := ?_) (by rfl) (by rfl) (fun ev hc hf h0 W hW => ?_) ?_; rotate_left; (focus (obtain ⟨e0, e1, e2, e3⟩ := HS.out W hW; first | (go_simp; done) | (go_simp; with_reducible rfl))); rotate_left; simp only [Act.put, List.setIfInBounds_toArray, List.set_cons_zero, List.set_cons_succ])
  (refine qv1 0 (v := ?_) (by rfl) (by rfl) (fun ev hc hf h0 W hW => ?_) ?_; rotate_left; (focus (obtain ⟨e0, e1, e2, e3⟩ := HS.out W hW; first | (go_simp; done) | (go_simp; with_reducible rfl))); rotate_left; simp only [Act.put, List.setIfInBounds_toArray, List.set_cons_zero, List.set_cons_succ])
  (refine qv1 26 (v := ?_) (by rfl) (by rfl) (fun ev hc hf h0 W hW => ?_) ?_; rotate_left; (focus (obtain ⟨e0, e1, e2, e3⟩ := HS.out W hW; first | (go_simp; done) | (go_simp; with_reducible rfl))); rotate_left; simp only [Act.put, List.setIfInBounds_toArray, List.set_cons_zero, List.set_cons_succ])
  (refine qv1 27 (v := ?_) (by rfl) (by rfl) (fun ev hc hf h0 W hW => ?_) ?_; rotate_left; (focus (obtain ⟨e0, e1, e2, e3⟩ := HS.out W hW; first | (go_simp; done) | (go_simp; with_reducible rfl))); rotate_left; simp only [Act.put, List.setIfInBounds_toArray, List.set_cons_zero, List.set_cons_succ])
  (refine qv1 28 (v := ?_) (by rfl) (by rfl) (fun ev hc hf h0 W hW => ?_) ?_; rotate_left; (focus (obtain ⟨e0, e1, e2, e3⟩ := HS.out W hW; first | (go_simp; done) | (go_simp; with_reducible rfl))); rotate_left; simp only [Act.put, List.setIfInBounds_toArray, List.set_cons_zero, List.set_cons_succ])
  (refine qv2 25 29 (v := ?_) (by rfl) (by rfl) (by rfl) (fun ev hc hf h0 h1 W hW => ?_) ?_; rotate_left; (focus (obtain ⟨e0, e1, e2, e3⟩ := HS.out W hW; first | (go_simp; done) | (go_simp; with_reducible rfl))); rotate_left; simp only [Act.put, List.setIfInBounds_toArray, List.set_cons_zero, List.set_cons_succ])
  (refine qv1 30 (v := ?_) (by rfl) (by rfl) (fun ev hc hf h0 W hW => ?_) ?_; rotate_left; (focus (obtain ⟨e0, e1, e2, e3⟩ := HS.out W hW; first | (go_simp; done) | (go_simp; with_reducible rfl))); rotate_left; simp only [Act.put, List.setIfInBounds_toArray, List.set_cons_zero, List.set_cons_succ])
  refine qnil ?_
  intro w4 hW4
  have X4 := Lib.hid (X1.out.keep hW4)
  have HB4 := Lib.hid (HB1.out.trans (hW4.mono HB1.out.size))
  clear HS X1 k11 HB1 hW4 hq
  obtain ⟨d0, d1, d2, d3, d4, d5, d6, dz⟩ := X4.out.cells
  have hlp := fun ty => X4.out.pr.len Try.underlying127 ty
  have hla := fun ty => X4.out.ac.len Try.underlying128 ty
  go_wp2_with fail
  refine (enough_any g P.N _ _ X4.out.pos X4.out.few d2).mono ?_
  rintro e w5 ⟨rfl, rfl⟩
  rw [hen]
  go_wp2_with fail
  refine (enough_any g P.N _ _ X4.out.pos X4.out.few d2).mono ?_
  rintro e w5 ⟨rfl, rfl⟩
  have hwf : (Lit.int .i64 x).wf = true := wf_small hx0 (by have := X4.out.few; omega)
  have hgt := X4.out.ac.get Try.underlying128 i64V_inj zero3 hwf
  have hcb : 0 ≤ (P.acc x).getD 0 ∧ (P.acc x).getD 0 ≤ P.nn := by
    cases hc : P.acc x with
    | none => simp
    | some c => simpa using X4.out.cnt x c hc
  generalize hc0 : (P.acc x).getD 0 = c0 at hgt hcb
  unfold i64V at hgt
  obtain ⟨wm, hput, hac, hg⟩ := X4.out.ac.put Try.underlying128 i64V_inj hnn hwf (c0 + 1)
  unfold i64V at hput
  have hc1 : 0 ≤ c0 := hcb.1
  have hc2 : c0 ≤ 1000000 := by omega
  have hgp := X4.out.gp
  have hga := X4.out.ga
  have hpa := X4.out.pa
  obtain ⟨es2, cl2, hmb2⟩ := X4.out.ac.isMapBlock
  have harow := row_not_map hmb2 X4.out.row
  have Bm := X4.out.bk.grown hg (by simpa using hga)
  have rowm := own_kept X4.out.row hg (fun j hj e => harow (by rw [← e, hj]))
  have prm := X4.out.pr.kept (hg.block pm X4.out.pr.lt (by simpa using hpa))
  have KP := Lib.hid ((show Kept (Foot g pm am s) W w4 from Kept.of_below HB4.out).grownF hg (fun k e => by cases e; exact .inl (.inr (.inr (.inl rfl)))))
  have ha' : (pAcc P x).2.aord.length = (if (P.acc x).isSome = true then P.aord.length else P.aord.length + 1) := by
    unfold pAcc
    dsimp only
    split <;> simp
  rw [← ha'] at hac
  have hla2 := fun ty => hac.len Try.underlying128 ty
  have m6 : wm.cell? ⟨g, 6, none⟩ = some (.map (some am)) := Bm.cell 6
  have PN := Lib.hid (show PropNext W wm g pm am s s (pAcc P x).2 from ⟨by
    refine ⟨Bm, rowm, prm.mono (Nat.le_succ _), ?_, hgp, hga, hpa, X4.out.pos, X4.out.few, X4.out.keys, X4.out.ord, X4.out.nd, ?_, ?_, ?_, ?_, Nat.le_succ_of_le X4.out.ole, ?_⟩
    · have h9 := hac
      rw [← hc0] at h9
      exact h9
    · intro y hy
      have hy' : y ∈ (if (P.acc x).isSome = true then P.aord else P.aord ++ [x]) := hy
      split at hy'
      · exact X4.out.akeys y hy'
      · rcases List.mem_append.1 hy' with hy' | hy'
        · exact X4.out.akeys y hy'
        · simp at hy'; subst hy'; exact ⟨hx0, hx1⟩
    · intro y
      show y ∈ (if (P.acc x).isSome = true then P.aord else P.aord ++ [x]) ↔ (if y = x then some ((P.acc x).getD 0 + 1) else P.acc y).isSome = true
      by_cases e : y = x
      · subst e
        simp only [if_true, Option.isSome_some, iff_true]
        split
        · rename_i hs; exact (X4.out.aor y).2 hs
        · simp
      · rw [if_neg e]
        split
        · exact X4.out.aor y
        · rw [List.mem_append, X4.out.aor y]; simp [e]
    · show (if (P.acc x).isSome = true then P.aord else P.aord ++ [x]).Nodup
      split
      · exact X4.out.and
      · rename_i hs
        rw [List.nodup_append]
        refine ⟨X4.out.and, by simp, fun a ha b hb => ?_⟩
        simp at hb
        subst hb
        rintro rfl
        exact hs ((X4.out.aor a).1 ha)
    · intro y c hy
      have hy' : (if y = x then some ((P.acc x).getD 0 + 1) else P.acc y) = some c := hy
      show 0 ≤ c ∧ c ≤ ((P.nn + 1 : Nat) : Int)
      split at hy'
      · rw [hc0] at hy'
        injection hy' with hy'
        omega
      · have := X4.out.cnt y c hy'
        omega
    · rw [ha']
      have := X4.out.ale
      show _ ≤ P.nn + 1
      split <;> omega, fun k hk => .inl hk, KP.out⟩)
  have hp1 : (pAcc P x).1 = (!enB P.N P.aord.length && enB P.N (pAcc P x).2.aord.length) := rfl
  have w2' : wm.cell? ⟨g, 2, none⟩ = some (.int .i64 P.N) := Bm.cell 2
  clear hmb2 hg hac ha' Bm rowm prm KP hc0 h HB4 hlp
  cases hb1 : enB P.N P.aord.length with
  | true =>
    rw [hb1] at hp1
    simp only [Bool.not_true, Bool.false_and] at hp1
    go_wp2_with fail
    rw [hp1]
    exact bodyPost_ret (v := .tuple #[.bool false, .int .i64 0]) (by simp [results, Try.results49, go_sem]) rfl ⟨rfl, PN.out⟩
  | false =>
    rw [hb1] at hp1
    simp only [Bool.not_false, Bool.true_and] at hp1
    go_wp2_with fail
    refine (enough_any g P.N _ _ X4.out.pos X4.out.few w2').mono ?_
    rintro e w5 ⟨rfl, rfl⟩
    rw [← hp1]
    go_wp2_with fail
    exact bodyPost_ret (v := .tuple #[.bool (pAcc P x).1, .int .i64 0]) (by simp [results, Try.results49, go_sem, hp1]) rfl ⟨rfl, PN.out⟩
end

end Go.Proofs.Ytlgljcfkoakogaa
