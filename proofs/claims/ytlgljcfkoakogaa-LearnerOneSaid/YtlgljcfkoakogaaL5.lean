import Derived.Test.YtlgljcfkoakogaaL4
namespace Go.Proofs.Ytlgljcfkoakogaa
open Go.RowKit
set_option linter.unusedSimpArgs false
set_option linter.unusedVariables false


open Go.Maps Go.Shelf
theorem wf_small {x : Int} (h0 : 0 ≤ x) (h1 : x < 7) : (Lit.int .i64 x).wf = true := by
  have e1 : IntKind.min .i64 = -9223372036854775808 := by decide
  have e2 : IntKind.max .i64 = 9223372036854775807 := by decide
  simp only [Lit.wf, e1, e2, Bool.and_eq_true, decide_eq_true_eq]
  omega
theorem eq_zero {r n : Int} (h : ¬ r = 0 ∨ ¬ n = 0) (w : World) : (binOp .eql 24 (.agg #[.int .u64 r, .int .i64 n]) (.agg #[.int .u64 0, .int .i64 0])).run Try.prog w = .ok (.bool false) w := by
  rcases h with h | h
  · go_simp
  · by_cases hr : r = 0
    · go_simp
    · go_simp
section
variable {W : World} {g mb : Nat} {L : Lrn} (x r n : Int) (v : ByteArray)
set_option maxRecDepth 100000
set_option maxHeartbeats 1600000
theorem lacc_old (h : LrnAt W g mb L) (h0 : 0 ≤ x) (h1 : x < L.n) (hn : namedB r n = true) (hl : ¬ (8192 : Int) < (v.size : Int)) (hk : L.known = false) (c : Sd) (hc : L.f x = some c) (hcmp : cmpB r n c.1 c.2.1 ≤ 0) :
    Calls Try.prog 45 #[.pointer (some ⟨g, 0, none⟩), .int .i64 x, .agg #[.int .u64 r, .int .i64 n], .string v] W fun e W' =>
    e = .returned (.tuple #[.bool false, .int .i64 0]) ∧ LrnAt W' g mb L ∧ Below W.heap.size W W' := by
  have X := Lib.hid h
  obtain ⟨hm, hz0⟩ := named_split hn
  clear h hn
  obtain ⟨cr, cn, cv⟩ := c
  dsimp only at hcmp
  obtain ⟨d0, d1, d2, d3, dz⟩ := (X.out.keep (W4_facts (W := W) (r := r) (n := n) (v := v)).below).cells
  unfold W4 at d0 d1 d2 d3 dz
  go_enter Try.func45, Try.ntmps45
  go_wp2_with fail
  refine (may_any r n _).mono ?_
  rintro e w1 ⟨rfl, hb1⟩
  have A1 := Lib.hid (AccFr.start (W := W) (r := r) (n := n) (v := v) hb1)
  have L1 := Lib.hid (X.out.keep A1.out.fresh)
  clear hb1 d0 d1 d2 d3 dz
  obtain ⟨c0, c1, c2, c3, c4, f3, f4, hz1⟩ := A1.out.cells
  obtain ⟨g0, g1, g2, g3, hz⟩ := L1.out.cells
  rw [hm]
  rw [hk] at g2
  clear hm hk
  have hq := eq_zero hz0
  go_upto_region 12 with fail
  have hlk := L1.out.said.look (wf_small h0 (by have := L1.out.few; omega) : (Lit.int .i64 x).wf = true)
  rw [hc] at hlk
  unfold sdV at hlk
  simp only [Option.getD_some, Option.isSome_some] at hlk
  go_upto_region 13 with fail
  have A2 := Lib.hid (A1.out.bel ((Below.refl _ w1).alloc (Nat.le_refl _) (.cells #[.int .u64 cr, .int .i64 cn, .string cv] 122)))
  have L2 := Lib.hid (L1.out.keep ((Below.refl _ w1).alloc (Nat.le_refl _) (.cells #[.int .u64 cr, .int .i64 cn, .string cv] 122)))
  have BA := Bk.new w1 #[.int .u64 cr, .int .i64 cn, .string cv] 122
  clear c0 c1 c2 c3 c4 f3 f4 g0 g1 g2 g3 hz hz1 hlk A1 L1
  generalize w1.alloc (.cells #[.int .u64 cr, .int .i64 cn, .string cv] 122) = wA at A2 L2 BA ⊢
  generalize w1.heap.size = q at BA ⊢
  have p0 : wA.cell? ⟨q, 0, none⟩ = some (.int .u64 cr) := BA.cell 0
  have p1 : wA.cell? ⟨q, 1, none⟩ = some (.int .i64 cn) := BA.cell 1
  clear BA
  obtain ⟨c0, c1, c2, c3, c4, f3, f4, hz1⟩ := A2.out.cells
  obtain ⟨g0, g1, g2, g3, hz⟩ := L2.out.cells
  go_wp2_with (go_at_call 21; refine (cmp_any _ _ _ _ _).mono ?_; rintro e w2 ⟨rfl, hb2⟩; have A3 := Lib.hid (A2.out.bel hb2); have L3 := Lib.hid (L2.out.keep hb2); have hbb := Lib.hid hb2; clear hb2; obtain ⟨k0, k1, k2, k3, k4, m3, m4, k5⟩ := A3.out.cells)
  have ER := A3.out.res (.bool false) (.int .i64 0)
  exact bodyPost_ret (v := .tuple #[.bool false, .int .i64 0]) (by simp [results, Try.results45, go_sem, ER.1, ER.2]) rfl ⟨rfl, X.out.keep (A3.out.out _ _), A3.out.out _ _⟩
end

end Go.Proofs.Ytlgljcfkoakogaa
