import Derived.Test.YtlgljcfkoakogaaL1
namespace Go.Proofs.Ytlgljcfkoakogaa
open Go.RowKit
set_option linter.unusedSimpArgs false
set_option linter.unusedVariables false


open Go.Maps Go.Shelf
attribute [local go_sem] Oper.semAt_some
set_option maxRecDepth 100000 in
theorem by_any (g : Nat) (r n : Int) (W : World) : Calls Try.prog 64 #[.pointer (some ⟨g, 0, none⟩), .agg #[.int .u64 r, .int .i64 n]] W fun e W' =>
    e = .returned (.func (.func 72) #[] #[.pointer (some ⟨W.heap.size, 0, none⟩), .pointer (some ⟨W.heap.size + 1, 0, none⟩)]) ∧ W' = (W.alloc (.cells #[.pointer (some ⟨g, 0, none⟩)] 67)).alloc (.cells #[.int .u64 r, .int .i64 n] 24) := by
  go_enter Try.func64, Try.ntmps64
  go_wp2_with fail
  go_ret
  exact ⟨rfl, rfl⟩
/-- What a round of the body must keep: the boxed ballot, and the walks. -/
def KpB (Bb : Nat) (W W' : World) : Prop := KeepsWalks W W' ∧ (Bb < W.heap.size → W'.heap[Bb]? = W.heap[Bb]?)
set_option maxRecDepth 100000 in
set_option maxHeartbeats 1600000 in
theorem by1_in (F : Fence) (nf : Nat) (h8 : F.fn 72) (hro : F.round = none) (hn : 1 ≤ nf) (l Bl Bb g mb nn : Nat) (f : Int → Option Sd) (r n : Int) (J Jx : List (Int × ByteArray) → World → Prop)
    (hY : ∀ pre x W, J pre W → pre.length < nn → YieldAt F (nf - 1) Try.prog l #[.int .i64 x.1, .string x.2] W fun e W' =>
      (e = .returned (.bool true) ∧ J (pre ++ [x]) W' ∧ KpB Bb W W') ∨ (e = .returned (.bool false) ∧ Jx (pre ++ [x]) W'))
    (W : World) (hJ : AbidesFrom W.heap.size J) (hl : W.cell? ⟨Bl, 0, none⟩ = some (.pointer (some ⟨g, 0, none⟩))) (hm : W.cell? ⟨g, 1, none⟩ = some (.map (some mb)))
    (hb : Bk W Bb #[.int .u64 r, .int .i64 n] 24) (hown : SaidIs W mb nn f) (h0 : J [] W) :
    CallsIn F nf Try.prog 72 #[.func (.yield l) #[] #[], .pointer (some ⟨Bl, 0, none⟩), .pointer (some ⟨Bb, 0, none⟩)] W fun e W' => (∃ v, e = .returned v) ∧
      ((∃ ps, Came f r n (fun _ => false) ps ∧ J ps W') ∨ (∃ pre, (∀ x v, (x, v) ∈ pre → f x = some (r, n, v)) ∧ Jx pre W')) := by
  obtain ⟨D, hown, hD⟩ := hown
  have hDD := Lib.hid hD
  have hcm : Came f r n (has D) [] := Came.start fun x => (hD x).1
  have hsz := hown.size_le
  clear hD
  have HCM := Lib.hid hcm
  clear hcm
  refine callsIn_of_wp Try.func72 rfl h8 ?_ hro
  simp only [Try.ntmps72, List.size_toArray, List.length_cons, List.length_nil, Nat.reduceAdd, Nat.reduceSub, Array.replicate_succ, Array.replicate_zero, List.push_toArray, List.append_toArray, List.nil_append, List.cons_append]
  gi_wp2_with (first
    | (gi_at_range; refine wpListIn_range_own _ rfl _ 118 rfl 3 122 Try.law3 Try.underlying118 _ mb nn _ rfl hown ?_; intro w0 hrg0 hg0 hs0)
    | gi_in)
  go_frame
  gi_loopw [4] (fun _ wr => ∃ (left : Lit → Bool) (cnt : Nat) (ps : List (Int × ByteArray)), wr.ranges Try.prog 3 sdR mb W.heap.size nn D left cnt ∧ ps.length + cnt ≤ nn ∧ Came f r n left ps ∧ Bk wr Bb #[.int .u64 r, .int .i64 n] 24 ∧ W.heap.size ≤ wr.heap.size ∧ J ps wr)
    (fun _ wr => wr.rangeLeft mb W.heap.size)
  case atStart =>
    exact ⟨_, _, [], hrg0, by simpa using hsz, HCM.out, (hg0.block Bb hb.lt (by simp)).trans hb, hg0.size, hJ [] W w0 none h0 hg0 (fun r e => by cases e)⟩
  case round =>
    obtain ⟨left, cnt, ps, hrg, hcs, hC, hbb, hws, hJs⟩ := hrel
    have HC := Lib.hid hC
    clear hC HCM
    gi_wp2_with (first
      | (gi_at_next; refine wpListIn_next_ranges _ rfl _ rfl 3 Try.law3 sdR (Value.int .i64) sdV (fun key kl hk => by obtain ⟨x, hx, _⟩ := Maps.keyOf_int_inv Try.underlying3 hk; exact ⟨x, hx⟩) (fun v y hv => by obtain ⟨c, rfl, _⟩ := sdR_inv hv; exact ⟨c, rfl⟩) mb W.heap.size nn _ _ _ rfl hrg ?_ ?_)
      | gi_in)
    · intro hc0 hl0
      gi_wp2
      go_end0
      refine ⟨⟨_, rfl⟩, .inl ⟨ps, ?_, hJs⟩⟩
      have : left = fun _ => false := funext hl0
      rw [← this]
      exact HC.out
    · intro x cr cn cv kl yd yp w2 cnt2 hkey hlk hv hat hrg2 hlt hg2 hs2 hen
      obtain ⟨x', ex, rfl, _⟩ := Maps.keyOf_int_inv Try.underlying3 hkey
      obtain rfl : x = x' := by injection ex
      have hyd : yd = .held (cr, cn, cv) := by rw [sdR_mk] at hv; exact (Prod.mk.inj (Option.some.inj hv)).1.symm
      have hfx : f x = some (cr, cn, cv) := by
        have h1 := (hDD.out x).1
        rw [has_true_of_atKey hat] at h1
        cases hf : f x with
        | none => rw [hf] at h1; cases h1
        | some c' =>
          have h2 := (hDD.out x).2 c' hf (.held (cr, cn, cv))
          rw [hat, hyd] at h2
          rw [DataW.held.inj h2]
      have hJ2 : J ps w2 := hJ ps wr w2 (some W.heap.size) hJs hg2 (fun r e => by cases e; exact ⟨Nat.le_refl _, hrg.iter_walk⟩)
      have hbb2 : Bk w2 Bb #[.int .u64 r, .int .i64 n] 24 := (hg2.block Bb hbb.lt (fun e => by injection e with e; have := hb.lt; omega)).trans hbb
      have hws2 : W.heap.size ≤ w2.heap.size := Nat.le_trans hws hg2.size
      clear hs2
      unfold sdV at hen ⊢
      dsimp only at hen ⊢
      have hbb3 := hbb2.alloc (.cells #[.int .u64 cr, .int .i64 cn, .string cv] 122)
      obtain ⟨c0, c1⟩ : (w2.alloc (.cells #[.int .u64 cr, .int .i64 cn, .string cv] 122)).cell? ⟨Bb, 0, none⟩ = some (.int .u64 r) ∧ (w2.alloc (.cells #[.int .u64 cr, .int .i64 cn, .string cv] 122)).cell? ⟨Bb, 1, none⟩ = some (.int .i64 n) := ⟨hbb3.cell 0, hbb3.cell 1⟩
      have hJ3 : J ps (w2.alloc (.cells #[.int .u64 cr, .int .i64 cn, .string cv] 122)) := hJ ps w2 _ none hJ2 (World.grownBy_alloc _ _ _) (fun r e => by cases e)
      have hrg3 := hrg2.alloc (.cells #[.int .u64 cr, .int .i64 cn, .string cv] 122)
      have hws3 : W.heap.size ≤ (w2.alloc (.cells #[.int .u64 cr, .int .i64 cn, .string cv] 122)).heap.size := by simp; omega
      have HF := Lib.hid hfx
      have HM := Lib.hid hlk
      clear hfx hlk hbb2 hyd hat hv hkey hJ2 hrg2 hbb hJs hb h0 hws
      by_cases hc : cr = r ∧ cn = n
      · obtain ⟨rfl, rfl⟩ := hc
        obtain ⟨fn, tmps, assign, body, hy, hR⟩ := hY ps (x, cv) _ hJ3 (by omega)
        dsimp only at hy
        gi_wp2
        refine hR.mono ?_
        have hC2 := HC.out.hit HM.out HF.out
        rintro e W3 (⟨rfl, hJ4, hk4, hk5⟩ | ⟨rfl, hJx4⟩)
        · gi_wp2
          have hrg4 := hrg3.of_walks hk4
          go_roundw
          case rel => exact ⟨_, cnt2, ps ++ [(x, cv)], hrg4, by simp; omega, hC2, (hk5 hbb3.lt).trans hbb3, Nat.le_trans hws3 hk4.size, hJ4⟩
          case measure => rw [hrg4.left_eq, hrg.left_eq]; exact hlt
        · gi_wp2
          refine bodyPost_ret (results_none rfl _ _ _) rfl ?_
          exact ⟨⟨_, rfl⟩, .inr ⟨ps ++ [(x, cv)], fun y v hyv => ((hC2.2 y v).1 hyv).1, hJx4⟩⟩
      · by_cases hc1 : cr = r
        · subst hc1
          have hc2 : ¬ cn = n := fun e => hc ⟨rfl, e⟩
          have HCN := Lib.hid hc2
          clear hc
          gi_wp2
          refine ⟨fun _ h => (by cases h), ?_⟩
          gi_wp2
          go_roundw
          case rel => exact ⟨_, cnt2, ps, hrg3, by omega, HC.out.miss HM.out HF.out (by simpa using HCN.out), hbb3, hws3, hJ3⟩
          case measure => rw [hrg3.left_eq, hrg.left_eq]; exact hlt
        · have HCN := Lib.hid hc
          clear hc
          gi_wp2
          refine ⟨fun _ h => (by cases h), ?_⟩
          gi_wp2
          go_roundw
          case rel => exact ⟨_, cnt2, ps, hrg3, by omega, HC.out.miss HM.out HF.out (by simpa using HCN.out), hbb3, hws3, hJ3⟩
          case measure => rw [hrg3.left_eq, hrg.left_eq]; exact hlt

end Go.Proofs.Ytlgljcfkoakogaa
