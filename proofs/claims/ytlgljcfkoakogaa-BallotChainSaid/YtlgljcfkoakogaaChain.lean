import Derived.Test.YtlgljcfkoakogaaC3
import Derived.Test.YtlgljcfkoakogaaB1
import Derived.Test.YtlgljcfkoakogaaA7
import Derived.Test.YtlgljcfkoakogaaA4
import Derived.Test.YtlgljcfkoakogaaA2
import Derived.Deep.DeepCutAuto
import Derived.Deep.RegionWith
import Derived.Deep.RegionHeld3
import Derived.BigRegion
import Derived.Carry
import Derived.Test.YtlgljcfkoakogaaD3
import Derived.Test.YtlgljcfkoakogaaC4
namespace Go.Proofs.Ytlgljcfkoakogaa
open Go.RowKit
set_option linter.unusedSimpArgs false
set_option linter.unusedVariables false


set_option maxRecDepth 100000 in
set_option maxHeartbeats 25600000 in
theorem chain_walk (r0 n0 : Int) (A : Option Addr) (cap : Nat) (xs : List Int) (w : World) (hr0 : 0 ≤ r0) (hx : IntsAt w A xs) (hl : xs.length ≤ 9223372036854775807) :
    Calls Try.prog 6 #[.agg #[.int .u64 r0, .int .i64 n0], .slice A xs.length cap] w fun e w' => e = .returned (.bool true) ∧ Below w.heap.size w w' := by
  have HX := Lib.hid hx
  clear hx
  by_cases hbig : (200 : Int) < (xs.length : Int)
  · go_enter Try.func6, Try.ntmps6
    go_wp2_with (go_at_call 17; refine (works11_any _).mono ?_; rintro e w' ⟨rfl, hbw⟩)
    go_ret
    exact ⟨rfl, ((Below.refl _ _).alloc (Nat.le_refl _) _).trans (hbw.mono (by simp))⟩
  go_enter Try.func6, Try.ntmps6
  have hmm : ∀ W, (Instr.makeMap 42 none).run Try.prog W = .ok (.map (some W.heap.size)) (W.alloc (.map #[] 0)) := fun W => run_makeMap 42 W
  go_wp2_with fail
  clear hmm
  go_loopw [6] (fun i wr => ∃ (k : Nat) (r n : Int) (es : Array MapEntry) (clk : Nat), k ≤ xs.length ∧ i = .int .i64 k ∧ 0 ≤ r ∧ Bk wr w.heap.size #[.int .u64 r, .int .i64 n] 24 ∧ wr.heap[w.heap.size + 1]? = some (.map es clk) ∧ KeysBelow es clk r n ∧ Below w.heap.size w wr) (fun i _ => xs.length - (intOf i).toNat)
  case atStart =>
    refine ⟨0, r0, n0, #[], 0, by omega, rfl, hr0, (Bk.new w _ _).alloc _, ?_, KeysBelow.nil _ _, ((Below.refl _ _).alloc (Nat.le_refl _) _).alloc (by simp) _⟩
    have e : (w.alloc (Obj.cells #[Value.int IntKind.u64 r0, Value.int IntKind.i64 n0] 24)).heap.size = w.heap.size + 1 := by simp
    show ((w.alloc (Obj.cells #[Value.int IntKind.u64 r0, Value.int IntKind.i64 n0] 24)).heap.push (Obj.map #[] 0))[w.heap.size + 1]? = _
    rw [← e]
    exact Array.getElem?_push_size
  case round =>
    obtain ⟨k, r, n, es, clk, hk, rfl, hr, kb, km, HK, HB⟩ := hrel
    by_cases hlt : k < xs.length
    · obtain ⟨x, hxk⟩ : ∃ x, x = xs.getD k 0 := ⟨_, rfl⟩
      obtain ⟨b, o, rfl, c0⟩ : ∃ b o, A = some ⟨b, o, none⟩ ∧ wr.cell? ⟨b, o + k, none⟩ = some (.int .i64 x) := by
        rcases HX.out with h0 | ⟨b, o, e, h⟩
        · rw [h0] at hlt; simp at hlt
        · exact ⟨b, o, e, by rw [hxk]; exact (Bel.cell (show Bel w wr from HB) (h k hlt))⟩
      have d0 : wr.cell? ⟨w.heap.size, 0, none⟩ = _ := kb.cell 0
      have d1 : wr.cell? ⟨w.heap.size, 1, none⟩ = _ := kb.cell 1
      simp at d0 d1
      have hkl : (k : Int) < (xs.length : Int) := by omega
      have KB := Lib.hid kb
      have KM := Lib.hid km
      have HKB := Lib.hid HK
      have HBB := Lib.hid HB
      have hz := kb.lt
      have hzb : b < wr.heap.size := World.block_lt_of_cell? wr _ c0
      clear kb km HK HB
      obtain ⟨⟨m1, m2, m3⟩, hn⟩ : ∃ t, nx r n x = t := ⟨_, rfl⟩
      have HN : ∀ W, Calls Try.prog 22 #[.agg #[.int .u64 r, .int .i64 n], .int .i64 x] W fun e W' => e = .returned (.tuple #[.agg #[.int .u64 m1, .int .i64 m2], .int .i64 m3]) ∧ Below W.heap.size W W' := fun W => by
        have := next_any r n x W hr
        unfold NxPost at this
        rw [hn] at this
        exact this
      have HN := Lib.hid HN
      have HNX := Lib.hid hn
      have HS : ∀ W, Bel wr W → W.cell? ⟨b, o + k, none⟩ = some (.int .i64 x) ∧ W.cell? ⟨w.heap.size, 0, none⟩ = some (.int .u64 r) ∧ W.cell? ⟨w.heap.size, 1, none⟩ = some (.int .i64 n) := fun W hW => ⟨Bel.cell hW c0, Bel.cell hW d0, Bel.cell hW d1⟩
      have HS := Lib.hid HS
      have hW0 : Bel wr wr.drew := (Bel.refl wr).drew
      clear hn c0 d0 d1 hxk
      go_upto_region 7 with fail
      refine wp_aw 12 #[false, false, false, false, false, false, false, false, false, false, false, false] rfl rfl ?_
      refine aw_meet 2 ?L ?F (C := fun g W => Bel wr W ∧ wr.heap.size ≤ g ∧ W.heap[g]? = some (.cells #[.int .u64 0, .int .i64 0] 24 (0, 0))) (fun END => ?_) ?_
      case refine_1 =>
        refine awt1 1 1 (o := ({ dst := some 22, op := Go.Op.move (Go.Operand.tmp 1), type := 25, pos := "law.go:103", after := #[], guard := none })) (v := ?_) rfl (by kernel_rfl) (by kernel_rfl) (by kernel_rfl) (fun _ _ _ h => h) (by rfl) (by rfl) (fun ev hc hf h0 W => ?_) ?_; rotate_left; (focus (first | (go_simp; done) | (go_simp; with_reducible rfl))); rotate_left; simp only [Act.put, List.setIfInBounds_toArray, List.set_cons_zero, List.set_cons_succ]
        refine awt1 2 6 (o := ({ dst := some 23, op := Go.Op.move (Go.Operand.tmp 6), type := 3, pos := "law.go:103", after := #[], guard := none })) (v := ?_) rfl (by kernel_rfl) (by kernel_rfl) (by kernel_rfl) (fun _ _ _ h => h) (by rfl) (by rfl) (fun ev hc hf h0 W => ?_) ?_; rotate_left; (focus (first | (go_simp; done) | (go_simp; with_reducible rfl))); rotate_left; simp only [Act.put, List.setIfInBounds_toArray, List.set_cons_zero, List.set_cons_succ]
        refine awt2 3 22 23 (o := ({ dst := some 24, op := Go.Op.indexAddr 25 (Go.Operand.tmp 22) (Go.Operand.tmp 23), type := 0, pos := "law.go:103", after := #[{ on := 1, ground := Go.Ground.data }, { on := 2, ground := Go.Ground.data }], guard := none })) (v := ?_) rfl (by kernel_rfl) (by kernel_rfl) (by kernel_rfl) (fun _ _ _ h => h) (by rfl) (by rfl) (by rfl) (fun ev hc hf h0 h1 W => ?_) ?_; rotate_left; (focus (first | (go_simp; done) | (go_simp; with_reducible rfl))); rotate_left; simp only [Act.put, List.setIfInBounds_toArray, List.set_cons_zero, List.set_cons_succ]
        refine aw_all [0, 4, 9] (by kernel_rfl) (by simp) ?_
        refine arv1 (o := ({ dst := some 21, op := Go.Op.load 24 (Go.Operand.tmp 2), type := 24, pos := "law.go:103", after := #[], guard := none })) 2 (v := ?_) (W' := ?_) rfl (by rfl) (by rfl) (fun ev hc hf h0 => ?_) ?_ ?_; rotate_left 2; (focus (obtain ⟨e0, e1, e2⟩ := HS.out _ hW0; first | (go_simp; done) | (go_simp; with_reducible rfl) | (go_simp; constructor <;> with_reducible rfl)))
        · simp only [Act.put, List.setIfInBounds_toArray, List.set_cons_zero, List.set_cons_succ]
          refine aw_all [4, 9] (by kernel_rfl) (by simp) ?_
          refine arv1 (o := ({ dst := some 25, op := Go.Op.load 3 (Go.Operand.tmp 24), type := 3, pos := "law.go:103", after := #[{ on := 3, ground := Go.Ground.data }], guard := none })) 24 (v := ?_) (W' := ?_) rfl (by rfl) (by rfl) (fun ev hc hf h0 => ?_) ?_ ?_; rotate_left 2; (focus (obtain ⟨e0, e1, e2⟩ := HS.out _ hW0; first | (go_simp; done) | (go_simp; with_reducible rfl) | (go_simp; constructor <;> with_reducible rfl)))
          · simp only [Act.put, List.setIfInBounds_toArray, List.set_cons_zero, List.set_cons_succ]
            refine aw_all [5, 9] (by kernel_rfl) (by simp) ?_
            refine arc2 (o := ({ dst := some 26, op := Go.Op.call { callee := Go.Callee.value (Go.Operand.func 22), args := #[Go.Operand.tmp 21, Go.Operand.tmp 25], argTypes := #[24, 3] }, type := 31, pos := "law.go:103", after := #[{ on := 0, ground := Go.Ground.data }, { on := 4, ground := Go.Ground.data }], guard := none })) 21 25 _ _ _ rfl (by rfl) (by rfl) (by rfl) (fun ev hc hf h0 h1 => ?_) (HN.out _) (fun W3 hc3 => ?_) ?_
            · focus (go_simp; done)
            · simp only [Act.put, List.setIfInBounds_toArray, List.set_cons_zero, List.set_cons_succ]
              have hW3 := hW0.step hc3
              refine awt1 6 26 (o := ({ dst := some 20, op := Go.Op.move (Go.Operand.tmp 26), type := 31, pos := "law.go:103", after := #[{ on := 5, ground := Go.Ground.data }], guard := none })) (v := ?_) rfl (by kernel_rfl) (by kernel_rfl) (by kernel_rfl) (fun _ _ _ h => h) (by rfl) (by rfl) (fun ev hc hf h0 W => ?_) ?_; rotate_left; (focus (first | (go_simp; done) | (go_simp; with_reducible rfl))); rotate_left; simp only [Act.put, List.setIfInBounds_toArray, List.set_cons_zero, List.set_cons_succ]
              refine awt1 7 20 (o := ({ dst := some 27, op := Go.Op.extract (Go.Operand.tmp 20) 0, type := 24, pos := "law.go:103", after := #[{ on := 6, ground := Go.Ground.data }], guard := none })) (v := ?_) rfl (by kernel_rfl) (by kernel_rfl) (by kernel_rfl) (fun _ _ _ h => h) (by rfl) (by rfl) (fun ev hc hf h0 W => ?_) ?_; rotate_left; (focus (first | (go_simp; done) | (go_simp; with_reducible rfl))); rotate_left; simp only [Act.put, List.setIfInBounds_toArray, List.set_cons_zero, List.set_cons_succ]
              refine awt1 8 20 (o := ({ dst := some 28, op := Go.Op.extract (Go.Operand.tmp 20) 1, type := 30, pos := "law.go:103", after := #[{ on := 6, ground := Go.Ground.data }, { on := 10, ground := Go.Ground.gcOnly Go.Departure.lateStores }], guard := none })) (v := ?_) rfl (by kernel_rfl) (by kernel_rfl) (by kernel_rfl) (fun _ _ _ h => h) (by rfl) (by rfl) (fun ev hc hf h0 W => ?_) ?_; rotate_left; (focus (first | (go_simp; done) | (go_simp; with_reducible rfl))); rotate_left; simp only [Act.put, List.setIfInBounds_toArray, List.set_cons_zero, List.set_cons_succ]
              refine aw_all [9] (by kernel_rfl) (by simp) ?_
              refine ar_alloc (o := ({ dst := some 7, op := Go.Op.alloc 24, type := 0, pos := "law.go:103", after := #[], guard := none })) rfl (by rfl) (fun ev => rfl) hW3 (fun g4 W4 hg4 hW4 hgo4 => ?_) ?_
              · simp only [Act.put, List.setIfInBounds_toArray, List.set_cons_zero, List.set_cons_succ]
                exact END g4 _ ⟨hW4, hg4, hgo4⟩
              exact ar_nil
            refine ar_alloc (o := ({ dst := some 7, op := Go.Op.alloc 24, type := 0, pos := "law.go:103", after := #[], guard := none })) rfl (by rfl) (fun ev => rfl) hW0 (fun g5 W5 hg5 hW5 hgo5 => ?_) ?_
            · simp only [Act.put, List.setIfInBounds_toArray, List.set_cons_zero, List.set_cons_succ]
              refine aw_all [5] (by kernel_rfl) (by simp) ?_
              refine arc2 (o := ({ dst := some 26, op := Go.Op.call { callee := Go.Callee.value (Go.Operand.func 22), args := #[Go.Operand.tmp 21, Go.Operand.tmp 25], argTypes := #[24, 3] }, type := 31, pos := "law.go:103", after := #[{ on := 0, ground := Go.Ground.data }, { on := 4, ground := Go.Ground.data }], guard := none })) 21 25 _ _ _ rfl (by rfl) (by rfl) (by rfl) (fun ev hc hf h0 h1 => ?_) (HN.out _) (fun W6 hc6 => ?_) ?_
              · focus (go_simp; done)
              · simp only [Act.put, List.setIfInBounds_toArray, List.set_cons_zero, List.set_cons_succ]
                have hgo6_g5 := ((hW5.keeps hc6).2 _ hg5 (Array.getElem?_eq_some_iff.1 hgo5).1).trans hgo5
                have hW6 := hW5.step hc6
                refine awt1 6 26 (o := ({ dst := some 20, op := Go.Op.move (Go.Operand.tmp 26), type := 31, pos := "law.go:103", after := #[{ on := 5, ground := Go.Ground.data }], guard := none })) (v := ?_) rfl (by kernel_rfl) (by kernel_rfl) (by kernel_rfl) (fun _ _ _ h => h) (by rfl) (by rfl) (fun ev hc hf h0 W => ?_) ?_; rotate_left; (focus (first | (go_simp; done) | (go_simp; with_reducible rfl))); rotate_left; simp only [Act.put, List.setIfInBounds_toArray, List.set_cons_zero, List.set_cons_succ]
                refine awt1 7 20 (o := ({ dst := some 27, op := Go.Op.extract (Go.Operand.tmp 20) 0, type := 24, pos := "law.go:103", after := #[{ on := 6, ground := Go.Ground.data }], guard := none })) (v := ?_) rfl (by kernel_rfl) (by kernel_rfl) (by kernel_rfl) (fun _ _ _ h => h) (by rfl) (by rfl) (fun ev hc hf h0 W => ?_) ?_; rotate_left; (focus (first | (go_simp; done) | (go_simp; with_reducible rfl))); rotate_left; simp only [Act.put, List.setIfInBounds_toArray, List.set_cons_zero, List.set_cons_succ]
                refine awt1 8 20 (o := ({ dst := some 28, op := Go.Op.extract (Go.Operand.tmp 20) 1, type := 30, pos := "law.go:103", after := #[{ on := 6, ground := Go.Ground.data }, { on := 10, ground := Go.Ground.gcOnly Go.Departure.lateStores }], guard := none })) (v := ?_) rfl (by kernel_rfl) (by kernel_rfl) (by kernel_rfl) (fun _ _ _ h => h) (by rfl) (by rfl) (fun ev hc hf h0 W => ?_) ?_; rotate_left; (focus (first | (go_simp; done) | (go_simp; with_reducible rfl))); rotate_left; simp only [Act.put, List.setIfInBounds_toArray, List.set_cons_zero, List.set_cons_succ]
                exact END g5 _ ⟨hW6, hg5, hgo6_g5⟩
              exact ar_nil
            exact ar_nil
          refine ar_alloc (o := ({ dst := some 7, op := Go.Op.alloc 24, type := 0, pos := "law.go:103", after := #[], guard := none })) rfl (by rfl) (fun ev => rfl) hW0 (fun g7 W7 hg7 hW7 hgo7 => ?_) ?_
          · simp only [Act.put, List.setIfInBounds_toArray, List.set_cons_zero, List.set_cons_succ]
            refine aw_all [4] (by kernel_rfl) (by simp) ?_
            refine arv1 (o := ({ dst := some 25, op := Go.Op.load 3 (Go.Operand.tmp 24), type := 3, pos := "law.go:103", after := #[{ on := 3, ground := Go.Ground.data }], guard := none })) 24 (v := ?_) (W' := ?_) rfl (by rfl) (by rfl) (fun ev hc hf h0 => ?_) ?_ ?_; rotate_left 2; (focus (obtain ⟨e0, e1, e2⟩ := HS.out _ hW7; first | (go_simp; done) | (go_simp; with_reducible rfl) | (go_simp; constructor <;> with_reducible rfl)))
            · simp only [Act.put, List.setIfInBounds_toArray, List.set_cons_zero, List.set_cons_succ]
              refine aw_all [5] (by kernel_rfl) (by simp) ?_
              refine arc2 (o := ({ dst := some 26, op := Go.Op.call { callee := Go.Callee.value (Go.Operand.func 22), args := #[Go.Operand.tmp 21, Go.Operand.tmp 25], argTypes := #[24, 3] }, type := 31, pos := "law.go:103", after := #[{ on := 0, ground := Go.Ground.data }, { on := 4, ground := Go.Ground.data }], guard := none })) 21 25 _ _ _ rfl (by rfl) (by rfl) (by rfl) (fun ev hc hf h0 h1 => ?_) (HN.out _) (fun W9 hc9 => ?_) ?_
              · focus (go_simp; done)
              · simp only [Act.put, List.setIfInBounds_toArray, List.set_cons_zero, List.set_cons_succ]
                have hgo9_g7 := ((hW7.keeps hc9).2 _ hg7 (Array.getElem?_eq_some_iff.1 hgo7).1).trans hgo7
                have hW9 := hW7.step hc9
                refine awt1 6 26 (o := ({ dst := some 20, op := Go.Op.move (Go.Operand.tmp 26), type := 31, pos := "law.go:103", after := #[{ on := 5, ground := Go.Ground.data }], guard := none })) (v := ?_) rfl (by kernel_rfl) (by kernel_rfl) (by kernel_rfl) (fun _ _ _ h => h) (by rfl) (by rfl) (fun ev hc hf h0 W => ?_) ?_; rotate_left; (focus (first | (go_simp; done) | (go_simp; with_reducible rfl))); rotate_left; simp only [Act.put, List.setIfInBounds_toArray, List.set_cons_zero, List.set_cons_succ]
                refine awt1 7 20 (o := ({ dst := some 27, op := Go.Op.extract (Go.Operand.tmp 20) 0, type := 24, pos := "law.go:103", after := #[{ on := 6, ground := Go.Ground.data }], guard := none })) (v := ?_) rfl (by kernel_rfl) (by kernel_rfl) (by kernel_rfl) (fun _ _ _ h => h) (by rfl) (by rfl) (fun ev hc hf h0 W => ?_) ?_; rotate_left; (focus (first | (go_simp; done) | (go_simp; with_reducible rfl))); rotate_left; simp only [Act.put, List.setIfInBounds_toArray, List.set_cons_zero, List.set_cons_succ]
                refine awt1 8 20 (o := ({ dst := some 28, op := Go.Op.extract (Go.Operand.tmp 20) 1, type := 30, pos := "law.go:103", after := #[{ on := 6, ground := Go.Ground.data }, { on := 10, ground := Go.Ground.gcOnly Go.Departure.lateStores }], guard := none })) (v := ?_) rfl (by kernel_rfl) (by kernel_rfl) (by kernel_rfl) (fun _ _ _ h => h) (by rfl) (by rfl) (fun ev hc hf h0 W => ?_) ?_; rotate_left; (focus (first | (go_simp; done) | (go_simp; with_reducible rfl))); rotate_left; simp only [Act.put, List.setIfInBounds_toArray, List.set_cons_zero, List.set_cons_succ]
                exact END g7 _ ⟨hW9, hg7, hgo9_g7⟩
              exact ar_nil
            exact ar_nil
          exact ar_nil
        refine arv1 (o := ({ dst := some 25, op := Go.Op.load 3 (Go.Operand.tmp 24), type := 3, pos := "law.go:103", after := #[{ on := 3, ground := Go.Ground.data }], guard := none })) 24 (v := ?_) (W' := ?_) rfl (by rfl) (by rfl) (fun ev hc hf h0 => ?_) ?_ ?_; rotate_left 2; (focus (obtain ⟨e0, e1, e2⟩ := HS.out _ hW0; first | (go_simp; done) | (go_simp; with_reducible rfl) | (go_simp; constructor <;> with_reducible rfl)))
        · simp only [Act.put, List.setIfInBounds_toArray, List.set_cons_zero, List.set_cons_succ]
          refine aw_all [0, 9] (by kernel_rfl) (by simp) ?_
          refine arv1 (o := ({ dst := some 21, op := Go.Op.load 24 (Go.Operand.tmp 2), type := 24, pos := "law.go:103", after := #[], guard := none })) 2 (v := ?_) (W' := ?_) rfl (by rfl) (by rfl) (fun ev hc hf h0 => ?_) ?_ ?_; rotate_left 2; (focus (obtain ⟨e0, e1, e2⟩ := HS.out _ hW0; first | (go_simp; done) | (go_simp; with_reducible rfl) | (go_simp; constructor <;> with_reducible rfl)))
          · simp only [Act.put, List.setIfInBounds_toArray, List.set_cons_zero, List.set_cons_succ]
            refine aw_all [5, 9] (by kernel_rfl) (by simp) ?_
            refine arc2 (o := ({ dst := some 26, op := Go.Op.call { callee := Go.Callee.value (Go.Operand.func 22), args := #[Go.Operand.tmp 21, Go.Operand.tmp 25], argTypes := #[24, 3] }, type := 31, pos := "law.go:103", after := #[{ on := 0, ground := Go.Ground.data }, { on := 4, ground := Go.Ground.data }], guard := none })) 21 25 _ _ _ rfl (by rfl) (by rfl) (by rfl) (fun ev hc hf h0 h1 => ?_) (HN.out _) (fun W12 hc12 => ?_) ?_
            · focus (go_simp; done)
            · simp only [Act.put, List.setIfInBounds_toArray, List.set_cons_zero, List.set_cons_succ]
              have hW12 := hW0.step hc12
              refine awt1 6 26 (o := ({ dst := some 20, op := Go.Op.move (Go.Operand.tmp 26), type := 31, pos := "law.go:103", after := #[{ on := 5, ground := Go.Ground.data }], guard := none })) (v := ?_) rfl (by kernel_rfl) (by kernel_rfl) (by kernel_rfl) (fun _ _ _ h => h) (by rfl) (by rfl) (fun ev hc hf h0 W => ?_) ?_; rotate_left; (focus (first | (go_simp; done) | (go_simp; with_reducible rfl))); rotate_left; simp only [Act.put, List.setIfInBounds_toArray, List.set_cons_zero, List.set_cons_succ]
              refine awt1 7 20 (o := ({ dst := some 27, op := Go.Op.extract (Go.Operand.tmp 20) 0, type := 24, pos := "law.go:103", after := #[{ on := 6, ground := Go.Ground.data }], guard := none })) (v := ?_) rfl (by kernel_rfl) (by kernel_rfl) (by kernel_rfl) (fun _ _ _ h => h) (by rfl) (by rfl) (fun ev hc hf h0 W => ?_) ?_; rotate_left; (focus (first | (go_simp; done) | (go_simp; with_reducible rfl))); rotate_left; simp only [Act.put, List.setIfInBounds_toArray, List.set_cons_zero, List.set_cons_succ]
              refine awt1 8 20 (o := ({ dst := some 28, op := Go.Op.extract (Go.Operand.tmp 20) 1, type := 30, pos := "law.go:103", after := #[{ on := 6, ground := Go.Ground.data }, { on := 10, ground := Go.Ground.gcOnly Go.Departure.lateStores }], guard := none })) (v := ?_) rfl (by kernel_rfl) (by kernel_rfl) (by kernel_rfl) (fun _ _ _ h => h) (by rfl) (by rfl) (fun ev hc hf h0 W => ?_) ?_; rotate_left; (focus (first | (go_simp; done) | (go_simp; with_reducible rfl))); rotate_left; simp only [Act.put, List.setIfInBounds_toArray, List.set_cons_zero, List.set_cons_succ]
              refine aw_all [9] (by kernel_rfl) (by simp) ?_
              refine ar_alloc (o := ({ dst := some 7, op := Go.Op.alloc 24, type := 0, pos := "law.go:103", after := #[], guard := none })) rfl (by rfl) (fun ev => rfl) hW12 (fun g13 W13 hg13 hW13 hgo13 => ?_) ?_
              · simp only [Act.put, List.setIfInBounds_toArray, List.set_cons_zero, List.set_cons_succ]
                exact END g13 _ ⟨hW13, hg13, hgo13⟩
              exact ar_nil
            refine ar_alloc (o := ({ dst := some 7, op := Go.Op.alloc 24, type := 0, pos := "law.go:103", after := #[], guard := none })) rfl (by rfl) (fun ev => rfl) hW0 (fun g14 W14 hg14 hW14 hgo14 => ?_) ?_
            · simp only [Act.put, List.setIfInBounds_toArray, List.set_cons_zero, List.set_cons_succ]
              refine aw_all [5] (by kernel_rfl) (by simp) ?_
              refine arc2 (o := ({ dst := some 26, op := Go.Op.call { callee := Go.Callee.value (Go.Operand.func 22), args := #[Go.Operand.tmp 21, Go.Operand.tmp 25], argTypes := #[24, 3] }, type := 31, pos := "law.go:103", after := #[{ on := 0, ground := Go.Ground.data }, { on := 4, ground := Go.Ground.data }], guard := none })) 21 25 _ _ _ rfl (by rfl) (by rfl) (by rfl) (fun ev hc hf h0 h1 => ?_) (HN.out _) (fun W15 hc15 => ?_) ?_
              · focus (go_simp; done)
              · simp only [Act.put, List.setIfInBounds_toArray, List.set_cons_zero, List.set_cons_succ]
                have hgo15_g14 := ((hW14.keeps hc15).2 _ hg14 (Array.getElem?_eq_some_iff.1 hgo14).1).trans hgo14
                have hW15 := hW14.step hc15
                refine awt1 6 26 (o := ({ dst := some 20, op := Go.Op.move (Go.Operand.tmp 26), type := 31, pos := "law.go:103", after := #[{ on := 5, ground := Go.Ground.data }], guard := none })) (v := ?_) rfl (by kernel_rfl) (by kernel_rfl) (by kernel_rfl) (fun _ _ _ h => h) (by rfl) (by rfl) (fun ev hc hf h0 W => ?_) ?_; rotate_left; (focus (first | (go_simp; done) | (go_simp; with_reducible rfl))); rotate_left; simp only [Act.put, List.setIfInBounds_toArray, List.set_cons_zero, List.set_cons_succ]
                refine awt1 7 20 (o := ({ dst := some 27, op := Go.Op.extract (Go.Operand.tmp 20) 0, type := 24, pos := "law.go:103", after := #[{ on := 6, ground := Go.Ground.data }], guard := none })) (v := ?_) rfl (by kernel_rfl) (by kernel_rfl) (by kernel_rfl) (fun _ _ _ h => h) (by rfl) (by rfl) (fun ev hc hf h0 W => ?_) ?_; rotate_left; (focus (first | (go_simp; done) | (go_simp; with_reducible rfl))); rotate_left; simp only [Act.put, List.setIfInBounds_toArray, List.set_cons_zero, List.set_cons_succ]
                refine awt1 8 20 (o := ({ dst := some 28, op := Go.Op.extract (Go.Operand.tmp 20) 1, type := 30, pos := "law.go:103", after := #[{ on := 6, ground := Go.Ground.data }, { on := 10, ground := Go.Ground.gcOnly Go.Departure.lateStores }], guard := none })) (v := ?_) rfl (by kernel_rfl) (by kernel_rfl) (by kernel_rfl) (fun _ _ _ h => h) (by rfl) (by rfl) (fun ev hc hf h0 W => ?_) ?_; rotate_left; (focus (first | (go_simp; done) | (go_simp; with_reducible rfl))); rotate_left; simp only [Act.put, List.setIfInBounds_toArray, List.set_cons_zero, List.set_cons_succ]
                exact END g14 _ ⟨hW15, hg14, hgo15_g14⟩
              exact ar_nil
            exact ar_nil
          refine ar_alloc (o := ({ dst := some 7, op := Go.Op.alloc 24, type := 0, pos := "law.go:103", after := #[], guard := none })) rfl (by rfl) (fun ev => rfl) hW0 (fun g16 W16 hg16 hW16 hgo16 => ?_) ?_
          · simp only [Act.put, List.setIfInBounds_toArray, List.set_cons_zero, List.set_cons_succ]
            refine aw_all [0] (by kernel_rfl) (by simp) ?_
            refine arv1 (o := ({ dst := some 21, op := Go.Op.load 24 (Go.Operand.tmp 2), type := 24, pos := "law.go:103", after := #[], guard := none })) 2 (v := ?_) (W' := ?_) rfl (by rfl) (by rfl) (fun ev hc hf h0 => ?_) ?_ ?_; rotate_left 2; (focus (obtain ⟨e0, e1, e2⟩ := HS.out _ hW16; first | (go_simp; done) | (go_simp; with_reducible rfl) | (go_simp; constructor <;> with_reducible rfl)))
            · simp only [Act.put, List.setIfInBounds_toArray, List.set_cons_zero, List.set_cons_succ]
              refine aw_all [5] (by kernel_rfl) (by simp) ?_
              refine arc2 (o := ({ dst := some 26, op := Go.Op.call { callee := Go.Callee.value (Go.Operand.func 22), args := #[Go.Operand.tmp 21, Go.Operand.tmp 25], argTypes := #[24, 3] }, type := 31, pos := "law.go:103", after := #[{ on := 0, ground := Go.Ground.data }, { on := 4, ground := Go.Ground.data }], guard := none })) 21 25 _ _ _ rfl (by rfl) (by rfl) (by rfl) (fun ev hc hf h0 h1 => ?_) (HN.out _) (fun W18 hc18 => ?_) ?_
              · focus (go_simp; done)
              · simp only [Act.put, List.setIfInBounds_toArray, List.set_cons_zero, List.set_cons_succ]
                have hgo18_g16 := ((hW16.keeps hc18).2 _ hg16 (Array.getElem?_eq_some_iff.1 hgo16).1).trans hgo16
                have hW18 := hW16.step hc18
                refine awt1 6 26 (o := ({ dst := some 20, op := Go.Op.move (Go.Operand.tmp 26), type := 31, pos := "law.go:103", after := #[{ on := 5, ground := Go.Ground.data }], guard := none })) (v := ?_) rfl (by kernel_rfl) (by kernel_rfl) (by kernel_rfl) (fun _ _ _ h => h) (by rfl) (by rfl) (fun ev hc hf h0 W => ?_) ?_; rotate_left; (focus (first | (go_simp; done) | (go_simp; with_reducible rfl))); rotate_left; simp only [Act.put, List.setIfInBounds_toArray, List.set_cons_zero, List.set_cons_succ]
                refine awt1 7 20 (o := ({ dst := some 27, op := Go.Op.extract (Go.Operand.tmp 20) 0, type := 24, pos := "law.go:103", after := #[{ on := 6, ground := Go.Ground.data }], guard := none })) (v := ?_) rfl (by kernel_rfl) (by kernel_rfl) (by kernel_rfl) (fun _ _ _ h => h) (by rfl) (by rfl) (fun ev hc hf h0 W => ?_) ?_; rotate_left; (focus (first | (go_simp; done) | (go_simp; with_reducible rfl))); rotate_left; simp only [Act.put, List.setIfInBounds_toArray, List.set_cons_zero, List.set_cons_succ]
                refine awt1 8 20 (o := ({ dst := some 28, op := Go.Op.extract (Go.Operand.tmp 20) 1, type := 30, pos := "law.go:103", after := #[{ on := 6, ground := Go.Ground.data }, { on := 10, ground := Go.Ground.gcOnly Go.Departure.lateStores }], guard := none })) (v := ?_) rfl (by kernel_rfl) (by kernel_rfl) (by kernel_rfl) (fun _ _ _ h => h) (by rfl) (by rfl) (fun ev hc hf h0 W => ?_) ?_; rotate_left; (focus (first | (go_simp; done) | (go_simp; with_reducible rfl))); rotate_left; simp only [Act.put, List.setIfInBounds_toArray, List.set_cons_zero, List.set_cons_succ]
                exact END g16 _ ⟨hW18, hg16, hgo18_g16⟩
              exact ar_nil
            exact ar_nil
          exact ar_nil
        refine ar_alloc (o := ({ dst := some 7, op := Go.Op.alloc 24, type := 0, pos := "law.go:103", after := #[], guard := none })) rfl (by rfl) (fun ev => rfl) hW0 (fun g19 W19 hg19 hW19 hgo19 => ?_) ?_
        · simp only [Act.put, List.setIfInBounds_toArray, List.set_cons_zero, List.set_cons_succ]
          refine aw_all [0, 4] (by kernel_rfl) (by simp) ?_
          refine arv1 (o := ({ dst := some 21, op := Go.Op.load 24 (Go.Operand.tmp 2), type := 24, pos := "law.go:103", after := #[], guard := none })) 2 (v := ?_) (W' := ?_) rfl (by rfl) (by rfl) (fun ev hc hf h0 => ?_) ?_ ?_; rotate_left 2; (focus (obtain ⟨e0, e1, e2⟩ := HS.out _ hW19; first | (go_simp; done) | (go_simp; with_reducible rfl) | (go_simp; constructor <;> with_reducible rfl)))
          · simp only [Act.put, List.setIfInBounds_toArray, List.set_cons_zero, List.set_cons_succ]
            refine aw_all [4] (by kernel_rfl) (by simp) ?_
            refine arv1 (o := ({ dst := some 25, op := Go.Op.load 3 (Go.Operand.tmp 24), type := 3, pos := "law.go:103", after := #[{ on := 3, ground := Go.Ground.data }], guard := none })) 24 (v := ?_) (W' := ?_) rfl (by rfl) (by rfl) (fun ev hc hf h0 => ?_) ?_ ?_; rotate_left 2; (focus (obtain ⟨e0, e1, e2⟩ := HS.out _ hW19; first | (go_simp; done) | (go_simp; with_reducible rfl) | (go_simp; constructor <;> with_reducible rfl)))
            · simp only [Act.put, List.setIfInBounds_toArray, List.set_cons_zero, List.set_cons_succ]
              refine aw_all [5] (by kernel_rfl) (by simp) ?_
              refine arc2 (o := ({ dst := some 26, op := Go.Op.call { callee := Go.Callee.value (Go.Operand.func 22), args := #[Go.Operand.tmp 21, Go.Operand.tmp 25], argTypes := #[24, 3] }, type := 31, pos := "law.go:103", after := #[{ on := 0, ground := Go.Ground.data }, { on := 4, ground := Go.Ground.data }], guard := none })) 21 25 _ _ _ rfl (by rfl) (by rfl) (by rfl) (fun ev hc hf h0 h1 => ?_) (HN.out _) (fun W22 hc22 => ?_) ?_
              · focus (go_simp; done)
              · simp only [Act.put, List.setIfInBounds_toArray, List.set_cons_zero, List.set_cons_succ]
                have hgo22_g19 := ((hW19.keeps hc22).2 _ hg19 (Array.getElem?_eq_some_iff.1 hgo19).1).trans hgo19
                have hW22 := hW19.step hc22
                refine awt1 6 26 (o := ({ dst := some 20, op := Go.Op.move (Go.Operand.tmp 26), type := 31, pos := "law.go:103", after := #[{ on := 5, ground := Go.Ground.data }], guard := none })) (v := ?_) rfl (by kernel_rfl) (by kernel_rfl) (by kernel_rfl) (fun _ _ _ h => h) (by rfl) (by rfl) (fun ev hc hf h0 W => ?_) ?_; rotate_left; (focus (first | (go_simp; done) | (go_simp; with_reducible rfl))); rotate_left; simp only [Act.put, List.setIfInBounds_toArray, List.set_cons_zero, List.set_cons_succ]
                refine awt1 7 20 (o := ({ dst := some 27, op := Go.Op.extract (Go.Operand.tmp 20) 0, type := 24, pos := "law.go:103", after := #[{ on := 6, ground := Go.Ground.data }], guard := none })) (v := ?_) rfl (by kernel_rfl) (by kernel_rfl) (by kernel_rfl) (fun _ _ _ h => h) (by rfl) (by rfl) (fun ev hc hf h0 W => ?_) ?_; rotate_left; (focus (first | (go_simp; done) | (go_simp; with_reducible rfl))); rotate_left; simp only [Act.put, List.setIfInBounds_toArray, List.set_cons_zero, List.set_cons_succ]
                refine awt1 8 20 (o := ({ dst := some 28, op := Go.Op.extract (Go.Operand.tmp 20) 1, type := 30, pos := "law.go:103", after := #[{ on := 6, ground := Go.Ground.data }, { on := 10, ground := Go.Ground.gcOnly Go.Departure.lateStores }], guard := none })) (v := ?_) rfl (by kernel_rfl) (by kernel_rfl) (by kernel_rfl) (fun _ _ _ h => h) (by rfl) (by rfl) (fun ev hc hf h0 W => ?_) ?_; rotate_left; (focus (first | (go_simp; done) | (go_simp; with_reducible rfl))); rotate_left; simp only [Act.put, List.setIfInBounds_toArray, List.set_cons_zero, List.set_cons_succ]
                exact END g19 _ ⟨hW22, hg19, hgo22_g19⟩
              exact ar_nil
            exact ar_nil
          refine arv1 (o := ({ dst := some 25, op := Go.Op.load 3 (Go.Operand.tmp 24), type := 3, pos := "law.go:103", after := #[{ on := 3, ground := Go.Ground.data }], guard := none })) 24 (v := ?_) (W' := ?_) rfl (by rfl) (by rfl) (fun ev hc hf h0 => ?_) ?_ ?_; rotate_left 2; (focus (obtain ⟨e0, e1, e2⟩ := HS.out _ hW19; first | (go_simp; done) | (go_simp; with_reducible rfl) | (go_simp; constructor <;> with_reducible rfl)))
          · simp only [Act.put, List.setIfInBounds_toArray, List.set_cons_zero, List.set_cons_succ]
            refine aw_all [0] (by kernel_rfl) (by simp) ?_
            refine arv1 (o := ({ dst := some 21, op := Go.Op.load 24 (Go.Operand.tmp 2), type := 24, pos := "law.go:103", after := #[], guard := none })) 2 (v := ?_) (W' := ?_) rfl (by rfl) (by rfl) (fun ev hc hf h0 => ?_) ?_ ?_; rotate_left 2; (focus (obtain ⟨e0, e1, e2⟩ := HS.out _ hW19; first | (go_simp; done) | (go_simp; with_reducible rfl) | (go_simp; constructor <;> with_reducible rfl)))
            · simp only [Act.put, List.setIfInBounds_toArray, List.set_cons_zero, List.set_cons_succ]
              refine aw_all [5] (by kernel_rfl) (by simp) ?_
              refine arc2 (o := ({ dst := some 26, op := Go.Op.call { callee := Go.Callee.value (Go.Operand.func 22), args := #[Go.Operand.tmp 21, Go.Operand.tmp 25], argTypes := #[24, 3] }, type := 31, pos := "law.go:103", after := #[{ on := 0, ground := Go.Ground.data }, { on := 4, ground := Go.Ground.data }], guard := none })) 21 25 _ _ _ rfl (by rfl) (by rfl) (by rfl) (fun ev hc hf h0 h1 => ?_) (HN.out _) (fun W25 hc25 => ?_) ?_
              · focus (go_simp; done)
              · simp only [Act.put, List.setIfInBounds_toArray, List.set_cons_zero, List.set_cons_succ]
                have hgo25_g19 := ((hW19.keeps hc25).2 _ hg19 (Array.getElem?_eq_some_iff.1 hgo19).1).trans hgo19
                have hW25 := hW19.step hc25
                refine awt1 6 26 (o := ({ dst := some 20, op := Go.Op.move (Go.Operand.tmp 26), type := 31, pos := "law.go:103", after := #[{ on := 5, ground := Go.Ground.data }], guard := none })) (v := ?_) rfl (by kernel_rfl) (by kernel_rfl) (by kernel_rfl) (fun _ _ _ h => h) (by rfl) (by rfl) (fun ev hc hf h0 W => ?_) ?_; rotate_left; (focus (first | (go_simp; done) | (go_simp; with_reducible rfl))); rotate_left; simp only [Act.put, List.setIfInBounds_toArray, List.set_cons_zero, List.set_cons_succ]
                refine awt1 7 20 (o := ({ dst := some 27, op := Go.Op.extract (Go.Operand.tmp 20) 0, type := 24, pos := "law.go:103", after := #[{ on := 6, ground := Go.Ground.data }], guard := none })) (v := ?_) rfl (by kernel_rfl) (by kernel_rfl) (by kernel_rfl) (fun _ _ _ h => h) (by rfl) (by rfl) (fun ev hc hf h0 W => ?_) ?_; rotate_left; (focus (first | (go_simp; done) | (go_simp; with_reducible rfl))); rotate_left; simp only [Act.put, List.setIfInBounds_toArray, List.set_cons_zero, List.set_cons_succ]
                refine awt1 8 20 (o := ({ dst := some 28, op := Go.Op.extract (Go.Operand.tmp 20) 1, type := 30, pos := "law.go:103", after := #[{ on := 6, ground := Go.Ground.data }, { on := 10, ground := Go.Ground.gcOnly Go.Departure.lateStores }], guard := none })) (v := ?_) rfl (by kernel_rfl) (by kernel_rfl) (by kernel_rfl) (fun _ _ _ h => h) (by rfl) (by rfl) (fun ev hc hf h0 W => ?_) ?_; rotate_left; (focus (first | (go_simp; done) | (go_simp; with_reducible rfl))); rotate_left; simp only [Act.put, List.setIfInBounds_toArray, List.set_cons_zero, List.set_cons_succ]
                exact END g19 _ ⟨hW25, hg19, hgo25_g19⟩
              exact ar_nil
            exact ar_nil
          exact ar_nil
        exact ar_nil

      rintro g W ⟨hW, hg, hgo⟩
      have gb : Bk W g #[.int .u64 0, .int .i64 0] 24 := hgo
      have g0 : W.cell? ⟨g, 0, none⟩ = _ := gb.cell 0
      have g1 : W.cell? ⟨g, 1, none⟩ = _ := gb.cell 1
      have f0 := gb.free 0
      have f1 := gb.free 1
      have gl := gb.lt
      simp at g0 g1
      refine aw_all [10] (by kernel_rfl) (by simp) ?_
      refine ars2 (o := ({ dst := none, op := Go.Op.store 24 (Go.Operand.tmp 7) (Go.Operand.tmp 27), type := 0, pos := "law.go:103", after := #[{ on := 9, ground := Go.Ground.data }, { on := 7, ground := Go.Ground.data }, { on := 5, ground := Go.Ground.chain }, { on := 0, ground := Go.Ground.phase }, { on := 1, ground := Go.Ground.phase }, { on := 2, ground := Go.Ground.phase }, { on := 3, ground := Go.Ground.phase }, { on := 4, ground := Go.Ground.phase }, { on := 5, ground := Go.Ground.phase }, { on := 6, ground := Go.Ground.phase }, { on := 7, ground := Go.Ground.phase }, { on := 8, ground := Go.Ground.textOnly Go.Departure.lateStores }, { on := 9, ground := Go.Ground.phase }], guard := none })) 7 27 (W' := ?_) rfl (by rfl) (by rfl) (by rfl) (fun ev hc hf h0 h1 => ?_) ?_ ?_
      rotate_left 1
      focus (go_simp; with_reducible rfl)
      · simp only [Act.put, List.setIfInBounds_toArray, List.set_cons_zero, List.set_cons_succ]
        refine aw_all [11] (by kernel_rfl) (by simp) ?_
        refine arv1 (o := ({ dst := some 8, op := Go.Op.assign (Go.Operand.tmp 28), type := 30, pos := "law.go:103", after := #[{ on := 8, ground := Go.Ground.data }, { on := 10, ground := Go.Ground.chain }, { on := 0, ground := Go.Ground.phase }, { on := 1, ground := Go.Ground.phase }, { on := 2, ground := Go.Ground.phase }, { on := 3, ground := Go.Ground.phase }, { on := 4, ground := Go.Ground.phase }, { on := 5, ground := Go.Ground.phase }, { on := 6, ground := Go.Ground.phase }, { on := 7, ground := Go.Ground.phase }, { on := 8, ground := Go.Ground.phase }, { on := 9, ground := Go.Ground.phase }, { on := 10, ground := Go.Ground.phase }], guard := none })) 28 (v := ?_) (W' := ?_) rfl (by rfl) (by rfl) (fun ev hc hf h0 => ?_) ?_ ?_
        rotate_left 2
        focus (go_simp; constructor <;> with_reducible rfl)
        · simp only [Act.put, List.setIfInBounds_toArray, List.set_cons_zero, List.set_cons_succ]
          refine aw_done (by kernel_rfl) ?_
          have b2 := (gb.set 0 (.int .u64 m1)).set 1 (.int .i64 m2)
          simp at b2
          have hW2 : Bel wr ((W.setCell ⟨g, 0, none⟩ (.int .u64 m1)).setCell ⟨g, 1, none⟩ (.int .i64 m2)) := (Below.setCell hW hg _).setCell hg _
          clear hW hgo gb g0 g1 f0 f1 gl
          generalize (W.setCell ⟨g, 0, none⟩ (.int .u64 m1)).setCell ⟨g, 1, none⟩ (.int .i64 m2) = W2 at b2 hW2 ⊢
          rcases (show nx r n x = (m1, m2, m3) from HNX.out) ▸ nx_cases r n x hr with hh | hh | ⟨y, hh, hy1, hy2, hy3, hy4, hy5⟩
          · obtain ⟨rfl, rfl, rfl⟩ : m1 = 0 ∧ m2 = 0 ∧ m3 = 2 := by simpa using hh
            have q0 : W2.cell? ⟨g, 0, none⟩ = some (.int .u64 0) := by simpa using b2.cell 0
            have q1 : W2.cell? ⟨g, 1, none⟩ = some (.int .i64 0) := by simpa using b2.cell 1
            clear hh HNX HN HS hW0 b2
            go_wp2_with fail
            refine ⟨⟨k + 1, r, n, es, clk, by omega, by simp, hr, (KB.out).bel hW2, (hW2.block _ (Array.getElem?_eq_some_iff.1 KM.out).1).trans KM.out, HKB.out, HBB.out.trans (hW2.mono HBB.out.size)⟩, ?_⟩
            simp [intOf]
            omega
          · obtain ⟨rfl, rfl, rfl⟩ : m1 = 0 ∧ m2 = 0 ∧ m3 = 9 := by simpa using hh
            have q0 : W2.cell? ⟨g, 0, none⟩ = some (.int .u64 0) := by simpa using b2.cell 0
            have q1 : W2.cell? ⟨g, 1, none⟩ = some (.int .i64 0) := by simpa using b2.cell 1
            clear hh HNX HN HS hW0 b2
            go_wp2_with fail
            refine ⟨⟨k + 1, r, n, es, clk, by omega, by simp, hr, (KB.out).bel hW2, (hW2.block _ (Array.getElem?_eq_some_iff.1 KM.out).1).trans KM.out, HKB.out, HBB.out.trans (hW2.mono HBB.out.size)⟩, ?_⟩
            simp [intOf]
            omega
          · obtain ⟨e1, e2, e3⟩ : y = m1 ∧ x = m2 ∧ (0 : Int) = m3 := by simp at hh; omega
            subst e1 e2 e3
            have hry : r ≤ y := by have := cmpB_vals y x r n; omega
            have hymax : y ≤ 281474976710656 := by unfold mayB at hy4; simp at hy4; omega
            have hwr : IntKind.u64.wrap (r + 1) = r + 1 := by
              simp [IntKind.wrap, IntKind.bits, IntKind.signed]
              omega
            have hle : ¬ (r + 1 < y) := by omega
            have hno := Lib.hid (HKB.out.no hy3)
            have k2 := (KB.out).bel hW2
            have m2 : W2.heap[w.heap.size + 1]? = some (.map es clk) := (hW2.block _ (Array.getElem?_eq_some_iff.1 KM.out).1).trans KM.out
            have HS2 : ∀ W, Bel W2 W → W.cell? ⟨g, 0, none⟩ = some (.int .u64 y) ∧ W.cell? ⟨g, 1, none⟩ = some (.int .i64 x) ∧ W.cell? ⟨w.heap.size, 0, none⟩ = some (.int .u64 r) ∧ W.cell? ⟨w.heap.size, 1, none⟩ = some (.int .i64 n) ∧
                W.cell? ⟨b, o + k, none⟩ = some (.int .i64 x) ∧ (Instr.lookup 42 (.map (some (w.heap.size + 1))) (.agg #[.int .u64 y, .int .i64 x]) false).run Try.prog W = .ok (.int .i64 0) W := fun W hW =>
              ⟨Bel.cell hW (by simpa using b2.cell 0), Bel.cell hW (by simpa using b2.cell 1), Bel.cell hW (by simpa using k2.cell 0), Bel.cell hW (by simpa using k2.cell 1), Bel.cell hW (HS.out _ hW2).1,
                lookup_none y x _ es clk W ((hW.block _ (Array.getElem?_eq_some_iff.1 m2).1).trans m2) hno.out⟩
            have HS2 := Lib.hid HS2
            have K21 : ∀ W, Calls Try.prog 21 #[.agg #[.int .u64 y, .int .i64 x], .agg #[.int .u64 r, .int .i64 n]] W fun e W' => e = .returned (.int .i64 1) ∧ Below W.heap.size W W' := fun W => hy3 ▸ cmp_any y x r n W
            have K21 := Lib.hid K21
            have HY := Lib.hid (And.intro hy3 (And.intro hy4 hy5))
            have B2 := Lib.hid b2
            have K2 := Lib.hid k2
            have M2 := Lib.hid m2
            have HW2 := Lib.hid hW2
            clear hh HNX HN HS hW0 b2 k2 m2 hW2 hy3 hy4 hy5
            go_upto_region 11 with fail
            refine wp_qw (by kernel_rfl) ?_
            (refine qv1 7 (v := ?_) (by rfl) (by rfl) (fun ev hc hf h0 W hW => ?_) ?_; rotate_left; (focus (obtain ⟨c0, c1, c2, c3, c4, c5⟩ := HS2.out W hW; first | (go_simp; done) | (go_simp; with_reducible rfl))); rotate_left; simp only [Act.put, List.setIfInBounds_toArray, List.set_cons_zero, List.set_cons_succ])
            (refine qv1 2 (v := ?_) (by rfl) (by rfl) (fun ev hc hf h0 W hW => ?_) ?_; rotate_left; (focus (obtain ⟨c0, c1, c2, c3, c4, c5⟩ := HS2.out W hW; first | (go_simp; done) | (go_simp; with_reducible rfl))); rotate_left; simp only [Act.put, List.setIfInBounds_toArray, List.set_cons_zero, List.set_cons_succ])
            (refine qc2 34 35 _ _ _ (by rfl) (by rfl) (by rfl) (fun ev hc hf h0 h1 W hW => ?_) (fun W hW => q_calls hW (K21.out W)) ?_; (focus (obtain ⟨c0, c1, c2, c3, c4, c5⟩ := HS2.out W hW; go_simp; done)); simp only [Act.put, List.setIfInBounds_toArray, List.set_cons_zero, List.set_cons_succ])
            (refine qv1 36 (v := ?_) (by rfl) (by rfl) (fun ev hc hf h0 W hW => ?_) ?_; rotate_left; (focus (obtain ⟨c0, c1, c2, c3, c4, c5⟩ := HS2.out W hW; first | (go_simp; done) | (go_simp; with_reducible rfl))); rotate_left; simp only [Act.put, List.setIfInBounds_toArray, List.set_cons_zero, List.set_cons_succ])
            (refine qv1 37 (v := ?_) (by rfl) (by rfl) (fun ev hc hf h0 W hW => ?_) ?_; rotate_left; (focus (obtain ⟨c0, c1, c2, c3, c4, c5⟩ := HS2.out W hW; first | (go_simp; done) | (go_simp; with_reducible rfl))); rotate_left; simp only [Act.put, List.setIfInBounds_toArray, List.set_cons_zero, List.set_cons_succ])
            first
              | (refine qskip (by rfl) ?_; simp only [Act.put, List.setIfInBounds_toArray, List.set_cons_zero, List.set_cons_succ])
              | (refine qv1 7 (v := ?_) (by rfl) (by rfl) (fun ev hc hf h0 W hW => ?_) ?_; rotate_left; (focus (obtain ⟨c0, c1, c2, c3, c4, c5⟩ := HS2.out W hW; first | (go_simp; done) | (go_simp; with_reducible rfl))); rotate_left; simp only [Act.put, List.setIfInBounds_toArray, List.set_cons_zero, List.set_cons_succ])
            first
              | (refine qskip (by rfl) ?_; simp only [Act.put, List.setIfInBounds_toArray, List.set_cons_zero, List.set_cons_succ])
              | (refine qv1 39 (v := ?_) (by rfl) (by rfl) (fun ev hc hf h0 W hW => ?_) ?_; rotate_left; (focus (obtain ⟨c0, c1, c2, c3, c4, c5⟩ := HS2.out W hW; first | (go_simp; done) | (go_simp; with_reducible rfl))); rotate_left; simp only [Act.put, List.setIfInBounds_toArray, List.set_cons_zero, List.set_cons_succ])
            first
              | (refine qskip (by rfl) ?_; simp only [Act.put, List.setIfInBounds_toArray, List.set_cons_zero, List.set_cons_succ])
              | (refine qv1 1 (v := ?_) (by rfl) (by rfl) (fun ev hc hf h0 W hW => ?_) ?_; rotate_left; (focus (obtain ⟨c0, c1, c2, c3, c4, c5⟩ := HS2.out W hW; first | (go_simp; done) | (go_simp; with_reducible rfl))); rotate_left; simp only [Act.put, List.setIfInBounds_toArray, List.set_cons_zero, List.set_cons_succ])
            first
              | (refine qskip (by rfl) ?_; simp only [Act.put, List.setIfInBounds_toArray, List.set_cons_zero, List.set_cons_succ])
              | (refine qv1 6 (v := ?_) (by rfl) (by rfl) (fun ev hc hf h0 W hW => ?_) ?_; rotate_left; (focus (obtain ⟨c0, c1, c2, c3, c4, c5⟩ := HS2.out W hW; first | (go_simp; done) | (go_simp; with_reducible rfl))); rotate_left; simp only [Act.put, List.setIfInBounds_toArray, List.set_cons_zero, List.set_cons_succ])
            first
              | (refine qskip (by rfl) ?_; simp only [Act.put, List.setIfInBounds_toArray, List.set_cons_zero, List.set_cons_succ])
              | (refine qv2 41 42 (v := ?_) (by rfl) (by rfl) (by rfl) (fun ev hc hf h0 h1 W hW => ?_) ?_; rotate_left; (focus (obtain ⟨c0, c1, c2, c3, c4, c5⟩ := HS2.out W hW; first | (go_simp; done) | (go_simp; with_reducible rfl))); rotate_left; simp only [Act.put, List.setIfInBounds_toArray, List.set_cons_zero, List.set_cons_succ])
            first
              | (refine qskip (by rfl) ?_; simp only [Act.put, List.setIfInBounds_toArray, List.set_cons_zero, List.set_cons_succ])
              | (refine qv1 43 (v := ?_) (by rfl) (by rfl) (fun ev hc hf h0 W hW => ?_) ?_; rotate_left; (focus (obtain ⟨c0, c1, c2, c3, c4, c5⟩ := HS2.out W hW; first | (go_simp; done) | (go_simp; with_reducible rfl))); rotate_left; simp only [Act.put, List.setIfInBounds_toArray, List.set_cons_zero, List.set_cons_succ])
            first
              | (refine qskip (by rfl) ?_; simp only [Act.put, List.setIfInBounds_toArray, List.set_cons_zero, List.set_cons_succ])
              | (refine qv2 40 44 (v := ?_) (by rfl) (by rfl) (by rfl) (fun ev hc hf h0 h1 W hW => ?_) ?_; rotate_left; (focus (obtain ⟨c0, c1, c2, c3, c4, c5⟩ := HS2.out W hW; first | (go_simp; done) | (go_simp; with_reducible rfl))); rotate_left; simp only [Act.put, List.setIfInBounds_toArray, List.set_cons_zero, List.set_cons_succ])
            (refine qv2 38 45 (v := ?_) (by rfl) (by rfl) (by rfl) (fun ev hc hf h0 h1 W hW => ?_) ?_; rotate_left; (focus (obtain ⟨c0, c1, c2, c3, c4, c5⟩ := HS2.out W hW; first | (go_simp; done) | (go_simp; with_reducible rfl))); rotate_left; simp only [Act.put, List.setIfInBounds_toArray, List.set_cons_zero, List.set_cons_succ])
            (refine qv1 46 (v := ?_) (by rfl) (by rfl) (fun ev hc hf h0 W hW => ?_) ?_; rotate_left; (focus (obtain ⟨c0, c1, c2, c3, c4, c5⟩ := HS2.out W hW; first | (go_simp; done) | (go_simp; with_reducible rfl))); rotate_left; simp only [Act.put, List.setIfInBounds_toArray, List.set_cons_zero, List.set_cons_succ])
            first
              | (refine qskip (by rfl) ?_; simp only [Act.put, List.setIfInBounds_toArray, List.set_cons_zero, List.set_cons_succ])
              | (refine qv1 5 (v := ?_) (by rfl) (by rfl) (fun ev hc hf h0 W hW => ?_) ?_; rotate_left; (focus (obtain ⟨c0, c1, c2, c3, c4, c5⟩ := HS2.out W hW; first | (go_simp; done) | (go_simp; with_reducible rfl))); rotate_left; simp only [Act.put, List.setIfInBounds_toArray, List.set_cons_zero, List.set_cons_succ])
            first
              | (refine qskip (by rfl) ?_; simp only [Act.put, List.setIfInBounds_toArray, List.set_cons_zero, List.set_cons_succ])
              | (refine qv1 7 (v := ?_) (by rfl) (by rfl) (fun ev hc hf h0 W hW => ?_) ?_; rotate_left; (focus (obtain ⟨c0, c1, c2, c3, c4, c5⟩ := HS2.out W hW; first | (go_simp; done) | (go_simp; with_reducible rfl))); rotate_left; simp only [Act.put, List.setIfInBounds_toArray, List.set_cons_zero, List.set_cons_succ])
            first
              | (refine qskip (by rfl) ?_; simp only [Act.put, List.setIfInBounds_toArray, List.set_cons_zero, List.set_cons_succ])
              | (refine qv2 48 49 (v := ?_) (by rfl) (by rfl) (by rfl) (fun ev hc hf h0 h1 W hW => ?_) ?_; rotate_left; (focus (obtain ⟨c0, c1, c2, c3, c4, c5⟩ := HS2.out W hW; first | (go_simp; done) | (go_simp; with_reducible rfl))); rotate_left; simp only [Act.put, List.setIfInBounds_toArray, List.set_cons_zero, List.set_cons_succ])
            first
              | (refine qskip (by rfl) ?_; simp only [Act.put, List.setIfInBounds_toArray, List.set_cons_zero, List.set_cons_succ])
              | (refine qv1 50 (v := ?_) (by rfl) (by rfl) (fun ev hc hf h0 W hW => ?_) ?_; rotate_left; (focus (obtain ⟨c0, c1, c2, c3, c4, c5⟩ := HS2.out W hW; first | (go_simp; done) | (go_simp; with_reducible rfl))); rotate_left; simp only [Act.put, List.setIfInBounds_toArray, List.set_cons_zero, List.set_cons_succ])
            (refine qv2 47 51 (v := ?_) (by rfl) (by rfl) (by rfl) (fun ev hc hf h0 h1 W hW => ?_) ?_; rotate_left; (focus (obtain ⟨c0, c1, c2, c3, c4, c5⟩ := HS2.out W hW; first | (go_simp; done) | (go_simp; with_reducible rfl))); rotate_left; simp only [Act.put, List.setIfInBounds_toArray, List.set_cons_zero, List.set_cons_succ])
            (refine qv1 52 (v := ?_) (by rfl) (by rfl) (fun ev hc hf h0 W hW => ?_) ?_; rotate_left; (focus (obtain ⟨c0, c1, c2, c3, c4, c5⟩ := HS2.out W hW; first | (go_simp; done) | (go_simp; with_reducible rfl))); rotate_left; simp only [Act.put, List.setIfInBounds_toArray, List.set_cons_zero, List.set_cons_succ])
            first
              | (refine qskip (by rfl) ?_; simp only [Act.put, List.setIfInBounds_toArray, List.set_cons_zero, List.set_cons_succ])
              | (refine qv1 7 (v := ?_) (by rfl) (by rfl) (fun ev hc hf h0 W hW => ?_) ?_; rotate_left; (focus (obtain ⟨c0, c1, c2, c3, c4, c5⟩ := HS2.out W hW; first | (go_simp; done) | (go_simp; with_reducible rfl))); rotate_left; simp only [Act.put, List.setIfInBounds_toArray, List.set_cons_zero, List.set_cons_succ])
            first
              | (refine qskip (by rfl) ?_; simp only [Act.put, List.setIfInBounds_toArray, List.set_cons_zero, List.set_cons_succ])
              | (refine qv1 54 (v := ?_) (by rfl) (by rfl) (fun ev hc hf h0 W hW => ?_) ?_; rotate_left; (focus (obtain ⟨c0, c1, c2, c3, c4, c5⟩ := HS2.out W hW; first | (go_simp; done) | (go_simp; with_reducible rfl))); rotate_left; simp only [Act.put, List.setIfInBounds_toArray, List.set_cons_zero, List.set_cons_succ])
            first
              | (refine qskip (by rfl) ?_; simp only [Act.put, List.setIfInBounds_toArray, List.set_cons_zero, List.set_cons_succ])
              | (refine qv1 2 (v := ?_) (by rfl) (by rfl) (fun ev hc hf h0 W hW => ?_) ?_; rotate_left; (focus (obtain ⟨c0, c1, c2, c3, c4, c5⟩ := HS2.out W hW; first | (go_simp; done) | (go_simp; with_reducible rfl))); rotate_left; simp only [Act.put, List.setIfInBounds_toArray, List.set_cons_zero, List.set_cons_succ])
            first
              | (refine qskip (by rfl) ?_; simp only [Act.put, List.setIfInBounds_toArray, List.set_cons_zero, List.set_cons_succ])
              | (refine qv1 56 (v := ?_) (by rfl) (by rfl) (fun ev hc hf h0 W hW => ?_) ?_; rotate_left; (focus (obtain ⟨c0, c1, c2, c3, c4, c5⟩ := HS2.out W hW; first | (go_simp; done) | (go_simp; with_reducible rfl))); rotate_left; simp only [Act.put, List.setIfInBounds_toArray, List.set_cons_zero, List.set_cons_succ])
            first
              | (refine qskip (by rfl) ?_; simp only [Act.put, List.setIfInBounds_toArray, List.set_cons_zero, List.set_cons_succ])
              | (refine qv1 57 (v := ?_) (by rfl) (by rfl) (fun ev hc hf h0 W hW => ?_) ?_; rotate_left; (focus (obtain ⟨c0, c1, c2, c3, c4, c5⟩ := HS2.out W hW; first | (go_simp; done) | (go_simp; with_reducible rfl))); rotate_left; simp only [Act.put, List.setIfInBounds_toArray, List.set_cons_zero, List.set_cons_succ])
            first
              | (refine qskip (by rfl) ?_; simp only [Act.put, List.setIfInBounds_toArray, List.set_cons_zero, List.set_cons_succ])
              | (refine qv2 55 58 (v := ?_) (by rfl) (by rfl) (by rfl) (fun ev hc hf h0 h1 W hW => ?_) ?_; rotate_left; (focus (obtain ⟨c0, c1, c2, c3, c4, c5⟩ := HS2.out W hW; first | (go_simp; done) | (go_simp; with_reducible rfl))); rotate_left; simp only [Act.put, List.setIfInBounds_toArray, List.set_cons_zero, List.set_cons_succ])
            (refine qv2 53 59 (v := ?_) (by rfl) (by rfl) (by rfl) (fun ev hc hf h0 h1 W hW => ?_) ?_; rotate_left; (focus (obtain ⟨c0, c1, c2, c3, c4, c5⟩ := HS2.out W hW; first | (go_simp; done) | (go_simp; with_reducible rfl))); rotate_left; simp only [Act.put, List.setIfInBounds_toArray, List.set_cons_zero, List.set_cons_succ])
            refine qnil ?_
            intro w3 hW3
            clear HS HN hwr hle
            have HS2 := HS2
            clear K21
            have hno3 := hno.out
            have z3 := HW2.out
            have m3 : w3.heap[w.heap.size + 1]? = some (.map es clk) := (hW3.block _ (Array.getElem?_eq_some_iff.1 M2.out).1).trans M2.out
            obtain ⟨WB, hWB⟩ : ∃ WB, WB = ({ w3.drew with heap := w3.drew.heap.setIfInBounds (w.heap.size + 1) (.map (es.push { key := keyV y x, val := .int .i64 0, born := clk }) (clk + 1)) } : World) := ⟨_, rfl⟩
            have hlk : (Instr.lookup 42 (.map (some (w.heap.size + 1))) (.agg #[.int .u64 y, .int .i64 x]) false).run Try.prog w3.drew = .ok (.int .i64 0) w3.drew := lookup_none y x _ es clk w3.drew m3 hno3
            have hme : (Instr.mapEntry 42 (.map (some (w.heap.size + 1))) (.agg #[.int .u64 y, .int .i64 x])).run Try.prog w3.drew = .ok (.tuple #[.int .i64 0, .int .i64 clk]) WB := hWB ▸ entry_new y x _ es clk w3.drew m3 hno3
            have hlt3 : w.heap.size + 1 < w3.heap.size := (Array.getElem?_eq_some_iff.1 m3).1
            have hmB : WB.heap[w.heap.size + 1]? = some (.map (es.push { key := keyV y x, val := .int .i64 0, born := clk }) (clk + 1)) := by
              rw [hWB]
              show (w3.heap.setIfInBounds _ _)[_]? = _
              simp [hlt3]
            have hlp : (Instr.lookup 42 (.map (some (w.heap.size + 1))) (.agg #[.int .u64 y, .int .i64 x]) false).run Try.prog WB = .ok (.int .i64 0) WB := lookup_push y x _ es (clk + 1) clk _ WB hmB hno3
            obtain ⟨WC, hWC⟩ : ∃ WC, WC = ({ WB with heap := WB.heap.setIfInBounds (w.heap.size + 1) (.map (es.push { key := keyV y x, val := .int .i64 1, born := clk }) (clk + 1)) } : World) := ⟨_, rfl⟩
            have hes : (Instr.entryStore 42 (.map (some (w.heap.size + 1))) (.int .i64 clk) (.int .i64 1)).run Try.prog WB = .ok () WC := hWC ▸ entry_store (keyV y x) (.int .i64 0) _ es clk _ WB hmB HKB.out.fresh
            have hmC : WC.heap[w.heap.size + 1]? = some (.map (es.push { key := keyV y x, val := .int .i64 1, born := clk }) (clk + 1)) := by
              rw [hWC, hWB]
              show ((w3.heap.setIfInBounds _ _).setIfInBounds _ _)[_]? = _
              simp [hlt3]
            have hfar : ∀ q, q ≠ w.heap.size + 1 → WC.heap[q]? = w3.heap[q]? := fun q hq => by
              rw [hWC, hWB]
              show ((w3.heap.setIfInBounds _ _).setIfInBounds _ _)[_]? = _
              simp [Array.getElem?_setIfInBounds_ne (Ne.symm hq)]
            have hsz : WC.heap.size = w3.heap.size := by
              rw [hWC, hWB]
              show ((w3.heap.setIfInBounds _ _).setIfInBounds _ _).size = _
              simp
            have hbC : Below (w.heap.size + 1) w3 WC := ⟨by rw [hWC, hWB]; rfl, by rw [hWC, hWB]; rfl, by rw [hWC, hWB]; rfl, by omega, fun q hq => hfar q (by omega)⟩
            have gC : Bk WC g #[.int .u64 y, .int .i64 x] 24 := (hfar g (by have := (Array.getElem?_eq_some_iff.1 KM.out).1; omega)).trans (B2.out.bel hW3)
            have kC : Bk WC w.heap.size #[.int .u64 r, .int .i64 n] 24 := (hfar w.heap.size (by omega)).trans (K2.out.bel hW3)
            have LK := Lib.hid hlk
            have LP := Lib.hid hlp
            have ME := Lib.hid hme
            have ES := Lib.hid hes
            have MC := Lib.hid hmC
            have BC := Lib.hid (HBB.out.trans (((z3.mono HBB.out.size).trans (hW3.mono (Nat.le_trans HBB.out.size z3.size))).trans (hbC.mono (Nat.le_succ _))))
            have GC := Lib.hid gC
            have KC := Lib.hid kC
            have c0 := (HS2.out w3 hW3).1
            have c1 := (HS2.out w3 hW3).2.1
            have C0 := Lib.hid (And.intro c0 c1)
            clear hlk hlp hme hes hmB hmC hfar hsz hbC gC kC m3 hno3 z3 hWB hWC hlt3 HS2 hW3 c0 c1 hno M2 K2 B2 HW2
            go_upto_region 13 with fail
            refine wp_aw 7 #[false, false, false, false, false, false, false] rfl rfl ?_
            refine aw_join 1 ?L13 ?F13 WB (fun END => ?_) ?_
            case refine_1 =>
              refine awt1 0 5 (o := ({ dst := some 61, op := Go.Op.move (Go.Operand.tmp 5), type := 42, pos := "law.go:113", after := #[], guard := none })) (v := ?_) rfl (by kernel_rfl) (by kernel_rfl) (by kernel_rfl) (fun _ _ _ h => h) (by rfl) (by rfl) (fun ev hc hf h0 W => ?_) ?_; rotate_left; (focus (first | (go_simp; done) | (go_simp; with_reducible rfl))); rotate_left; simp only [Act.put, List.setIfInBounds_toArray, List.set_cons_zero, List.set_cons_succ]
              refine aw_all [1] (by kernel_rfl) (by simp) ?_
              refine arv1 (o := ({ dst := some 62, op := Go.Op.load 24 (Go.Operand.tmp 7), type := 24, pos := "law.go:113", after := #[], guard := none })) 7 (v := ?_) (W' := ?_) rfl (by rfl) (by rfl) (fun ev hc hf h0 => ?_) ?_ ?_; rotate_left 2; (focus (obtain ⟨c0, c1⟩ := C0.out; go_simp; constructor <;> with_reducible rfl))
              · simp only [Act.put, List.setIfInBounds_toArray, List.set_cons_zero, List.set_cons_succ]
                refine aw_all [2, 4] (by kernel_rfl) (by simp) ?_
                refine arv2 (o := ({ dst := some 63, op := Go.Op.lookup 42 (Go.Operand.tmp 61) (Go.Operand.tmp 62) false, type := 3, pos := "law.go:113", after := #[{ on := 0, ground := Go.Ground.data }, { on := 1, ground := Go.Ground.data }], guard := none })) 61 62 (v := ?_) (W' := ?_) rfl (by rfl) (by rfl) (by rfl) (fun ev hc hf h0 h1 => ?_) ?_ ?_; rotate_left 2; (focus (have hl := LK.out; go_simp; constructor <;> with_reducible rfl))
                · simp only [Act.put, List.setIfInBounds_toArray, List.set_cons_zero, List.set_cons_succ]
                  refine awt1 3 63 (o := ({ dst := some 64, op := Go.Op.binOp Go.BinOp.add 3 (Go.Operand.tmp 63) (Go.Operand.const (Go.Value.int Go.IntKind.i64 1)) 3, type := 3, pos := "law.go:113", after := #[{ on := 2, ground := Go.Ground.data }], guard := none })) (v := ?_) rfl (by kernel_rfl) (by kernel_rfl) (by kernel_rfl) (fun _ _ _ h => h) (by rfl) (by rfl) (fun ev hc hf h0 W => ?_) ?_; rotate_left; (focus (first | (go_simp; done) | (go_simp; with_reducible rfl))); rotate_left; simp only [Act.put, List.setIfInBounds_toArray, List.set_cons_zero, List.set_cons_succ]
                  refine aw_all [4] (by kernel_rfl) (by simp) ?_
                  refine arv2 (o := ({ dst := some 65, op := Go.Op.mapEntry 42 (Go.Operand.tmp 61) (Go.Operand.tmp 62), type := 0, pos := "law.go:113", after := #[{ on := 0, ground := Go.Ground.data }, { on := 1, ground := Go.Ground.data }, { on := 0, ground := Go.Ground.phase }, { on := 1, ground := Go.Ground.phase }, { on := 2, ground := Go.Ground.textOnly Go.Departure.mapOpAssignEntry }, { on := 3, ground := Go.Ground.textOnly Go.Departure.mapOpAssignEntry }], guard := none })) 61 62 (v := ?_) (W' := ?_) rfl (by rfl) (by rfl) (by rfl) (fun ev hc hf h0 h1 => ?_) ?_ ?_; rotate_left 2; (focus (have hl := ME.out; go_simp; constructor <;> with_reducible rfl))
                  · simp only [Act.put, List.setIfInBounds_toArray, List.set_cons_zero, List.set_cons_succ]
                    refine awt1 5 65 (o := ({ dst := some 66, op := Go.Op.extract (Go.Operand.tmp 65) 1, type := 3, pos := "law.go:113", after := #[{ on := 4, ground := Go.Ground.data }], guard := none })) (v := ?_) rfl (by kernel_rfl) (by kernel_rfl) (by kernel_rfl) (fun _ _ _ h => h) (by rfl) (by rfl) (fun ev hc hf h0 W => ?_) ?_; rotate_left; (focus (first | (go_simp; done) | (go_simp; with_reducible rfl))); rotate_left; simp only [Act.put, List.setIfInBounds_toArray, List.set_cons_zero, List.set_cons_succ]
                    exact END
                  exact ar_nil
                refine arv2 (o := ({ dst := some 65, op := Go.Op.mapEntry 42 (Go.Operand.tmp 61) (Go.Operand.tmp 62), type := 0, pos := "law.go:113", after := #[{ on := 0, ground := Go.Ground.data }, { on := 1, ground := Go.Ground.data }, { on := 0, ground := Go.Ground.phase }, { on := 1, ground := Go.Ground.phase }, { on := 2, ground := Go.Ground.textOnly Go.Departure.mapOpAssignEntry }, { on := 3, ground := Go.Ground.textOnly Go.Departure.mapOpAssignEntry }], guard := none })) 61 62 (v := ?_) (W' := ?_) rfl (by rfl) (by rfl) (by rfl) (fun ev hc hf h0 h1 => ?_) ?_ ?_; rotate_left 2; (focus (have hl := ME.out; go_simp; constructor <;> with_reducible rfl))
                · simp only [Act.put, List.setIfInBounds_toArray, List.set_cons_zero, List.set_cons_succ]
                  refine awt1 5 65 (o := ({ dst := some 66, op := Go.Op.extract (Go.Operand.tmp 65) 1, type := 3, pos := "law.go:113", after := #[{ on := 4, ground := Go.Ground.data }], guard := none })) (v := ?_) rfl (by kernel_rfl) (by kernel_rfl) (by kernel_rfl) (fun _ _ _ h => h) (by rfl) (by rfl) (fun ev hc hf h0 W => ?_) ?_; rotate_left; (focus (first | (go_simp; done) | (go_simp; with_reducible rfl))); rotate_left; simp only [Act.put, List.setIfInBounds_toArray, List.set_cons_zero, List.set_cons_succ]
                  refine aw_all [2] (by kernel_rfl) (by simp) ?_
                  refine arv2 (o := ({ dst := some 63, op := Go.Op.lookup 42 (Go.Operand.tmp 61) (Go.Operand.tmp 62) false, type := 3, pos := "law.go:113", after := #[{ on := 0, ground := Go.Ground.data }, { on := 1, ground := Go.Ground.data }], guard := none })) 61 62 (v := ?_) (W' := ?_) rfl (by rfl) (by rfl) (by rfl) (fun ev hc hf h0 h1 => ?_) ?_ ?_; rotate_left 2; (focus (have hl := LP.out; go_simp; constructor <;> with_reducible rfl))
                  · simp only [Act.put, List.setIfInBounds_toArray, List.set_cons_zero, List.set_cons_succ]
                    refine awt1 3 63 (o := ({ dst := some 64, op := Go.Op.binOp Go.BinOp.add 3 (Go.Operand.tmp 63) (Go.Operand.const (Go.Value.int Go.IntKind.i64 1)) 3, type := 3, pos := "law.go:113", after := #[{ on := 2, ground := Go.Ground.data }], guard := none })) (v := ?_) rfl (by kernel_rfl) (by kernel_rfl) (by kernel_rfl) (fun _ _ _ h => h) (by rfl) (by rfl) (fun ev hc hf h0 W => ?_) ?_; rotate_left; (focus (first | (go_simp; done) | (go_simp; with_reducible rfl))); rotate_left; simp only [Act.put, List.setIfInBounds_toArray, List.set_cons_zero, List.set_cons_succ]
                    exact END
                  exact ar_nil
                exact ar_nil
              exact ar_nil
            refine aw_all [6] (by kernel_rfl) (by simp) ?_
            refine ars3 (o := ({ dst := none, op := Go.Op.entryStore 42 (Go.Operand.tmp 61) (Go.Operand.tmp 66) (Go.Operand.tmp 64), type := 0, pos := "law.go:113", after := #[{ on := 0, ground := Go.Ground.data }, { on := 5, ground := Go.Ground.data }, { on := 3, ground := Go.Ground.data }, { on := 4, ground := Go.Ground.chain }, { on := 0, ground := Go.Ground.phase }, { on := 1, ground := Go.Ground.phase }, { on := 2, ground := Go.Ground.phase }, { on := 3, ground := Go.Ground.phase }, { on := 4, ground := Go.Ground.phase }, { on := 5, ground := Go.Ground.phase }], guard := none })) 61 66 64 (W' := ?_) rfl (by rfl) (by rfl) (by rfl) (by rfl) (fun ev hc hf h0 h1 h2 => ?_) ?_ ?_; rotate_left 1; (focus (have hw1 : IntKind.i64.wrap 1 = 1 := rfl; have hl := ES.out; go_simp; with_reducible rfl))
            · simp only [Act.put, List.setIfInBounds_toArray, List.set_cons_zero, List.set_cons_succ]
              refine aw_done (by kernel_rfl) ?_
              have g0 : WC.cell? ⟨g, 0, none⟩ = some (.int .u64 y) := by simpa using GC.out.cell 0
              have g1 : WC.cell? ⟨g, 1, none⟩ = some (.int .i64 x) := by simpa using GC.out.cell 1
              have k0 : WC.cell? ⟨w.heap.size, 0, none⟩ = some (.int .u64 r) := by simpa using KC.out.cell 0
              have k1 : WC.cell? ⟨w.heap.size, 1, none⟩ = some (.int .i64 n) := by simpa using KC.out.cell 1
              have f0 := KC.out.free 0
              have f1 := KC.out.free 1
              have kl := KC.out.lt
              clear LK LP ME ES C0
              go_wp2_with fail
              refine ⟨⟨k + 1, y, x, _, _, by omega, by simp, by omega, ?_, (Below.heap_setCell _ _ _ _ (by simp)).trans ((Below.heap_setCell _ _ _ _ (by simp)).trans MC.out), HKB.out.push HY.out.1, (BC.out.setCell (Nat.le_refl _) _).setCell (Nat.le_refl _) _⟩, ?_⟩
              · have := (KC.out.set 0 (.int .u64 y)).set 1 (.int .i64 x)
                simpa using this
              · simp [intOf]
                omega
            exact ar_nil
        exact ar_nil
      exact ar_nil
    · obtain rfl : k = xs.length := by omega
      go_wp2_with (go_at_call 17; refine (works11_any _).mono ?_; rintro e w' ⟨rfl, hbw⟩)
      go_ret
      exact ⟨rfl, HB.trans (hbw.mono HB.size)⟩

end Go.Proofs.Ytlgljcfkoakogaa
