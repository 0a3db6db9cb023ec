import Derived.Test.YtbobbekbliichaaE28
namespace Go.Proofs.Ytbobbekbliichaa
open Go.RowKit
set_option linter.unusedSimpArgs false
set_option linter.unusedVariables false


open Go.Lib (byteCells byteCells_length byteCells_one)
section
variable {Z : List (Nat × Obj)} {W Wi W' : World} {g r : Nat} {d : Dsk}
set_option maxRecDepth 100000
set_option maxHeartbeats 6400000
theorem does_write (s : Stp) (hok : s.ok) (hm : s.act.tmod 5 = 0) (hL : d.L.length ≤ 1000000) (h : Two Z W Wi g r d d) :
    Calls Try.prog 11 #[.pointer (some ⟨g, 0, none⟩), .pointer (some ⟨r, 0, none⟩), .agg (stepV s)] Wi fun e W' => e = .returned (.bool true) ∧ Two Z W W' g r (wStep d s) (wStep d s) := by
  obtain ⟨str, hstr⟩ : ∃ str, (⟨(dataB s).toArray⟩ : ByteArray) = str := ⟨_, rfl⟩
  have X := Lib.hid (And.intro hL (And.intro hok (And.intro hstr (h.alloc (.cells (stepV s) 35)))))
  unfold stepV
  clear hL h hok hstr
  go_enter Try.func11, Try.ntmps11
  go_upto_region 3 with fail
  obtain ⟨w0, hw0⟩ : ∃ w0, w0 = Wi.alloc (.cells #[.int .u8 s.act, .int .i64 s.b, .int .u8 s.c, .int .u8 s.odd, .slice s.A s.ps.length s.cap] 35) := ⟨_, rfl⟩
  rw [← hw0]
  have H0 := Lib.hid (show Two ((Wi.heap.size, .cells (stepV s) 35) :: Z) W w0.drew g r d d by rw [hw0]; exact X.out.2.2.2.keep ((Below.refl _ _).drew))
  clear hw0
  have hC : Bk w0.drew Wi.heap.size (stepV s) 35 := H0.out.step.2.2
  have HS := Lib.hid (show ∀ w', Bk w' Wi.heap.size (stepV s) 35 → w'.cell? ⟨Wi.heap.size, 0, none⟩ = some (.int .u8 s.act) ∧ w'.cell? ⟨Wi.heap.size, 1, none⟩ = some (.int .i64 s.b) ∧ w'.cell? ⟨Wi.heap.size, 2, none⟩ = some (.int .u8 s.c) ∧ w'.cell? ⟨Wi.heap.size, 3, none⟩ = some (.int .u8 s.odd) ∧ w'.cell? ⟨Wi.heap.size, 4, none⟩ = some (.slice s.A s.ps.length s.cap) from fun w' hw => ⟨hw.cell 0, hw.cell 1, hw.cell 2, hw.cell 3, hw.cell 4⟩)
  refine wp_ai (fun w => Bk w Wi.heap.size (stepV s) 35) 14 #[false, false, false, false, false, false, false, false, false, false, false, false, false, false] rfl rfl ?_
  refine ait1 0 0 (o := ({ dst := some 19, op := Go.Op.move (Go.Operand.tmp 0), type := 25, pos := "law.go:50", after := #[], guard := none })) (v := ?_) rfl (by kernel_rfl) (by kernel_rfl) (by kernel_rfl) (fun _ _ _ h => h) hC (by rfl) (by rfl) (fun ev hc hf h0 W hW => ?_) ?_; rotate_left; (focus (first | (go_simp; done) | (go_simp; with_reducible rfl))); rotate_left; simp only [Act.put, List.setIfInBounds_toArray, List.set_cons_zero, List.set_cons_succ]
  refine ait1 1 5 (o := ({ dst := some 20, op := Go.Op.fieldAddr 35 (Go.Operand.tmp 5) 1, type := 0, pos := "law.go:50", after := #[], guard := none })) (v := ?_) rfl (by kernel_rfl) (by kernel_rfl) (by kernel_rfl) (fun _ _ _ h => h) hC (by rfl) (by rfl) (fun ev hc hf h0 W hW => ?_) ?_; rotate_left; (focus (first | (go_simp; done) | (go_simp; with_reducible rfl))); rotate_left; simp only [Act.put, List.setIfInBounds_toArray, List.set_cons_zero, List.set_cons_succ]
  refine ait1 6 1 (o := ({ dst := some 25, op := Go.Op.move (Go.Operand.tmp 1), type := 29, pos := "law.go:50", after := #[], guard := none })) (v := ?_) rfl (by kernel_rfl) (by kernel_rfl) (by kernel_rfl) (fun _ _ _ h => h) hC (by rfl) (by rfl) (fun ev hc hf h0 W hW => ?_) ?_; rotate_left; (focus (first | (go_simp; done) | (go_simp; with_reducible rfl))); rotate_left; simp only [Act.put, List.setIfInBounds_toArray, List.set_cons_zero, List.set_cons_succ]
  refine ait1 7 5 (o := ({ dst := some 26, op := Go.Op.fieldAddr 35 (Go.Operand.tmp 5) 1, type := 0, pos := "law.go:50", after := #[], guard := none })) (v := ?_) rfl (by kernel_rfl) (by kernel_rfl) (by kernel_rfl) (fun _ _ _ h => h) hC (by rfl) (by rfl) (fun ev hc hf h0 W hW => ?_) ?_; rotate_left; (focus (first | (go_simp; done) | (go_simp; with_reducible rfl))); rotate_left; simp only [Act.put, List.setIfInBounds_toArray, List.set_cons_zero, List.set_cons_succ]
  refine ait1 2 20 (o := ({ dst := some 21, op := Go.Op.load 3 (Go.Operand.tmp 20), type := 3, pos := "law.go:50", after := #[{ on := 1, ground := Go.Ground.data }], guard := none })) (v := ?_) rfl (by kernel_rfl) (by kernel_rfl) (by kernel_rfl) (fun _ _ _ h => h) hC (by rfl) (by rfl) (fun ev hc hf h0 W hW => ?_) ?_; rotate_left; (focus (obtain ⟨e0, e1, e2, e3, e4⟩ := HS.out W hW; first | (go_simp; done) | (go_simp; with_reducible rfl))); rotate_left; simp only [Act.put, List.setIfInBounds_toArray, List.set_cons_zero, List.set_cons_succ]
  refine ait1 3 5 (o := ({ dst := some 22, op := Go.Op.load 35 (Go.Operand.tmp 5), type := 35, pos := "law.go:50", after := #[], guard := none })) (v := ?_) rfl (by kernel_rfl) (by kernel_rfl) (by kernel_rfl) (fun _ _ _ h => h) hC (by rfl) (by rfl) (fun ev hc hf h0 W hW => ?_) ?_; rotate_left; (focus (obtain ⟨e0, e1, e2, e3, e4⟩ := HS.out W hW; first | (go_simp; done) | (go_simp; with_reducible rfl))); rotate_left; simp only [Act.put, List.setIfInBounds_toArray, List.set_cons_zero, List.set_cons_succ]
  refine ait1 8 26 (o := ({ dst := some 27, op := Go.Op.load 3 (Go.Operand.tmp 26), type := 3, pos := "law.go:50", after := #[{ on := 7, ground := Go.Ground.data }], guard := none })) (v := ?_) rfl (by kernel_rfl) (by kernel_rfl) (by kernel_rfl) (fun _ _ _ h => h) hC (by rfl) (by rfl) (fun ev hc hf h0 W hW => ?_) ?_; rotate_left; (focus (obtain ⟨e0, e1, e2, e3, e4⟩ := HS.out W hW; first | (go_simp; done) | (go_simp; with_reducible rfl))); rotate_left; simp only [Act.put, List.setIfInBounds_toArray, List.set_cons_zero, List.set_cons_succ]
  refine ait1 9 5 (o := ({ dst := some 28, op := Go.Op.load 35 (Go.Operand.tmp 5), type := 35, pos := "law.go:50", after := #[], guard := none })) (v := ?_) rfl (by kernel_rfl) (by kernel_rfl) (by kernel_rfl) (fun _ _ _ h => h) hC (by rfl) (by rfl) (fun ev hc hf h0 W hW => ?_) ?_; rotate_left; (focus (obtain ⟨e0, e1, e2, e3, e4⟩ := HS.out W hW; first | (go_simp; done) | (go_simp; with_reducible rfl))); rotate_left; simp only [Act.put, List.setIfInBounds_toArray, List.set_cons_zero, List.set_cons_succ]
  refine aic1 4 (o := ({ dst := some 23, op := Go.Op.call { callee := Go.Callee.value (Go.Operand.func 22), args := #[Go.Operand.tmp 22], argTypes := #[35] }, type := 9, pos := "law.go:50", after := #[{ on := 3, ground := Go.Ground.data }], guard := none })) 22 _ _ _ (by kernel_rfl) rfl hC (by rfl) (by rfl) (fun ev hc hf h0 => ?_) (data_any s X.out.2.1 str X.out.2.2.1 _) (fun w1 hb1 => ?_)
  · focus (unfold stepV; go_simp; done)
  simp only [Act.put, List.setIfInBounds_toArray, List.set_cons_zero, List.set_cons_succ]
  have H1 := Lib.hid (H0.out.keep hb1)
  have hC1 : Bk w1 Wi.heap.size (stepV s) 35 := H1.out.step.2.2
  clear H0 hC hb1
  refine aic3 5 (o := ({ dst := some 24, op := Go.Op.call { callee := Go.Callee.value (Go.Operand.func 16), args := #[Go.Operand.tmp 19, Go.Operand.tmp 21, Go.Operand.tmp 23], argTypes := #[25, 3, 9] }, type := 26, pos := "law.go:50", after := #[{ on := 0, ground := Go.Ground.data }, { on := 2, ground := Go.Ground.data }, { on := 4, ground := Go.Ground.data }, { on := 4, ground := Go.Ground.chain }], guard := none })) 19 21 23 _ _ _ (by kernel_rfl) rfl hC1 (by rfl) (by rfl) (by rfl) (by rfl) (fun ev hc hf h0 h1 h2 => ?_) (two_write s X.out.2.1 str X.out.2.2.1 X.out.1 H1.out) (fun w2 hb2 => ?_)
  · focus (go_simp; done)
  simp only [Act.put, List.setIfInBounds_toArray, List.set_cons_zero, List.set_cons_succ]
  have H2 := Lib.hid hb2
  have hC2 : Bk w2 Wi.heap.size (stepV s) 35 := H2.out.step.2.2
  clear H1 hC1 hb2
  refine aic1 10 (o := ({ dst := some 29, op := Go.Op.call { callee := Go.Callee.value (Go.Operand.func 22), args := #[Go.Operand.tmp 28], argTypes := #[35] }, type := 9, pos := "law.go:50", after := #[{ on := 9, ground := Go.Ground.data }, { on := 5, ground := Go.Ground.chain }], guard := none })) 28 _ _ _ (by kernel_rfl) rfl hC2 (by rfl) (by rfl) (fun ev hc hf h0 => ?_) (data_any s X.out.2.1 str X.out.2.2.1 _) (fun w3 hb3 => ?_)
  · focus (unfold stepV; go_simp; done)
  simp only [Act.put, List.setIfInBounds_toArray, List.set_cons_zero, List.set_cons_succ]
  have H3 := Lib.hid (H2.out.keep hb3)
  have hC3 : Bk w3 Wi.heap.size (stepV s) 35 := H3.out.step.2.2
  clear H2 hC2 hb3
  refine aic3 11 (o := ({ dst := some 30, op := Go.Op.call { callee := Go.Callee.value (Go.Operand.func 23), args := #[Go.Operand.tmp 25, Go.Operand.tmp 27, Go.Operand.tmp 29], argTypes := #[29, 3, 9] }, type := 3, pos := "law.go:50", after := #[{ on := 6, ground := Go.Ground.data }, { on := 8, ground := Go.Ground.data }, { on := 10, ground := Go.Ground.data }, { on := 10, ground := Go.Ground.chain }], guard := none })) 25 27 29 _ _ _ (by kernel_rfl) rfl hC3 (by rfl) (by rfl) (by rfl) (by rfl) (fun ev hc hf h0 h1 h2 => ?_) (two_rwrite s X.out.2.1 str X.out.2.2.1 X.out.1 H3.out) (fun w4 hb4 => ?_)
  · focus (go_simp; done)
  simp only [Act.put, List.setIfInBounds_toArray, List.set_cons_zero, List.set_cons_succ]
  have H4 := Lib.hid hb4
  have hC4 : Bk w4 Wi.heap.size (stepV s) 35 := H4.out.step.2.2
  clear H3 hC3 hb4
  obtain ⟨er, her⟩ : ∃ er, wErr d s = er := ⟨_, rfl⟩
  rw [her]
  refine aiv2 12 (o := ({ dst := some 31, op := Go.Op.binOp Go.BinOp.eql 3 (Go.Operand.tmp 24) (Go.Operand.tmp 30) 3, type := 4, pos := "law.go:50", after := #[{ on := 5, ground := Go.Ground.data }, { on := 11, ground := Go.Ground.data }], guard := none })) 24 30 (.bool true) (W' := w4) (by kernel_rfl) rfl hC4 (by rfl) (by rfl) (by rfl) (fun ev hc hf h0 h1 => ?_) ?_
  · go_simp
  simp only [Act.put, List.setIfInBounds_toArray, List.set_cons_zero, List.set_cons_succ]
  refine aiv1 13 (o := ({ dst := some 6, op := Go.Op.assign (Go.Operand.tmp 31), type := 4, pos := "law.go:50", after := #[{ on := 12, ground := Go.Ground.data }, { on := 11, ground := Go.Ground.chain }, { on := 0, ground := Go.Ground.phase }, { on := 1, ground := Go.Ground.phase }, { on := 2, ground := Go.Ground.phase }, { on := 3, ground := Go.Ground.phase }, { on := 4, ground := Go.Ground.phase }, { on := 5, ground := Go.Ground.phase }, { on := 6, ground := Go.Ground.phase }, { on := 7, ground := Go.Ground.phase }, { on := 8, ground := Go.Ground.phase }, { on := 9, ground := Go.Ground.phase }, { on := 10, ground := Go.Ground.phase }, { on := 11, ground := Go.Ground.phase }, { on := 12, ground := Go.Ground.phase }], guard := none })) 31 (.bool true) (W' := w4) (by kernel_rfl) rfl hC4 (by rfl) (by rfl) (fun ev hc hf h0 => ?_) ?_
  · go_simp
  simp only [Act.put, List.setIfInBounds_toArray, List.set_cons_zero, List.set_cons_succ]
  refine ai_done (by kernel_rfl) hC4 ?_
  clear hC4 her
  go_wp2_with fail
  go_ret
  exact ⟨rfl, H4.out.less fun z hz => List.mem_cons_of_mem _ hz⟩
/-- One step of both. -/
theorem does_any (s : Stp) (hok : s.ok) (hA : s.A = none → s.cap = 0) (hI : IntsAt W s.A s.ps) (hl : s.ps.length ≤ 1000000) (hL : d.L.length ≤ 1000000) (h : Two Z W Wi g r d d) :
    Calls Try.prog 11 #[.pointer (some ⟨g, 0, none⟩), .pointer (some ⟨r, 0, none⟩), .agg (stepV s)] Wi fun e W' => e = .returned (.bool true) ∧ Two Z W W' g r (stepD d s) (stepD d s) := by
  unfold stepD
  by_cases h0 : s.act.tmod 5 = 0
  · rw [if_pos h0]; exact does_write s hok h0 hL h
  rw [if_neg h0]
  by_cases h1 : s.act.tmod 5 = 1
  · rw [if_pos h1]; exact does_sync s h1 hL h
  rw [if_neg h1]
  by_cases h2 : s.act.tmod 5 = 2
  · rw [if_pos h2]; exact does_crash s h2 hA hI hl hL h
  rw [if_neg h2]
  by_cases h3 : s.act.tmod 5 = 3
  · rw [if_pos h3]; exact does_read s h3 hL h
  rw [if_neg h3]
  exact does_fuse s hok h0 h1 h2 h3 h
end
theorem crash_len (d : Dsk) (ps : List Int) : (d.crash ps).S.length = d.S.length := crashS_len _ _ _
theorem step_len (d : Dsk) (s : Stp) : (stepD d s).S.length = d.S.length ∧ (stepD d s).L.length ≤ d.L.length + 1 := by
  unfold stepD wStep yStep fStep
  split
  · split
    · exact ⟨rfl, by omega⟩
    · split
      · exact ⟨rfl, by omega⟩
      · exact ⟨rfl, by simp [Dsk.add, Dsk.done]⟩
  · split
    · split
      · exact ⟨rfl, by omega⟩
      · exact ⟨syncS_len _ _, by simp [Dsk.sync]⟩
    · split
      · exact ⟨crashS_len _ _ _, by simp [Dsk.crash]⟩
      · split <;> exact ⟨rfl, by simp⟩

end Go.Proofs.Ytbobbekbliichaa
