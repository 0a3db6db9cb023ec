import Derived.Test.YtbobbekbliichaaE27
namespace Go.Proofs.Ytbobbekbliichaa
open Go.RowKit
set_option linter.unusedSimpArgs false
set_option linter.unusedVariables false


open Go.Lib (byteCells byteCells_length byteCells_one)
section
variable {Z : List (Nat × Obj)} {W Wi W' : World} {g r : Nat} {d : Dsk}
/-- The boxed step is still there. -/
theorem Two.step {s : Stp} {b : Nat} {d' : Dsk} (h : Two ((b, .cells (stepV s) 35) :: Z) W Wi g r d d') : Wi.cell? ⟨b, 1, none⟩ = some (.int .i64 s.b) ∧ Wi.cell? ⟨b, 4, none⟩ = some (.slice s.A s.ps.length s.cap) ∧ Bk Wi b (stepV s) 35 := by
  have hb : Bk Wi b (stepV s) 35 := h.base
  exact ⟨hb.cell 1, hb.cell 4, hb⟩
set_option maxRecDepth 100000
set_option maxHeartbeats 6400000
theorem does_sync (s : Stp) (hm : s.act.tmod 5 = 1) (hL : d.L.length ≤ 1000000) (h : Two Z W Wi g r d d) :
    Calls Try.prog 11 #[.pointer (some ⟨g, 0, none⟩), .pointer (some ⟨r, 0, none⟩), .agg (stepV s)] Wi fun e W' => e = .returned (.bool true) ∧ Two Z W W' g r (yStep d) (yStep d) := by
  have X := Lib.hid (And.intro hL h)
  unfold stepV
  clear hL h
  go_enter Try.func11, Try.ntmps11
  go_wp2_with fail
  refine (two_sync X.out.1 (X.out.2.keep ((Below.refl _ _).alloc (Nat.le_refl _) _))).mono ?_
  rintro e w1 ⟨rfl, h1⟩
  have H1 := Lib.hid h1
  clear h1
  go_wp2_with fail
  refine (two_rsync X.out.1 H1.out).mono ?_
  rintro e w2 ⟨rfl, h2⟩
  have H2 := Lib.hid h2
  clear h2 H1
  go_wp2_with fail
  go_ret
  exact ⟨rfl, H2.out⟩
theorem does_fuse (s : Stp) (hok : s.ok) (h0 : s.act.tmod 5 ≠ 0) (h1 : s.act.tmod 5 ≠ 1) (h2 : s.act.tmod 5 ≠ 2) (h3 : s.act.tmod 5 ≠ 3) (h : Two Z W Wi g r d d) :
    Calls Try.prog 11 #[.pointer (some ⟨g, 0, none⟩), .pointer (some ⟨r, 0, none⟩), .agg (stepV s)] Wi fun e W' => e = .returned (.bool true) ∧ Two Z W W' g r (fStep d s.b) (fStep d s.b) := by
  have X := Lib.hid (And.intro hok.2.2.2.1 (h.alloc (.cells (stepV s) 35)))
  unfold stepV
  clear hok h
  go_enter Try.func11, Try.ntmps11
  go_wp2_with fail
  refine (two_fuse s.b X.out.1 X.out.2).mono ?_
  rintro e w1 ⟨rfl, h1⟩
  obtain ⟨c1, _, _⟩ := h1.step
  have H1 := Lib.hid h1
  clear h1
  go_wp2_with fail
  refine (two_rfuse s.b X.out.1 H1.out).mono ?_
  rintro e w2 ⟨⟨v, rfl⟩, h2⟩
  have H2 := Lib.hid h2
  clear h2 H1 c1
  go_wp2_with fail
  go_ret
  exact ⟨rfl, H2.out.less fun z hz => List.mem_cons_of_mem _ hz⟩
theorem does_read (s : Stp) (hm : s.act.tmod 5 = 3) (hL : d.L.length ≤ 1000000) (h : Two Z W Wi g r d d) :
    Calls Try.prog 11 #[.pointer (some ⟨g, 0, none⟩), .pointer (some ⟨r, 0, none⟩), .agg (stepV s)] Wi fun e W' => e = .returned (.bool true) ∧ Two Z W W' g r d d := by
  obtain ⟨str, hstr⟩ : ∃ str, (⟨(rText d s.b).toArray⟩ : ByteArray) = str := ⟨_, rfl⟩
  have X := Lib.hid (And.intro hL (And.intro hstr (h.alloc (.cells (stepV s) 35))))
  unfold stepV
  clear hL h hstr
  go_enter Try.func11, Try.ntmps11
  go_wp2_with fail
  refine (two_read s.b str X.out.2.1 X.out.1 X.out.2.2).mono ?_
  rintro e w1 ⟨rfl, h1⟩
  obtain ⟨c1, _, _⟩ := h1.step
  have H1 := Lib.hid h1
  clear h1
  go_wp2_with fail
  refine (two_rread s.b str X.out.2.1 X.out.1 H1.out).mono ?_
  rintro e w2 ⟨rfl, h2⟩
  have H2 := Lib.hid h2
  clear h2 H1 c1
  generalize d.there s.b = te
  go_wp2_with fail
  go_ret
  exact ⟨rfl, H2.out.less fun z hz => List.mem_cons_of_mem _ hz⟩
theorem does_crash (s : Stp) (hm : s.act.tmod 5 = 2) (hA : s.A = none → s.cap = 0) (hI : IntsAt W s.A s.ps) (hl : s.ps.length ≤ 1000000) (hL : d.L.length ≤ 1000000) (h : Two Z W Wi g r d d) :
    Calls Try.prog 11 #[.pointer (some ⟨g, 0, none⟩), .pointer (some ⟨r, 0, none⟩), .agg (stepV s)] Wi fun e W' => e = .returned (.bool true) ∧ Two Z W W' g r (d.crash s.ps) (d.crash s.ps) := by
  have X := Lib.hid (And.intro hL (And.intro hl (And.intro hI (h.alloc (.cells (stepV s) 35)))))
  have HA := Lib.hid hA
  unfold stepV
  clear hL h hl hI hA
  go_enter Try.func11, Try.ntmps11
  go_upto_region 7 with fail
  obtain ⟨w0, hw0⟩ : ∃ w0, w0 = Wi.alloc (.cells #[.int .u8 s.act, .int .i64 s.b, .int .u8 s.c, .int .u8 s.odd, .slice s.A s.ps.length s.cap] 35) := ⟨_, rfl⟩
  rw [← hw0]
  have H0 := Lib.hid (show Two ((Wi.heap.size, .cells (stepV s) 35) :: Z) W w0 g r d d by rw [hw0]; exact X.out.2.2.2)
  clear hw0
  have hbn : Bk (w0.alloc (.cells #[] 3)) w0.heap.size #[] 3 := Bk.new w0 _ _
  have hOwn : (w0.alloc (.cells #[] 3)).ownsRow w0.heap.size 3 1 (.slice (some ⟨w0.heap.size, 0, none⟩) 0 0) 0 [] := ⟨rfl, .inr ⟨w0.heap.size, 0, #[], rfl, Nat.le_refl _, hbn, Nat.le_refl _, by simp [maxLen], rfl, rfl⟩⟩
  have hba : Below w0.heap.size w0 (w0.alloc (.cells #[] 3)) := (Below.refl _ _).alloc (Nat.le_refl _) _
  obtain ⟨A', c', w7, hap, ho7, hg7⟩ := app_empty 33 hOwn s.A s.cap s.ps (X.out.2.2.1.bel (H0.out.1.trans (hba.mono H0.out.1.size))) HA.out X.out.2.1 (by simp)
  have hb7 : Below w0.heap.size w0 w7 := hba.grown hg7 (by simp) (fun j e => by injection e with e; omega)
  have c4 : (w0.alloc (.cells #[] 3)).cell? ⟨Wi.heap.size, 4, none⟩ = some (.slice s.A s.ps.length s.cap) := (Bk.alloc H0.out.step.2.2 _).cell 4
  have c7 : w7.cell? ⟨Wi.heap.size, 4, none⟩ = some (.slice s.A s.ps.length s.cap) := (H0.out.step.2.2.bel hb7).cell 4
  have AP := Lib.hid hap
  have HP := Lib.hid (And.intro ho7 hb7)
  clear hbn hOwn hba hap ho7 hg7 hb7
  go_wp2_with (with_reducible refine wpList_pl 41 rfl ?_)
  refine plv0 (.slice (some ⟨w0.heap.size, 0, none⟩) 0 0) (W' := w0.alloc (.cells #[] 3)) (by rfl) (fun ev hc hf => ?_) ?_
  · go_simp
  simp only [Act.put, List.setIfInBounds_toArray, List.set_cons_zero, List.set_cons_succ]
  refine plv1 5 (v := ?_) (W' := ?_) (by rfl) (by rfl) (fun ev hc hf h0 => ?_) ?_; rotate_left 2; (focus (go_simp; constructor <;> with_reducible rfl)); simp only [Act.put, List.setIfInBounds_toArray, List.set_cons_zero, List.set_cons_succ]
  refine plv1 42 (v := ?_) (W' := ?_) (by rfl) (by rfl) (fun ev hc hf h0 => ?_) ?_; rotate_left 2; (focus (go_simp; constructor <;> with_reducible rfl)); simp only [Act.put, List.setIfInBounds_toArray, List.set_cons_zero, List.set_cons_succ]
  refine plv2 41 43 _ (by rfl) (by rfl) (by rfl) (fun ev hc hf h0 h1 => ex_app _ _ 33 rfl h0 h1 AP.out) ?_
  simp only [Act.put, List.setIfInBounds_toArray, List.set_cons_zero, List.set_cons_succ]
  refine PL.mk ?_
  clear c4
  go_wp2_with fail
  refine (two_crash_new s.ps H0.out X.out.1 X.out.2.1 w7 HP.out.2 A' c' (picks_own HP.out.1)).mono ?_
  rintro e w1 ⟨rfl, h1⟩
  obtain ⟨_, c1, _⟩ := h1.step
  have H1 := Lib.hid h1
  clear h1 c7
  go_wp2_with fail
  refine (two_rcrash s.A s.cap s.ps X.out.2.2.1 H1.out X.out.1 X.out.2.1).mono ?_
  rintro e w2 ⟨⟨v, rfl⟩, h2⟩
  have H2 := Lib.hid h2
  clear h2 H1 c1
  go_wp2_with fail
  go_ret
  exact ⟨rfl, H2.out.less fun z hz => List.mem_cons_of_mem _ hz⟩
end

end Go.Proofs.Ytbobbekbliichaa
