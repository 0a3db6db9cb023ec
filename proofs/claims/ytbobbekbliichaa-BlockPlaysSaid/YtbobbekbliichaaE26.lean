import Derived.Test.YtbobbekbliichaaE25
namespace Go.Proofs.Ytbobbekbliichaa
open Go.RowKit
set_option linter.unusedSimpArgs false
set_option linter.unusedVariables false


open Go.Lib (byteCells byteCells_length byteCells_one)
section
variable {ops : Array Oper} {Q' : Exit → Act → World → Prop} {a : Act} {o : Oper} {W : World} {listed : Array Bool} {fuel i : Nat} {C : World → Prop}
theorem op_val (v : Value) {W' : World} (ho : ops[i]? = some o) (hw : Region.wanted o (yielded ops a.tmps) = true) (hv : (execOp a.eval o).run Try.prog W = .ok (.value v) W')
    (h : AI C ops Q' fuel (listed.setIfInBounds i true) (a.put o.dst v) W') : wpOp Try.prog ops Q' i (anyIn C ops Q' fuel (listed.setIfInBounds i true)) a W := by
  unfold wpOp
  rw [ho]
  simp only [hw, if_true]
  refine .inl ?_
  unfold Oper.wp
  rw [hv, Oper.upon_value]
  exact h.out
theorem op_call (f : FuncId) (args : Array Value) (v : Value) {R : World → Prop} (ho : ops[i]? = some o) (hw : Region.wanted o (yielded ops a.tmps) = true) (hv : (execOp a.eval o).run Try.prog W = .ok (.enter f args) W)
    (hc : Calls Try.prog f args W fun e W' => e = .returned v ∧ R W') (h : ∀ W', R W' → AI C ops Q' fuel (listed.setIfInBounds i true) (a.put o.dst v) W') : wpOp Try.prog ops Q' i (anyIn C ops Q' fuel (listed.setIfInBounds i true)) a W := by
  unfold wpOp
  rw [ho]
  simp only [hw, if_true]
  refine .inl ?_
  unfold Oper.wp
  rw [hv, Oper.upon_enter]
  exact hc.mono fun e w'' ⟨h1, h2⟩ => by subst h1; exact (h _ h2).out
theorem ai_two (i j : Nat) (hr : Region.ready .any ops listed = [i, j]) (hC : C W) (h1 : wpOp Try.prog ops Q' i (anyIn C ops Q' fuel (listed.setIfInBounds i true)) a W) (h2 : wpOp Try.prog ops Q' j (anyIn C ops Q' fuel (listed.setIfInBounds j true)) a W) : AI C ops Q' (fuel + 1) listed a W :=
  ⟨hC, fun h0 => (by rw [hr] at h0; cases h0), fun k hk => by
    rw [hr] at hk
    rcases List.mem_cons.1 hk with rfl | hk
    · exact h1
    · obtain rfl : k = j := by simpa using hk
      exact h2⟩
theorem ai_meet (m : Nat) (L : Array Bool) (F : Nat → Act) {n : Nat} {L0 : Array Bool} {w : World} (h1 : (∀ g w, C w → AI C ops Q' m L (F g) w) → AI C ops Q' n L0 a w) (h2 : ∀ g w, C w → AI C ops Q' m L (F g) w) : AI C ops Q' n L0 a w := h1 h2

theorem opv0 (v : Value) {W' : World} (ho : ops[i]? = some o) (hw : Region.wanted o (yielded ops a.tmps) = true)  (hv : ∀ ev : Operand → Value, (∀ v, ev (.const v) = v) → (∀ f, ev (.func f) = .func (.func f) #[] #[]) → (execOp ev o).run Try.prog W = .ok (.value v) W')
    (h : AI C ops Q' fuel (listed.setIfInBounds i true) (a.put o.dst v) W') : wpOp Try.prog ops Q' i (anyIn C ops Q' fuel (listed.setIfInBounds i true)) a W :=
  op_val v ho hw (hv a.eval (fun _ => rfl) (fun _ => rfl) ) h
theorem opc0 (f : FuncId) (args : Array Value) (v : Value) {R : World → Prop} (ho : ops[i]? = some o) (hw : Region.wanted o (yielded ops a.tmps) = true)  (hv : ∀ ev : Operand → Value, (∀ v, ev (.const v) = v) → (∀ f, ev (.func f) = .func (.func f) #[] #[]) → (execOp ev o).run Try.prog W = .ok (.enter f args) W)
    (hc : Calls Try.prog f args W fun e W' => e = .returned v ∧ R W') (h : ∀ W', R W' → AI C ops Q' fuel (listed.setIfInBounds i true) (a.put o.dst v) W') : wpOp Try.prog ops Q' i (anyIn C ops Q' fuel (listed.setIfInBounds i true)) a W :=
  op_call f args v ho hw (hv a.eval (fun _ => rfl) (fun _ => rfl) ) hc h

theorem opv1 (n0 : Nat) {x0 : Value} (v : Value) {W' : World} (ho : ops[i]? = some o) (hw : Region.wanted o (yielded ops a.tmps) = true) (h0 : a.tmps.toList[n0]? = some x0) (hv : ∀ ev : Operand → Value, (∀ v, ev (.const v) = v) → (∀ f, ev (.func f) = .func (.func f) #[] #[]) → ev (.tmp n0) = x0 → (execOp ev o).run Try.prog W = .ok (.value v) W')
    (h : AI C ops Q' fuel (listed.setIfInBounds i true) (a.put o.dst v) W') : wpOp Try.prog ops Q' i (anyIn C ops Q' fuel (listed.setIfInBounds i true)) a W :=
  op_val v ho hw (hv a.eval (fun _ => rfl) (fun _ => rfl) (slot_eval h0)) h
theorem opc1 (n0 : Nat) {x0 : Value} (f : FuncId) (args : Array Value) (v : Value) {R : World → Prop} (ho : ops[i]? = some o) (hw : Region.wanted o (yielded ops a.tmps) = true) (h0 : a.tmps.toList[n0]? = some x0) (hv : ∀ ev : Operand → Value, (∀ v, ev (.const v) = v) → (∀ f, ev (.func f) = .func (.func f) #[] #[]) → ev (.tmp n0) = x0 → (execOp ev o).run Try.prog W = .ok (.enter f args) W)
    (hc : Calls Try.prog f args W fun e W' => e = .returned v ∧ R W') (h : ∀ W', R W' → AI C ops Q' fuel (listed.setIfInBounds i true) (a.put o.dst v) W') : wpOp Try.prog ops Q' i (anyIn C ops Q' fuel (listed.setIfInBounds i true)) a W :=
  op_call f args v ho hw (hv a.eval (fun _ => rfl) (fun _ => rfl) (slot_eval h0)) hc h

theorem opv2 (n0 n1 : Nat) {x0 x1 : Value} (v : Value) {W' : World} (ho : ops[i]? = some o) (hw : Region.wanted o (yielded ops a.tmps) = true) (h0 : a.tmps.toList[n0]? = some x0) (h1 : a.tmps.toList[n1]? = some x1) (hv : ∀ ev : Operand → Value, (∀ v, ev (.const v) = v) → (∀ f, ev (.func f) = .func (.func f) #[] #[]) → ev (.tmp n0) = x0 → ev (.tmp n1) = x1 → (execOp ev o).run Try.prog W = .ok (.value v) W')
    (h : AI C ops Q' fuel (listed.setIfInBounds i true) (a.put o.dst v) W') : wpOp Try.prog ops Q' i (anyIn C ops Q' fuel (listed.setIfInBounds i true)) a W :=
  op_val v ho hw (hv a.eval (fun _ => rfl) (fun _ => rfl) (slot_eval h0) (slot_eval h1)) h
theorem opc2 (n0 n1 : Nat) {x0 x1 : Value} (f : FuncId) (args : Array Value) (v : Value) {R : World → Prop} (ho : ops[i]? = some o) (hw : Region.wanted o (yielded ops a.tmps) = true) (h0 : a.tmps.toList[n0]? = some x0) (h1 : a.tmps.toList[n1]? = some x1) (hv : ∀ ev : Operand → Value, (∀ v, ev (.const v) = v) → (∀ f, ev (.func f) = .func (.func f) #[] #[]) → ev (.tmp n0) = x0 → ev (.tmp n1) = x1 → (execOp ev o).run Try.prog W = .ok (.enter f args) W)
    (hc : Calls Try.prog f args W fun e W' => e = .returned v ∧ R W') (h : ∀ W', R W' → AI C ops Q' fuel (listed.setIfInBounds i true) (a.put o.dst v) W') : wpOp Try.prog ops Q' i (anyIn C ops Q' fuel (listed.setIfInBounds i true)) a W :=
  op_call f args v ho hw (hv a.eval (fun _ => rfl) (fun _ => rfl) (slot_eval h0) (slot_eval h1)) hc h

theorem opv3 (n0 n1 n2 : Nat) {x0 x1 x2 : Value} (v : Value) {W' : World} (ho : ops[i]? = some o) (hw : Region.wanted o (yielded ops a.tmps) = true) (h0 : a.tmps.toList[n0]? = some x0) (h1 : a.tmps.toList[n1]? = some x1) (h2 : a.tmps.toList[n2]? = some x2) (hv : ∀ ev : Operand → Value, (∀ v, ev (.const v) = v) → (∀ f, ev (.func f) = .func (.func f) #[] #[]) → ev (.tmp n0) = x0 → ev (.tmp n1) = x1 → ev (.tmp n2) = x2 → (execOp ev o).run Try.prog W = .ok (.value v) W')
    (h : AI C ops Q' fuel (listed.setIfInBounds i true) (a.put o.dst v) W') : wpOp Try.prog ops Q' i (anyIn C ops Q' fuel (listed.setIfInBounds i true)) a W :=
  op_val v ho hw (hv a.eval (fun _ => rfl) (fun _ => rfl) (slot_eval h0) (slot_eval h1) (slot_eval h2)) h
theorem opc3 (n0 n1 n2 : Nat) {x0 x1 x2 : Value} (f : FuncId) (args : Array Value) (v : Value) {R : World → Prop} (ho : ops[i]? = some o) (hw : Region.wanted o (yielded ops a.tmps) = true) (h0 : a.tmps.toList[n0]? = some x0) (h1 : a.tmps.toList[n1]? = some x1) (h2 : a.tmps.toList[n2]? = some x2) (hv : ∀ ev : Operand → Value, (∀ v, ev (.const v) = v) → (∀ f, ev (.func f) = .func (.func f) #[] #[]) → ev (.tmp n0) = x0 → ev (.tmp n1) = x1 → ev (.tmp n2) = x2 → (execOp ev o).run Try.prog W = .ok (.enter f args) W)
    (hc : Calls Try.prog f args W fun e W' => e = .returned v ∧ R W') (h : ∀ W', R W' → AI C ops Q' fuel (listed.setIfInBounds i true) (a.put o.dst v) W') : wpOp Try.prog ops Q' i (anyIn C ops Q' fuel (listed.setIfInBounds i true)) a W :=
  op_call f args v ho hw (hv a.eval (fun _ => rfl) (fun _ => rfl) (slot_eval h0) (slot_eval h1) (slot_eval h2)) hc h

end
theorem make61u (n : Nat) (hn : n ≤ 255) (W : World) : (Instr.makeSlice 61 (.int .u8 (n : Int)) (.int .u8 (n : Int))).run Try.prog W = .ok (.slice (some ⟨W.heap.size, 0, none⟩) n n) (W.alloc (.cells (byteCells (List.replicate n 0)).toArray 5)) := by
  obtain ⟨i, hi, hz, hs, hb⟩ := info_of info5
  have h := run_make (P := Try.prog) W 61 5 i _ Try.underlying61 hi hz .u8 .u8 n n (by omega) (by omega) (by rw [hb]; omega) (by omega)
  rw [hs, show (Value.int .u8 0).cells = #[Value.int .u8 0] from rfl, made_zero1] at h
  have e : (byteCells (List.replicate n (0 : UInt8))).toArray = Array.replicate n (Value.int .u8 0) := by
    unfold byteCells
    rw [List.map_replicate, rep_arr]
    rfl
  rw [e]
  simpa using h
theorem conv_n {w : World} {g n : Nat} {t : TypeId} {bs : List UInt8} (hg : Bk w g (byteCells bs).toArray t) (hl : bs.length = n) : (convert 61 9 (.slice (some ⟨g, 0, none⟩) n n)).run Try.prog w = .ok (.string ⟨bs.toArray⟩) w := by
  have := run_convert_bytes_arg (P := Try.prog) w 61 5 Try.underlying61 Try.underlying5 g 0 n n (bs.map (fun b => (b.toNat : Int))) (by rw [List.length_map, hl]) (fun i hi => by
    rw [Nat.zero_add, hg.cell, List.getElem?_toArray, List.getD_eq_getElem?_getD]
    unfold byteCells
    rw [List.getElem?_map, List.getElem?_map, List.getElem?_eq_getElem (by omega)]
    rfl) 9 Try.underlying9
  rw [str_bytes] at this
  exact this

theorem app_bytes (a b : List UInt8) : (⟨a.toArray⟩ : ByteArray) ++ (⟨b.toArray⟩ : ByteArray) = ⟨(a ++ b).toArray⟩ := by
  apply ByteArray.ext
  simp
set_option maxRecDepth 100000 in
set_option maxHeartbeats 3200000 in
theorem rsure_disk {B : Nat} {F : Nat → Prop} {W : World} {r : Nat} {sv lv : Value} {d : Dsk} (str : ByteArray) (hstr : (⟨d.sure.toArray⟩ : ByteArray) = str) (h : RefIn B F W r sv lv d) :
    Calls Try.prog 14 #[.pointer (some ⟨r, 0, none⟩)] W fun e W' => e = .returned (.string str) ∧ W = W' := by
  obtain ⟨gs, cs, rfl, _, hs⟩ := h.srow
  have c0 := h.cells.1
  have X := Lib.hid (And.intro h.ok (And.intro hs hstr))
  clear h hs hstr
  go_enter Try.func14, Try.ntmps14
  go_wp2_with fail
  go_loop [3, 4] (fun v i => ∃ (k : Nat) (s : ByteArray), k ≤ d.S.length ∧ i = .int .i64 k ∧ v = .string s ∧ (⟨(d.S.take k).flatten.toArray⟩ : ByteArray) = s) (fun _ i => d.S.length - (intOf i).toNat)
  case atStart => exact ⟨0, _, Nat.zero_le _, rfl, rfl, rfl⟩
  case round =>
    obtain ⟨k, s, hk, rfl, rfl, hs⟩ := hrel
    by_cases hlt : k < d.S.length
    · have hki : (k : Int) < (d.S.length : Int) := by omega
      have hkb : (k : Int) ≤ 1000000 := by have := X.out.1.few; omega
      obtain ⟨x, hx⟩ : ∃ x, d.S[k]? = some x := ⟨_, List.getElem?_eq_getElem hlt⟩
      obtain ⟨sx, hsx⟩ : ∃ sx, (⟨x.toArray⟩ : ByteArray) = sx := ⟨_, rfl⟩
      have cx : W.cell? ⟨gs, k, none⟩ = some (.string sx) := by rw [X.out.2.1 k x hx]; unfold strV; rw [hsx]
      have hcat : (⟨(d.S.take (k + 1)).flatten.toArray⟩ : ByteArray) = s ++ sx := by
        rw [← hs, ← hsx, app_bytes]
        have : d.S.take (k + 1) = d.S.take k ++ [x] := by rw [List.take_add_one, hx]; rfl
        rw [this, List.flatten_append]
        simp
      have z1 : s.size ≤ 1048576 := by
        rw [← hs]
        show (d.S.take k).flatten.toArray.size ≤ _
        rw [List.size_toArray]
        have e := flatS_len (S := d.S.take k) (fun y hy => X.out.1.all y (List.mem_of_mem_take hy))
        rw [flatS_bytes, byteCells_length, List.length_take] at e
        have := X.out.1.few
        omega
      have z2 : sx.size = 256 := by rw [← hsx]; show x.toArray.size = 256; rw [List.size_toArray]; exact X.out.1.all x (List.mem_of_getElem? hx)
      have Y := Lib.hid (And.intro hcat (And.intro hlt hx))
      have z3 : s.size + 256 ≤ 140737488355328 := by omega
      clear hs hsx hcat hlt hk hx
      go_wp2_with fail
      refine ⟨⟨k + 1, s ++ sx, by have := Y.out.2.1; omega, by simp, rfl, Y.out.1⟩, ?_⟩
      simp [intOf]
      have := Y.out.2.1
      omega
    · obtain rfl : k = d.S.length := by omega
      rw [List.take_length, show d.S.flatten = d.sure from rfl, X.out.2.2] at hs
      subst hs
      go_wp2_with fail
      go_ret
      exact ⟨rfl, rfl⟩
/-- The data of a step. -/
def dataB (s : Stp) : List UInt8 := oneByte s.c ++ List.replicate (s.odd % 3).toNat 0
def stepV (s : Stp) : Array Value := #[.int .u8 s.act, .int .i64 s.b, .int .u8 s.c, .int .u8 s.odd, .slice s.A s.ps.length s.cap]
set_option maxRecDepth 100000 in
set_option maxHeartbeats 3200000 in
theorem data_any (s : Stp) (hok : s.ok) (str : ByteArray) (hstr : (⟨(dataB s).toArray⟩ : ByteArray) = str) (W : World) : Calls Try.prog 22 #[.agg (stepV s)] W fun e W' => e = .returned (.string str) ∧ Below W.heap.size W W' := by
  obtain ⟨m, hm, hm2⟩ : ∃ m : Nat, s.odd.tmod 3 = (m : Int) ∧ m ≤ 2 := ⟨(s.odd.tmod 3).toNat, by have := hok.2.2.2.2.2.2.1; rw [Int.tmod_eq_emod_of_nonneg this]; omega, by have := hok.2.2.2.2.2.2.1; rw [Int.tmod_eq_emod_of_nonneg this]; omega⟩
  obtain ⟨fs, hfs⟩ : ∃ fs, (⟨(oneByte s.c).toArray⟩ : ByteArray) = fs := ⟨_, rfl⟩
  have HF := Lib.hid (fun w' => hfs ▸ full_any s.c w')
  have X := Lib.hid (And.intro hok (And.intro hstr (And.intro hm (And.intro hm2 hfs))))
  unfold stepV
  clear hok hstr hm hm2 hfs
  go_enter Try.func22, Try.ntmps22
  go_wp2_with fail
  have M255 := Lib.hid (show m ≤ 255 by have := X.out.2.2.2.1; omega)
  obtain ⟨w0, hw0⟩ : ∃ w0, w0 = W.alloc (.cells #[.int .u8 s.act, .int .i64 s.b, .int .u8 s.c, .int .u8 s.odd, .slice s.A s.ps.length s.cap] 35) := ⟨_, rfl⟩
  rw [← hw0]
  have hbk : Bk w0 W.heap.size (stepV s) 35 := hw0 ▸ Bk.new W _ _
  have hb0 : Below W.heap.size W w0 := hw0 ▸ (Below.refl _ _).alloc (Nat.le_refl _) _
  have HS := Lib.hid (show ∀ w', Bel w0 w' → w'.cell? ⟨W.heap.size, 2, none⟩ = some (.int .u8 s.c) ∧ w'.cell? ⟨W.heap.size, 3, none⟩ = some (.int .u8 s.odd) from fun w' hw => ⟨Bel.cell hw (hbk.cell 2), Bel.cell hw (hbk.cell 3)⟩)
  obtain ⟨zs, hzs⟩ : ∃ zs, (⟨(List.replicate m (0 : UInt8)).toArray⟩ : ByteArray) = zs := ⟨_, rfl⟩
  have Z := Lib.hid (And.intro hb0 hzs)
  have hC : Bel w0 w0.drew := (Bel.refl w0).drew
  clear hbk hb0 hw0 hzs
  go_upto_region 1 with fail
  refine wp_ai (Bel w0) 10 #[false, false, false, false, false, false, false, false, false, false] rfl rfl ?_
  refine ait1 0 1 (o := ({ dst := some 3, op := Go.Op.fieldAddr 35 (Go.Operand.tmp 1) 2, type := 0, pos := "law.go:44", after := #[], guard := none })) (v := ?_) rfl (by kernel_rfl) (by kernel_rfl) (by kernel_rfl) (fun _ _ _ h => h) hC (by rfl) (by rfl) (fun ev hc hf h0 W hW => ?_) ?_; rotate_left; (focus (first | (go_simp; done) | (go_simp; with_reducible rfl))); rotate_left; simp only [Act.put, List.setIfInBounds_toArray, List.set_cons_zero, List.set_cons_succ]
  refine ait1 3 1 (o := ({ dst := some 6, op := Go.Op.fieldAddr 35 (Go.Operand.tmp 1) 3, type := 0, pos := "law.go:44", after := #[], guard := none })) (v := ?_) rfl (by kernel_rfl) (by kernel_rfl) (by kernel_rfl) (fun _ _ _ h => h) hC (by rfl) (by rfl) (fun ev hc hf h0 W hW => ?_) ?_; rotate_left; (focus (first | (go_simp; done) | (go_simp; with_reducible rfl))); rotate_left; simp only [Act.put, List.setIfInBounds_toArray, List.set_cons_zero, List.set_cons_succ]
  refine ait1 1 3 (o := ({ dst := some 4, op := Go.Op.load 5 (Go.Operand.tmp 3), type := 5, pos := "law.go:44", after := #[{ on := 0, ground := Go.Ground.data }], guard := none })) (v := ?_) rfl (by kernel_rfl) (by kernel_rfl) (by kernel_rfl) (fun _ _ _ h => h) hC (by rfl) (by rfl) (fun ev hc hf h0 W hW => ?_) ?_; rotate_left; (focus (obtain ⟨e1, e2⟩ := HS.out W hW; first | (go_simp; done) | (go_simp; with_reducible rfl))); rotate_left; simp only [Act.put, List.setIfInBounds_toArray, List.set_cons_zero, List.set_cons_succ]
  refine ait1 4 6 (o := ({ dst := some 7, op := Go.Op.load 5 (Go.Operand.tmp 6), type := 5, pos := "law.go:44", after := #[{ on := 3, ground := Go.Ground.data }], guard := none })) (v := ?_) rfl (by kernel_rfl) (by kernel_rfl) (by kernel_rfl) (fun _ _ _ h => h) hC (by rfl) (by rfl) (fun ev hc hf h0 W hW => ?_) ?_; rotate_left; (focus (obtain ⟨e1, e2⟩ := HS.out W hW; first | (go_simp; done) | (go_simp; with_reducible rfl))); rotate_left; simp only [Act.put, List.setIfInBounds_toArray, List.set_cons_zero, List.set_cons_succ]
  refine ait1 5 7 (o := ({ dst := some 8, op := Go.Op.binOp Go.BinOp.rem 5 (Go.Operand.tmp 7) (Go.Operand.const (Go.Value.int Go.IntKind.u8 3)) 5, type := 5, pos := "law.go:44", after := #[{ on := 4, ground := Go.Ground.data }], guard := none })) (v := ?_) rfl (by kernel_rfl) (by kernel_rfl) (by kernel_rfl) (fun _ _ _ h => h) hC (by rfl) (by rfl) (fun ev hc hf h0 W hW => ?_) ?_; rotate_left; (focus (first | (go_simp; done) | (go_simp; with_reducible rfl))); rotate_left; simp only [Act.put, List.setIfInBounds_toArray, List.set_cons_zero, List.set_cons_succ]
  rw [X.out.2.2.1]
  refine ai_meet (C := Bel w0) 2 #[true, true, true, true, true, true, true, true, false, false] (fun g => { tmps := #[.agg #[.int .u8 s.act, .int .i64 s.b, .int .u8 s.c, .int .u8 s.odd, .slice s.A s.ps.length s.cap], .pointer (some ⟨W.heap.size, 0, none⟩), .string ⟨#[]⟩, .pointer (some ⟨W.heap.size, 2, none⟩), .int .u8 s.c, .string fs, .pointer (some ⟨W.heap.size, 3, none⟩), .int .u8 s.odd, .int .u8 (m : Int), .slice (some ⟨g, 0, none⟩) m m, .string zs, undef], defers := [] }) (fun END => ?_) ?_
  · refine ai_two 2 6 (by kernel_rfl) hC ?_ ?_
    · refine opc1 (o := ({ dst := some 5, op := Go.Op.call { callee := Go.Callee.value (Go.Operand.func 17), args := #[Go.Operand.tmp 4], argTypes := #[5] }, type := 9, pos := "law.go:44", after := #[{ on := 1, ground := Go.Ground.data }], guard := none })) 4 _ _ _ rfl (by rfl) (by rfl) (fun ev hc hf h0 => ?_) (HF.out _) (fun w1 hb1 => ?_)
      · focus (go_simp; done)
      · simp only [Act.put, List.setIfInBounds_toArray, List.set_cons_zero, List.set_cons_succ]
        have hC1 : Bel w0 w1 := hC.step hb1
        refine aiv1 6 (o := ({ dst := some 9, op := Go.Op.makeSlice 61 (Go.Operand.tmp 8) (Go.Operand.tmp 8), type := 61, pos := "law.go:44", after := #[{ on := 5, ground := Go.Ground.data }, { on := 5, ground := Go.Ground.data }], guard := none })) 8 (.slice (some ⟨w1.heap.size, 0, none⟩) m m) (W' := w1.alloc (.cells (byteCells (List.replicate m 0)).toArray 5)) (by kernel_rfl) rfl hC1 (by rfl) (by rfl) (fun ev hc hf h0 => ?_) ?_
        · have hmk := make61u m M255.out w1
          go_simp
        simp only [Act.put, List.setIfInBounds_toArray, List.set_cons_zero, List.set_cons_succ]
        have hC2 := hC1.alloc (.cells (byteCells (List.replicate m 0)).toArray 5)
        have hcv := conv_n (Bk.new w1 (byteCells (List.replicate m (0 : UInt8))).toArray 5) List.length_replicate
        rw [Z.out.2] at hcv
        refine aiv1 7 (o := ({ dst := some 10, op := Go.Op.convert 61 9 (Go.Operand.tmp 9), type := 9, pos := "law.go:44", after := #[{ on := 6, ground := Go.Ground.data }], guard := none })) 9 (.string zs) (W' := w1.alloc (.cells (byteCells (List.replicate m 0)).toArray 5)) (by kernel_rfl) rfl hC2 (by rfl) (by rfl) (fun ev hc hf h0 => ?_) ?_
        · go_simp
        simp only [Act.put, List.setIfInBounds_toArray, List.set_cons_zero, List.set_cons_succ]
        exact END _ _ hC2
    · refine opv1 (o := ({ dst := some 9, op := Go.Op.makeSlice 61 (Go.Operand.tmp 8) (Go.Operand.tmp 8), type := 61, pos := "law.go:44", after := #[{ on := 5, ground := Go.Ground.data }, { on := 5, ground := Go.Ground.data }], guard := none })) 8 (.slice (some ⟨w0.heap.size, 0, none⟩) m m) (W' := w0.drew.alloc (.cells (byteCells (List.replicate m 0)).toArray 5)) rfl (by rfl) (by rfl) (fun ev hc hf h0 => ?_) ?_
      · have hmk := make61u m M255.out w0.drew
        go_simp
      simp only [Act.put, List.setIfInBounds_toArray, List.set_cons_zero, List.set_cons_succ]
      have hC2 := hC.alloc (.cells (byteCells (List.replicate m 0)).toArray 5)
      have hb2 : Bk (w0.drew.alloc (.cells (byteCells (List.replicate m (0 : UInt8))).toArray 5)) w0.heap.size (byteCells (List.replicate m (0 : UInt8))).toArray 5 := Bk.new w0.drew _ _
      generalize w0.drew.alloc (.cells (byteCells (List.replicate m (0 : UInt8))).toArray 5) = w2 at hC2 hb2 ⊢
      refine ai_two 2 7 (by kernel_rfl) hC2 ?_ ?_
      · refine opc1 (o := ({ dst := some 5, op := Go.Op.call { callee := Go.Callee.value (Go.Operand.func 17), args := #[Go.Operand.tmp 4], argTypes := #[5] }, type := 9, pos := "law.go:44", after := #[{ on := 1, ground := Go.Ground.data }], guard := none })) 4 _ _ _ rfl (by rfl) (by rfl) (fun ev hc hf h0 => ?_) (HF.out _) (fun w3 hb3 => ?_)
        · focus (go_simp; done)
        · simp only [Act.put, List.setIfInBounds_toArray, List.set_cons_zero, List.set_cons_succ]
          have hC3 : Bel w0 w3 := hC2.step hb3
          have hcv := conv_n (hb2.bel hb3) List.length_replicate
          rw [Z.out.2] at hcv
          refine aiv1 7 (o := ({ dst := some 10, op := Go.Op.convert 61 9 (Go.Operand.tmp 9), type := 9, pos := "law.go:44", after := #[{ on := 6, ground := Go.Ground.data }], guard := none })) 9 (.string zs) (W' := w3) (by kernel_rfl) rfl hC3 (by rfl) (by rfl) (fun ev hc hf h0 => ?_) ?_
          · go_simp
          simp only [Act.put, List.setIfInBounds_toArray, List.set_cons_zero, List.set_cons_succ]
          exact END _ _ hC3
      · have hcv := conv_n hb2 List.length_replicate
        rw [Z.out.2] at hcv
        refine opv1 (o := ({ dst := some 10, op := Go.Op.convert 61 9 (Go.Operand.tmp 9), type := 9, pos := "law.go:44", after := #[{ on := 6, ground := Go.Ground.data }], guard := none })) 9 (.string zs) (W' := w2) rfl (by rfl) (by rfl) (fun ev hc hf h0 => ?_) ?_
        · go_simp
        simp only [Act.put, List.setIfInBounds_toArray, List.set_cons_zero, List.set_cons_succ]
        refine aic1 2 (o := ({ dst := some 5, op := Go.Op.call { callee := Go.Callee.value (Go.Operand.func 17), args := #[Go.Operand.tmp 4], argTypes := #[5] }, type := 9, pos := "law.go:44", after := #[{ on := 1, ground := Go.Ground.data }], guard := none })) 4 _ _ _ (by kernel_rfl) rfl hC2 (by rfl) (by rfl) (fun ev hc hf h0 => ?_) (HF.out _) (fun w3 hb3 => ?_)
        · focus (go_simp; done)
        · simp only [Act.put, List.setIfInBounds_toArray, List.set_cons_zero, List.set_cons_succ]
          exact END _ _ (hC2.step hb3)
  intro g w5 hw5
  have hcat : fs ++ zs = str := by
    rw [← X.out.2.2.2.2, ← Z.out.2, app_bytes, ← X.out.2.1]
    unfold dataB
    have := X.out.1.2.2.2.2.2.2.1
    rw [show (s.odd % 3).toNat = m by have h := X.out.2.2.1; rw [Int.tmod_eq_emod_of_nonneg this] at h; omega]
  have z1 : fs.size = 256 := by rw [← X.out.2.2.2.2]; show (oneByte s.c).toArray.size = 256; rw [List.size_toArray]; exact oneByte_len _
  have z2 : zs.size ≤ 2 := by rw [← Z.out.2]; show (List.replicate m (0 : UInt8)).toArray.size ≤ 2; rw [List.size_toArray, List.length_replicate]; exact X.out.2.2.2.1
  have H5 := Lib.hid (show Below W.heap.size W w5 from Z.out.1.trans (Below.mono hw5 Z.out.1.size))
  refine aiv2 8 (o := ({ dst := some 11, op := Go.Op.binOp Go.BinOp.add 9 (Go.Operand.tmp 5) (Go.Operand.tmp 10) 9, type := 9, pos := "law.go:44", after := #[{ on := 2, ground := Go.Ground.data }, { on := 7, ground := Go.Ground.data }], guard := none })) 5 10 (.string str) (W' := w5) (by kernel_rfl) rfl hw5 (by rfl) (by rfl) (by rfl) (fun ev hc hf h0 h1 => ?_) ?_
  · go_simp
    omega
  simp only [Act.put, List.setIfInBounds_toArray, List.set_cons_zero, List.set_cons_succ]
  refine aiv1 9 (o := ({ dst := some 2, op := Go.Op.assign (Go.Operand.tmp 11), type := 9, pos := "law.go:44", after := #[{ on := 8, ground := Go.Ground.data }, { on := 2, ground := Go.Ground.chain }, { on := 0, ground := Go.Ground.phase }, { on := 1, ground := Go.Ground.phase }, { on := 2, ground := Go.Ground.phase }, { on := 3, ground := Go.Ground.phase }, { on := 4, ground := Go.Ground.phase }, { on := 5, ground := Go.Ground.phase }, { on := 6, ground := Go.Ground.phase }, { on := 7, ground := Go.Ground.phase }, { on := 8, ground := Go.Ground.phase }], guard := none })) 11 (.string str) (W' := w5) (by kernel_rfl) rfl hw5 (by rfl) (by rfl) (fun ev hc hf h0 => ?_) ?_
  · go_simp
  simp only [Act.put, List.setIfInBounds_toArray, List.set_cons_zero, List.set_cons_succ]
  refine ai_done (by kernel_rfl) hw5 ?_
  clear z1 z2 hcat hw5
  go_wp2_with fail
  go_ret
  exact ⟨rfl, H5.out⟩

end Go.Proofs.Ytbobbekbliichaa
