import Derived.Test.YtbobbekbliichaaE3
import Derived.Deep.MidRow
import Derived.Lib.BufferWrite
namespace Go.Proofs.Ytbobbekbliichaa
open Go.RowKit
set_option linter.unusedSimpArgs false
set_option linter.unusedVariables false


open Go.Lib (byteCells byteCells_length byteCells_one)
/-- The rest of a plain region, shut: each operation is run against an unseen frame. -/
structure PL (ops : Array Oper) (Q : Exit → Act → World → Prop) (l : List Oper) (a : Act) (W : World) : Prop where
  out : wpList Try.prog ops Q l a W
section
variable {ops : Array Oper} {Q : Exit → Act → World → Prop} {a : Act} {o : Oper} {rest : List Oper} {W : World}
theorem pl_nil (h : Q .normal a W) : PL ops Q [] a W := ⟨h⟩
theorem pl_val (v : Value) {W' : World} (hw : Region.wanted o (yielded ops a.tmps) = true) (hv : (execOp a.eval o).run Try.prog W = .ok (.value v) W') (h : PL ops Q rest (a.put o.dst v) W') : PL ops Q (o :: rest) a W := by
  constructor
  unfold wpList
  rw [if_pos hw]
  refine .inl ?_
  unfold Oper.wp
  rw [hv, Oper.upon_value]
  exact h.out
theorem pl_skip {W' : World} (hw : Region.wanted o (yielded ops a.tmps) = true) (hv : (execOp a.eval o).run Try.prog W = .ok .skip W') (h : PL ops Q rest (a.put o.dst undef) W') : PL ops Q (o :: rest) a W := by
  constructor
  unfold wpList
  rw [if_pos hw]
  refine .inl ?_
  unfold Oper.wp
  rw [hv, Oper.upon_skip]
  exact h.out
/-- A plain region's rest, from the operation on that writes slot N. -/
theorem wpList_pl (N : Nat) (hN : o.dst = some N) (h : PL ops Q (o :: rest) a W) : wpList Try.prog ops Q (o :: rest) a W := h.out

theorem plv0 (v : Value) {W' : World} (hw : Region.wanted o (yielded ops a.tmps) = true)  (hv : ∀ ev : Operand → Value, (∀ v, ev (.const v) = v) → (∀ f, ev (.func f) = .func (.func f) #[] #[]) → (execOp ev o).run Try.prog W = .ok (.value v) W') (h : PL ops Q rest (a.put o.dst v) W') : PL ops Q (o :: rest) a W :=
  pl_val v hw (hv a.eval (fun _ => rfl) (fun _ => rfl) ) h
theorem pls0 {W' : World} (hw : Region.wanted o (yielded ops a.tmps) = true)  (hv : ∀ ev : Operand → Value, (∀ v, ev (.const v) = v) → (∀ f, ev (.func f) = .func (.func f) #[] #[]) → (execOp ev o).run Try.prog W = .ok .skip W') (h : PL ops Q rest (a.put o.dst undef) W') : PL ops Q (o :: rest) a W :=
  pl_skip hw (hv a.eval (fun _ => rfl) (fun _ => rfl) ) h

theorem plv1 (n0 : Nat) {x0 : Value} (v : Value) {W' : World} (hw : Region.wanted o (yielded ops a.tmps) = true) (h0 : a.tmps.toList[n0]? = some x0) (hv : ∀ ev : Operand → Value, (∀ v, ev (.const v) = v) → (∀ f, ev (.func f) = .func (.func f) #[] #[]) → ev (.tmp n0) = x0 → (execOp ev o).run Try.prog W = .ok (.value v) W') (h : PL ops Q rest (a.put o.dst v) W') : PL ops Q (o :: rest) a W :=
  pl_val v hw (hv a.eval (fun _ => rfl) (fun _ => rfl) (slot_eval h0)) h
theorem pls1 (n0 : Nat) {x0 : Value} {W' : World} (hw : Region.wanted o (yielded ops a.tmps) = true) (h0 : a.tmps.toList[n0]? = some x0) (hv : ∀ ev : Operand → Value, (∀ v, ev (.const v) = v) → (∀ f, ev (.func f) = .func (.func f) #[] #[]) → ev (.tmp n0) = x0 → (execOp ev o).run Try.prog W = .ok .skip W') (h : PL ops Q rest (a.put o.dst undef) W') : PL ops Q (o :: rest) a W :=
  pl_skip hw (hv a.eval (fun _ => rfl) (fun _ => rfl) (slot_eval h0)) h

theorem plv2 (n0 n1 : Nat) {x0 x1 : Value} (v : Value) {W' : World} (hw : Region.wanted o (yielded ops a.tmps) = true) (h0 : a.tmps.toList[n0]? = some x0) (h1 : a.tmps.toList[n1]? = some x1) (hv : ∀ ev : Operand → Value, (∀ v, ev (.const v) = v) → (∀ f, ev (.func f) = .func (.func f) #[] #[]) → ev (.tmp n0) = x0 → ev (.tmp n1) = x1 → (execOp ev o).run Try.prog W = .ok (.value v) W') (h : PL ops Q rest (a.put o.dst v) W') : PL ops Q (o :: rest) a W :=
  pl_val v hw (hv a.eval (fun _ => rfl) (fun _ => rfl) (slot_eval h0) (slot_eval h1)) h
theorem pls2 (n0 n1 : Nat) {x0 x1 : Value} {W' : World} (hw : Region.wanted o (yielded ops a.tmps) = true) (h0 : a.tmps.toList[n0]? = some x0) (h1 : a.tmps.toList[n1]? = some x1) (hv : ∀ ev : Operand → Value, (∀ v, ev (.const v) = v) → (∀ f, ev (.func f) = .func (.func f) #[] #[]) → ev (.tmp n0) = x0 → ev (.tmp n1) = x1 → (execOp ev o).run Try.prog W = .ok .skip W') (h : PL ops Q rest (a.put o.dst undef) W') : PL ops Q (o :: rest) a W :=
  pl_skip hw (hv a.eval (fun _ => rfl) (fun _ => rfl) (slot_eval h0) (slot_eval h1)) h

theorem plv3 (n0 n1 n2 : Nat) {x0 x1 x2 : Value} (v : Value) {W' : World} (hw : Region.wanted o (yielded ops a.tmps) = true) (h0 : a.tmps.toList[n0]? = some x0) (h1 : a.tmps.toList[n1]? = some x1) (h2 : a.tmps.toList[n2]? = some x2) (hv : ∀ ev : Operand → Value, (∀ v, ev (.const v) = v) → (∀ f, ev (.func f) = .func (.func f) #[] #[]) → ev (.tmp n0) = x0 → ev (.tmp n1) = x1 → ev (.tmp n2) = x2 → (execOp ev o).run Try.prog W = .ok (.value v) W') (h : PL ops Q rest (a.put o.dst v) W') : PL ops Q (o :: rest) a W :=
  pl_val v hw (hv a.eval (fun _ => rfl) (fun _ => rfl) (slot_eval h0) (slot_eval h1) (slot_eval h2)) h
theorem pls3 (n0 n1 n2 : Nat) {x0 x1 x2 : Value} {W' : World} (hw : Region.wanted o (yielded ops a.tmps) = true) (h0 : a.tmps.toList[n0]? = some x0) (h1 : a.tmps.toList[n1]? = some x1) (h2 : a.tmps.toList[n2]? = some x2) (hv : ∀ ev : Operand → Value, (∀ v, ev (.const v) = v) → (∀ f, ev (.func f) = .func (.func f) #[] #[]) → ev (.tmp n0) = x0 → ev (.tmp n1) = x1 → ev (.tmp n2) = x2 → (execOp ev o).run Try.prog W = .ok .skip W') (h : PL ops Q rest (a.put o.dst undef) W') : PL ops Q (o :: rest) a W :=
  pl_skip hw (hv a.eval (fun _ => rfl) (fun _ => rfl) (slot_eval h0) (slot_eval h1) (slot_eval h2)) h

end
theorem info71 : (Try.prog.info? 71).map (fun i => (i.zero, i.size, i.bytes)) = some (some (.agg (#[.int .i64 0] ++ Array.replicate 256 (.int .u8 0))), 257, 264) := by kernel_rfl
/-- A loose write's cells. -/
def wzero : Array Value := #[.int .i64 0] ++ Array.replicate 256 (.int .u8 0)
def wstart (b : Int) : Array Value := #[.int .i64 b] ++ Array.replicate 256 (.int .u8 0)
def bzero : Array Value := Array.replicate 256 (.int .u8 0)
theorem wzero_size : wzero.size = 257 := by unfold wzero; rw [Array.size_append, Array.size_replicate]; rfl
theorem wstart_size (b : Int) : (wstart b).size = 257 := by unfold wstart; rw [Array.size_append, Array.size_replicate]; rfl
theorem bzero_size : bzero.size = 256 := Array.size_replicate
section
variable {ev : Operand → Value} {o : Oper} {W : World}
theorem ex_build71 (x : Operand) (b : Int) (ho : o.op = .build 71 #[(0, x)]) (hx : ev x = .int .i64 b) : (execOp ev o).run Try.prog W = .ok (.value (.agg (wstart b))) W := by
  have h : (Instr.build 71 #[(0, .int .i64 b)]).run Try.prog W = .ok (.agg (wstart b)) W := by kernel_rfl
  unfold execOp
  simp only [ho, List.map_toArray, List.map_cons, List.map_nil, hx, Sem.run_bind, h, Result.andThen_ok, Sem.run_pure]
theorem ex_alloc71 (ho : o.op = .alloc 71) : (execOp ev o).run Try.prog W = .ok (.value (.pointer (some ⟨W.heap.size, 0, none⟩))) (W.alloc (.cells wzero 71)) := by
  have h : (Instr.alloc 71 true undef).run Try.prog W = .ok (.pointer (some ⟨W.heap.size, 0, none⟩)) (W.alloc (.cells wzero 71)) := by kernel_rfl
  have hz : (zeroValue 71).run Try.prog W = .ok (.agg wzero) W := by kernel_rfl
  unfold execOp
  simp only [ho]
  first
    | (simp only [Sem.run_bind, h, Result.andThen_ok, Sem.run_pure]; done)
    | (simp [go_sem, hz, Instr.alloc, newVar, newRow, Value.cells]; done)
theorem ex_alloc69 (ho : o.op = .alloc 69) : (execOp ev o).run Try.prog W = .ok (.value (.pointer (some ⟨W.heap.size, 0, none⟩))) (W.alloc (.cells bzero 69)) := by
  have hz : (zeroValue 69).run Try.prog W = .ok (.agg bzero) W := by kernel_rfl
  unfold execOp
  simp only [ho]
  first
    | (simp [go_sem, hz, Instr.alloc, newVar, newRow, Value.cells]; done)
theorem ex_load (ty : TypeId) (x : Operand) (d : TypeDesc) (b p : Nat) (cs : List Value) (ho : o.op = .load ty x) (hx : ev x = .pointer (some ⟨b, p, none⟩)) (hc : W.rangeAt b p cs)
    (hu : Try.prog.underlying ty = some d) (hd : d.isRow = true) (hi : (Try.prog.info? ty).map (·.size) = some cs.length) : (execOp ev o).run Try.prog W = .ok (.value (.agg cs.toArray)) W := by
  unfold execOp
  simp only [ho, hx, Instr.loadAt, Instr.sureAddr, Sem.run_bind, Sem.run_pure, Result.andThen_ok, run_loadVar_mid W b p ty cs d hc hu hd hi]
theorem ex_store (ty : TypeId) (x y : Operand) (b p : Nat) (cells : Array Value) (ho : o.op = .store ty x y) (hx : ev x = .pointer (some ⟨b, p, none⟩)) (hy : ev y = .agg cells)
    (ht : W.there b p cells.size) (hi : (Try.prog.info? ty).map (·.size) = some cells.size) (h1 : cells.all (·.oneCell') = true) : (execOp ev o).run Try.prog W = .ok .skip (W.setCells b p cells.toList) := by
  unfold execOp
  simp only [ho, hx, hy, Instr.storeAt, Instr.sureAddr, Sem.run_bind, Sem.run_pure, Result.andThen_ok, run_storeVar_mid W b p ty cells ht hi h1]
end

end Go.Proofs.Ytbobbekbliichaa
