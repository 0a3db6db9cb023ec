import Derived.Test.YtlgljcfkoakogaaA12
import Derived.Test.YtlgljcfkoakogaaD1
import Derived.Test.YtlgljcfkoakogaaB1
namespace Go.Proofs.Ytlgljcfkoakogaa
open Go.RowKit
set_option linter.unusedSimpArgs false
set_option linter.unusedVariables false


section
variable {ops : Array Oper} {Q : Act → (World → Prop) → Prop} {Q' : Exit → Act → World → Prop} {a : Act} {o : Oper} {k : Nat} {ks : List Nat} {w W : World} {listed : Array Bool} {fuel : Nat}
theorem Bel.alloc {w W : World} (h : Bel w W) (o : Obj) : Bel w (W.alloc o) := Below.alloc h (h.size) o
theorem Bel.keeps {w W W' : World} (h : Bel w W) (hb : Below W.heap.size W W') : KeepsNew w.heap.size W W' := ⟨hb.size, fun b _ hb' => hb.block b hb'⟩
theorem lw_nil (h : Q a (Bel w)) : LW Try.prog ops w.heap.size Q [] a (Bel w) := ⟨h⟩
theorem lw_val (v : Value) (ho : ops[k]? = some o) (hw : Region.wanted o (yielded ops a.tmps) = true) (hv : ∀ W, Bel w W → (execOp a.eval o).run Try.prog W = .ok (.value v) W)
    (h : LW Try.prog ops w.heap.size Q ks (a.put o.dst v) (Bel w)) : LW Try.prog ops w.heap.size Q (k :: ks) a (Bel w) :=
  ⟨⟨o, v, Bel w, ho, hw, fun _ o h => h.alloc o, fun W hW => .inl ⟨W, hv W hW, hW, hW.keeps (Below.refl _ _)⟩, h.out⟩⟩
theorem lw_call (f : FuncId) (args : Array Value) (v : Value) (ho : ops[k]? = some o) (hw : Region.wanted o (yielded ops a.tmps) = true) (hv : ∀ W, Bel w W → (execOp a.eval o).run Try.prog W = .ok (.enter f args) W)
    (hc : ∀ W, Bel w W → Calls Try.prog f args W fun e W' => e = .returned v ∧ Below W.heap.size W W')
    (h : LW Try.prog ops w.heap.size Q ks (a.put o.dst v) (Bel w)) : LW Try.prog ops w.heap.size Q (k :: ks) a (Bel w) :=
  ⟨⟨o, v, Bel w, ho, hw, fun _ o h => h.alloc o, fun W hW => .inr ⟨f, args, hv W hW, (hc W hW).mono fun e W' ⟨h1, h2⟩ => ⟨h1, hW.step h2, hW.keeps h2⟩⟩, h.out⟩⟩
theorem aw_val (i : Nat) (v : Value) {W' : World} (hr : Region.ready .any ops listed = [i]) (ho : ops[i]? = some o) (hw : Region.wanted o (yielded ops a.tmps) = true)
    (hv : (execOp a.eval o).run Try.prog W = .ok (.value v) W') (h : AW Try.prog ops Q' fuel (listed.setIfInBounds i true) (a.put o.dst v) W') : AW Try.prog ops Q' (fuel + 1) listed a W := by
  refine ⟨wpAny_all (rs := [i]) hr (by simp) fun j hj => ?_⟩
  obtain rfl : j = i := by simpa using hj
  unfold wpOp
  rw [ho]
  simp only [hw, if_true]
  refine .inl ?_
  unfold Oper.wp
  rw [hv, Oper.upon_value]
  exact h.out
theorem aw_done (hr : Region.ready .any ops listed = []) (h : Q' .normal a W) : AW Try.prog ops Q' fuel listed a W := ⟨wpAny_done hr h _⟩

theorem lwv0 (v : Value) (ho : ops[k]? = some o) (hw : Region.wanted o (yielded ops a.tmps) = true) 
    (hv : ∀ ev : Operand → Value, (∀ v, ev (.const v) = v) → (∀ f, ev (.func f) = .func (.func f) #[] #[]) → ∀ W, Bel w W → (execOp ev o).run Try.prog W = .ok (.value v) W)
    (h : LW Try.prog ops w.heap.size Q ks (a.put o.dst v) (Bel w)) : LW Try.prog ops w.heap.size Q (k :: ks) a (Bel w) :=
  lw_val v ho hw (fun W hW => hv a.eval (fun _ => rfl) (fun _ => rfl)  W hW) h
theorem lwc0 (f : FuncId) (args : Array Value) (v : Value) (ho : ops[k]? = some o) (hw : Region.wanted o (yielded ops a.tmps) = true) 
    (hv : ∀ ev : Operand → Value, (∀ v, ev (.const v) = v) → (∀ f, ev (.func f) = .func (.func f) #[] #[]) → ∀ W, Bel w W → (execOp ev o).run Try.prog W = .ok (.enter f args) W)
    (hc : ∀ W, Bel w W → Calls Try.prog f args W fun e W' => e = .returned v ∧ Below W.heap.size W W')
    (h : LW Try.prog ops w.heap.size Q ks (a.put o.dst v) (Bel w)) : LW Try.prog ops w.heap.size Q (k :: ks) a (Bel w) :=
  lw_call f args v ho hw (fun W hW => hv a.eval (fun _ => rfl) (fun _ => rfl)  W hW) hc h
theorem awv0 (i : Nat) (v : Value) {W' : World} (hr : Region.ready .any ops listed = [i]) (ho : ops[i]? = some o) (hw : Region.wanted o (yielded ops a.tmps) = true) 
    (hv : ∀ ev : Operand → Value, (∀ v, ev (.const v) = v) → (∀ f, ev (.func f) = .func (.func f) #[] #[]) → (execOp ev o).run Try.prog W = .ok (.value v) W')
    (h : AW Try.prog ops Q' fuel (listed.setIfInBounds i true) (a.put o.dst v) W') : AW Try.prog ops Q' (fuel + 1) listed a W :=
  aw_val i v hr ho hw (hv a.eval (fun _ => rfl) (fun _ => rfl) ) h

theorem lwv1 (n0 : Nat) {x0 : Value} (v : Value) (ho : ops[k]? = some o) (hw : Region.wanted o (yielded ops a.tmps) = true) (h0 : a.tmps.toList[n0]? = some x0)
    (hv : ∀ ev : Operand → Value, (∀ v, ev (.const v) = v) → (∀ f, ev (.func f) = .func (.func f) #[] #[]) → ev (.tmp n0) = x0 → ∀ W, Bel w W → (execOp ev o).run Try.prog W = .ok (.value v) W)
    (h : LW Try.prog ops w.heap.size Q ks (a.put o.dst v) (Bel w)) : LW Try.prog ops w.heap.size Q (k :: ks) a (Bel w) :=
  lw_val v ho hw (fun W hW => hv a.eval (fun _ => rfl) (fun _ => rfl) (slot_eval h0) W hW) h
theorem lwc1 (n0 : Nat) {x0 : Value} (f : FuncId) (args : Array Value) (v : Value) (ho : ops[k]? = some o) (hw : Region.wanted o (yielded ops a.tmps) = true) (h0 : a.tmps.toList[n0]? = some x0)
    (hv : ∀ ev : Operand → Value, (∀ v, ev (.const v) = v) → (∀ f, ev (.func f) = .func (.func f) #[] #[]) → ev (.tmp n0) = x0 → ∀ W, Bel w W → (execOp ev o).run Try.prog W = .ok (.enter f args) W)
    (hc : ∀ W, Bel w W → Calls Try.prog f args W fun e W' => e = .returned v ∧ Below W.heap.size W W')
    (h : LW Try.prog ops w.heap.size Q ks (a.put o.dst v) (Bel w)) : LW Try.prog ops w.heap.size Q (k :: ks) a (Bel w) :=
  lw_call f args v ho hw (fun W hW => hv a.eval (fun _ => rfl) (fun _ => rfl) (slot_eval h0) W hW) hc h
theorem awv1 (n0 : Nat) {x0 : Value} (i : Nat) (v : Value) {W' : World} (hr : Region.ready .any ops listed = [i]) (ho : ops[i]? = some o) (hw : Region.wanted o (yielded ops a.tmps) = true) (h0 : a.tmps.toList[n0]? = some x0)
    (hv : ∀ ev : Operand → Value, (∀ v, ev (.const v) = v) → (∀ f, ev (.func f) = .func (.func f) #[] #[]) → ev (.tmp n0) = x0 → (execOp ev o).run Try.prog W = .ok (.value v) W')
    (h : AW Try.prog ops Q' fuel (listed.setIfInBounds i true) (a.put o.dst v) W') : AW Try.prog ops Q' (fuel + 1) listed a W :=
  aw_val i v hr ho hw (hv a.eval (fun _ => rfl) (fun _ => rfl) (slot_eval h0)) h

theorem lwv2 (n0 n1 : Nat) {x0 x1 : Value} (v : Value) (ho : ops[k]? = some o) (hw : Region.wanted o (yielded ops a.tmps) = true) (h0 : a.tmps.toList[n0]? = some x0) (h1 : a.tmps.toList[n1]? = some x1)
    (hv : ∀ ev : Operand → Value, (∀ v, ev (.const v) = v) → (∀ f, ev (.func f) = .func (.func f) #[] #[]) → ev (.tmp n0) = x0 → ev (.tmp n1) = x1 → ∀ W, Bel w W → (execOp ev o).run Try.prog W = .ok (.value v) W)
    (h : LW Try.prog ops w.heap.size Q ks (a.put o.dst v) (Bel w)) : LW Try.prog ops w.heap.size Q (k :: ks) a (Bel w) :=
  lw_val v ho hw (fun W hW => hv a.eval (fun _ => rfl) (fun _ => rfl) (slot_eval h0) (slot_eval h1) W hW) h
theorem lwc2 (n0 n1 : Nat) {x0 x1 : Value} (f : FuncId) (args : Array Value) (v : Value) (ho : ops[k]? = some o) (hw : Region.wanted o (yielded ops a.tmps) = true) (h0 : a.tmps.toList[n0]? = some x0) (h1 : a.tmps.toList[n1]? = some x1)
    (hv : ∀ ev : Operand → Value, (∀ v, ev (.const v) = v) → (∀ f, ev (.func f) = .func (.func f) #[] #[]) → ev (.tmp n0) = x0 → ev (.tmp n1) = x1 → ∀ W, Bel w W → (execOp ev o).run Try.prog W = .ok (.enter f args) W)
    (hc : ∀ W, Bel w W → Calls Try.prog f args W fun e W' => e = .returned v ∧ Below W.heap.size W W')
    (h : LW Try.prog ops w.heap.size Q ks (a.put o.dst v) (Bel w)) : LW Try.prog ops w.heap.size Q (k :: ks) a (Bel w) :=
  lw_call f args v ho hw (fun W hW => hv a.eval (fun _ => rfl) (fun _ => rfl) (slot_eval h0) (slot_eval h1) W hW) hc h
theorem awv2 (n0 n1 : Nat) {x0 x1 : Value} (i : Nat) (v : Value) {W' : World} (hr : Region.ready .any ops listed = [i]) (ho : ops[i]? = some o) (hw : Region.wanted o (yielded ops a.tmps) = true) (h0 : a.tmps.toList[n0]? = some x0) (h1 : a.tmps.toList[n1]? = some x1)
    (hv : ∀ ev : Operand → Value, (∀ v, ev (.const v) = v) → (∀ f, ev (.func f) = .func (.func f) #[] #[]) → ev (.tmp n0) = x0 → ev (.tmp n1) = x1 → (execOp ev o).run Try.prog W = .ok (.value v) W')
    (h : AW Try.prog ops Q' fuel (listed.setIfInBounds i true) (a.put o.dst v) W') : AW Try.prog ops Q' (fuel + 1) listed a W :=
  aw_val i v hr ho hw (hv a.eval (fun _ => rfl) (fun _ => rfl) (slot_eval h0) (slot_eval h1)) h

theorem lwv3 (n0 n1 n2 : Nat) {x0 x1 x2 : Value} (v : Value) (ho : ops[k]? = some o) (hw : Region.wanted o (yielded ops a.tmps) = true) (h0 : a.tmps.toList[n0]? = some x0) (h1 : a.tmps.toList[n1]? = some x1) (h2 : a.tmps.toList[n2]? = some x2)
    (hv : ∀ ev : Operand → Value, (∀ v, ev (.const v) = v) → (∀ f, ev (.func f) = .func (.func f) #[] #[]) → ev (.tmp n0) = x0 → ev (.tmp n1) = x1 → ev (.tmp n2) = x2 → ∀ W, Bel w W → (execOp ev o).run Try.prog W = .ok (.value v) W)
    (h : LW Try.prog ops w.heap.size Q ks (a.put o.dst v) (Bel w)) : LW Try.prog ops w.heap.size Q (k :: ks) a (Bel w) :=
  lw_val v ho hw (fun W hW => hv a.eval (fun _ => rfl) (fun _ => rfl) (slot_eval h0) (slot_eval h1) (slot_eval h2) W hW) h
theorem lwc3 (n0 n1 n2 : Nat) {x0 x1 x2 : Value} (f : FuncId) (args : Array Value) (v : Value) (ho : ops[k]? = some o) (hw : Region.wanted o (yielded ops a.tmps) = true) (h0 : a.tmps.toList[n0]? = some x0) (h1 : a.tmps.toList[n1]? = some x1) (h2 : a.tmps.toList[n2]? = some x2)
    (hv : ∀ ev : Operand → Value, (∀ v, ev (.const v) = v) → (∀ f, ev (.func f) = .func (.func f) #[] #[]) → ev (.tmp n0) = x0 → ev (.tmp n1) = x1 → ev (.tmp n2) = x2 → ∀ W, Bel w W → (execOp ev o).run Try.prog W = .ok (.enter f args) W)
    (hc : ∀ W, Bel w W → Calls Try.prog f args W fun e W' => e = .returned v ∧ Below W.heap.size W W')
    (h : LW Try.prog ops w.heap.size Q ks (a.put o.dst v) (Bel w)) : LW Try.prog ops w.heap.size Q (k :: ks) a (Bel w) :=
  lw_call f args v ho hw (fun W hW => hv a.eval (fun _ => rfl) (fun _ => rfl) (slot_eval h0) (slot_eval h1) (slot_eval h2) W hW) hc h
theorem awv3 (n0 n1 n2 : Nat) {x0 x1 x2 : Value} (i : Nat) (v : Value) {W' : World} (hr : Region.ready .any ops listed = [i]) (ho : ops[i]? = some o) (hw : Region.wanted o (yielded ops a.tmps) = true) (h0 : a.tmps.toList[n0]? = some x0) (h1 : a.tmps.toList[n1]? = some x1) (h2 : a.tmps.toList[n2]? = some x2)
    (hv : ∀ ev : Operand → Value, (∀ v, ev (.const v) = v) → (∀ f, ev (.func f) = .func (.func f) #[] #[]) → ev (.tmp n0) = x0 → ev (.tmp n1) = x1 → ev (.tmp n2) = x2 → (execOp ev o).run Try.prog W = .ok (.value v) W')
    (h : AW Try.prog ops Q' fuel (listed.setIfInBounds i true) (a.put o.dst v) W') : AW Try.prog ops Q' (fuel + 1) listed a W :=
  aw_val i v hr ho hw (hv a.eval (fun _ => rfl) (fun _ => rfl) (slot_eval h0) (slot_eval h1) (slot_eval h2)) h

/-- A region that draws its order: a chain that only makes memory, a free alloc, a tail. -/
theorem wp_free {id : Nat} (j : Nat) (t : Tmp) (ks : List Nat) (m : Nat) {oj : Oper} {obj : Obj} {l : List Oper}
    (hns : Region.noSelect l.toArray = true) (hj : l.toArray[j]? = some oj) (hjd : oj.dst = some t) (hjg : oj.guard = none)
    (hja : ∀ ev : Operand → Value, ∀ W, (execOp ev oj).run Try.prog W = .ok (.value (.pointer (some ⟨W.heap.size, 0, none⟩))) (W.alloc obj))
    (hsz : m + ks.length + 1 = l.toArray.size) (hB : lateB l.toArray j t ks (Array.replicate l.toArray.size false) = true)
    (h : LW Try.prog l.toArray w.heap.size (fun a I => ∀ g, w.heap.size ≤ g → ∀ W, I W → W.heap[g]? = some obj → AW Try.prog l.toArray Q' m (listedEnd ks ((Array.replicate l.toArray.size false).setIfInBounds j true)) (a.put (some t) (.pointer (some ⟨g, 0, none⟩))) W) ks a (Bel w)) :
    (Code.region id l.toArray true).wp Try.prog Q' a w :=
  wp_late j t ks m (Bel w) (by kernel_rfl) hns hj hjd hjg (fun a W => hja a.eval W) (fun _ o h => h.alloc o) ((Bel.refl w).drew) hsz hB (fun a I h => h) h
end

end Go.Proofs.Ytlgljcfkoakogaa
