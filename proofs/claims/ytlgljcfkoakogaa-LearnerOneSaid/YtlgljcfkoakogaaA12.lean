import Derived.Test.YtlgljcfkoakogaaA9
namespace Go.Proofs.Ytlgljcfkoakogaa
open Go.RowKit
set_option linter.unusedSimpArgs false
set_option linter.unusedVariables false


/-- The quiet walk, shut: no unifier opens it (a guard that is left out made it run through the whole frame). -/
structure QW (ops : Array Oper) (C : World → Prop) (Q : Act → Prop) (l : List Oper) (a : Act) : Prop where
  out : wpQuiet Try.prog ops C Q l a
theorem slot_eval {a : Act} {n : Nat} {x : Value} (h : a.tmps.toList[n]? = some x) : a.eval (.tmp n) = x := by
  show a.tmps.getD n undef = x
  rw [Array.getD_eq_getD_getElem?, ← Array.getElem?_toList, h]
  rfl
section
variable {ops : Array Oper} {C : World → Prop} {Q : Act → Prop} {a : Act} {o : Oper} {rest : List Oper}
theorem qnil (h : Q a) : QW ops C Q [] a := ⟨wpQuiet_nil h⟩
theorem qskip (hw : Region.wanted o (yielded ops a.tmps) = false) (h : QW ops C Q rest (a.put o.dst undef)) : QW ops C Q (o :: rest) a := ⟨q_skip hw h.out⟩
theorem qv0 (v : Value) (hw : Region.wanted o (yielded ops a.tmps) = true) 
    (hv : ∀ ev : Operand → Value, (∀ v, ev (.const v) = v) → (∀ f, ev (.func f) = .func (.func f) #[] #[]) → ∀ W, C W → (execOp ev o).run Try.prog W = .ok (.value v) W)
    (h : QW ops C Q rest (a.put o.dst v)) : QW ops C Q (o :: rest) a := ⟨q_val v hw (fun W hW => hv a.eval (fun _ => rfl) (fun _ => rfl)  W hW) h.out⟩
theorem qc0 (f : FuncId) (args : Array Value) (v : Value) (hw : Region.wanted o (yielded ops a.tmps) = true) 
    (hv : ∀ ev : Operand → Value, (∀ v, ev (.const v) = v) → (∀ f, ev (.func f) = .func (.func f) #[] #[]) → ∀ W, C W → (execOp ev o).run Try.prog W = .ok (.enter f args) W)
    (hc : ∀ W, C W → Calls Try.prog f args W fun e W' => e = .returned v ∧ C W')
    (h : QW ops C Q rest (a.put o.dst v)) : QW ops C Q (o :: rest) a := ⟨q_call f args v hw (fun W hW => hv a.eval (fun _ => rfl) (fun _ => rfl)  W hW) hc h.out⟩
theorem qv1 (n0 : Nat) {x0 : Value} (v : Value) (hw : Region.wanted o (yielded ops a.tmps) = true) (h0 : a.tmps.toList[n0]? = some x0)
    (hv : ∀ ev : Operand → Value, (∀ v, ev (.const v) = v) → (∀ f, ev (.func f) = .func (.func f) #[] #[]) → ev (.tmp n0) = x0 → ∀ W, C W → (execOp ev o).run Try.prog W = .ok (.value v) W)
    (h : QW ops C Q rest (a.put o.dst v)) : QW ops C Q (o :: rest) a := ⟨q_val v hw (fun W hW => hv a.eval (fun _ => rfl) (fun _ => rfl) (slot_eval h0) W hW) h.out⟩
theorem qc1 (n0 : Nat) {x0 : Value} (f : FuncId) (args : Array Value) (v : Value) (hw : Region.wanted o (yielded ops a.tmps) = true) (h0 : a.tmps.toList[n0]? = some x0)
    (hv : ∀ ev : Operand → Value, (∀ v, ev (.const v) = v) → (∀ f, ev (.func f) = .func (.func f) #[] #[]) → ev (.tmp n0) = x0 → ∀ W, C W → (execOp ev o).run Try.prog W = .ok (.enter f args) W)
    (hc : ∀ W, C W → Calls Try.prog f args W fun e W' => e = .returned v ∧ C W')
    (h : QW ops C Q rest (a.put o.dst v)) : QW ops C Q (o :: rest) a := ⟨q_call f args v hw (fun W hW => hv a.eval (fun _ => rfl) (fun _ => rfl) (slot_eval h0) W hW) hc h.out⟩
theorem qv2 (n0 n1 : Nat) {x0 x1 : Value} (v : Value) (hw : Region.wanted o (yielded ops a.tmps) = true) (h0 : a.tmps.toList[n0]? = some x0) (h1 : a.tmps.toList[n1]? = some x1)
    (hv : ∀ ev : Operand → Value, (∀ v, ev (.const v) = v) → (∀ f, ev (.func f) = .func (.func f) #[] #[]) → ev (.tmp n0) = x0 → ev (.tmp n1) = x1 → ∀ W, C W → (execOp ev o).run Try.prog W = .ok (.value v) W)
    (h : QW ops C Q rest (a.put o.dst v)) : QW ops C Q (o :: rest) a := ⟨q_val v hw (fun W hW => hv a.eval (fun _ => rfl) (fun _ => rfl) (slot_eval h0) (slot_eval h1) W hW) h.out⟩
theorem qc2 (n0 n1 : Nat) {x0 x1 : Value} (f : FuncId) (args : Array Value) (v : Value) (hw : Region.wanted o (yielded ops a.tmps) = true) (h0 : a.tmps.toList[n0]? = some x0) (h1 : a.tmps.toList[n1]? = some x1)
    (hv : ∀ ev : Operand → Value, (∀ v, ev (.const v) = v) → (∀ f, ev (.func f) = .func (.func f) #[] #[]) → ev (.tmp n0) = x0 → ev (.tmp n1) = x1 → ∀ W, C W → (execOp ev o).run Try.prog W = .ok (.enter f args) W)
    (hc : ∀ W, C W → Calls Try.prog f args W fun e W' => e = .returned v ∧ C W')
    (h : QW ops C Q rest (a.put o.dst v)) : QW ops C Q (o :: rest) a := ⟨q_call f args v hw (fun W hW => hv a.eval (fun _ => rfl) (fun _ => rfl) (slot_eval h0) (slot_eval h1) W hW) hc h.out⟩
theorem qv3 (n0 n1 n2 : Nat) {x0 x1 x2 : Value} (v : Value) (hw : Region.wanted o (yielded ops a.tmps) = true) (h0 : a.tmps.toList[n0]? = some x0) (h1 : a.tmps.toList[n1]? = some x1) (h2 : a.tmps.toList[n2]? = some x2)
    (hv : ∀ ev : Operand → Value, (∀ v, ev (.const v) = v) → (∀ f, ev (.func f) = .func (.func f) #[] #[]) → ev (.tmp n0) = x0 → ev (.tmp n1) = x1 → ev (.tmp n2) = x2 → ∀ W, C W → (execOp ev o).run Try.prog W = .ok (.value v) W)
    (h : QW ops C Q rest (a.put o.dst v)) : QW ops C Q (o :: rest) a := ⟨q_val v hw (fun W hW => hv a.eval (fun _ => rfl) (fun _ => rfl) (slot_eval h0) (slot_eval h1) (slot_eval h2) W hW) h.out⟩
theorem qc3 (n0 n1 n2 : Nat) {x0 x1 x2 : Value} (f : FuncId) (args : Array Value) (v : Value) (hw : Region.wanted o (yielded ops a.tmps) = true) (h0 : a.tmps.toList[n0]? = some x0) (h1 : a.tmps.toList[n1]? = some x1) (h2 : a.tmps.toList[n2]? = some x2)
    (hv : ∀ ev : Operand → Value, (∀ v, ev (.const v) = v) → (∀ f, ev (.func f) = .func (.func f) #[] #[]) → ev (.tmp n0) = x0 → ev (.tmp n1) = x1 → ev (.tmp n2) = x2 → ∀ W, C W → (execOp ev o).run Try.prog W = .ok (.enter f args) W)
    (hc : ∀ W, C W → Calls Try.prog f args W fun e W' => e = .returned v ∧ C W')
    (h : QW ops C Q rest (a.put o.dst v)) : QW ops C Q (o :: rest) a := ⟨q_call f args v hw (fun W hW => hv a.eval (fun _ => rfl) (fun _ => rfl) (slot_eval h0) (slot_eval h1) (slot_eval h2) W hW) hc h.out⟩
end
theorem wp_qw {id : Nat} {Q : Exit → Act → World → Prop} {a : Act} {w : World} {l : List Oper} (hB : Region.lexB .any l.toArray = true)
    (h : QW l.toArray (Bel w) (fun a' => ∀ w', Bel w w' → Q .normal a' w') l a) : (Code.region id l.toArray true).wp Try.prog Q a w := wp_bel hB h.out
theorem wpList_qw (N : Nat) {ops : Array Oper} {l : List Oper} {o : Oper} {Q : Exit → Act → World → Prop} {a : Act} {w : World} (hN : o.dst = some N)
    (h : QW ops (Bel w) (fun a' => ∀ w', Bel w w' → Q .normal a' w') (o :: l) a) : wpList Try.prog ops Q (o :: l) a w := wpList_bel N hN h.out

end Go.Proofs.Ytlgljcfkoakogaa
