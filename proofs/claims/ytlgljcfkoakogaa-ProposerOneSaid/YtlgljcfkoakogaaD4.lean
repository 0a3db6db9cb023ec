import Derived.Test.YtlgljcfkoakogaaD3
namespace Go.Proofs.Ytlgljcfkoakogaa
open Go.RowKit
set_option linter.unusedSimpArgs false
set_option linter.unusedVariables false


section
variable {ops : Array Oper} {Q' : Exit → Act → World → Prop} {a : Act} {o : Oper} {i : Nat} {w W : World} {listed : Array Bool} {fuel : Nat} {rs : List Nat}
theorem ar_callx (f : FuncId) (args : Array Value) {R : Value → World → Prop} (ho : ops[i]? = some o) (hw : Region.wanted o (yielded ops a.tmps) = true) (hv : (execOp a.eval o).run Try.prog W = .ok (.enter f args) W)
    (hc : Calls Try.prog f args W fun e W' => ∃ v, e = .returned v ∧ R v W')
    (h : ∀ v W', R v W' → AW Try.prog ops Q' fuel (listed.setIfInBounds i true) (a.put o.dst v) W') (hs : AR ops Q' fuel listed a W rs) : AR ops Q' fuel listed a W (i :: rs) :=
  ar_cons (by
    unfold wpOp
    rw [ho]
    simp only [hw, if_true]
    refine .inl ?_
    unfold Oper.wp
    rw [hv, Oper.upon_enter]
    exact hc.mono fun e w'' ⟨v, h1, h2⟩ => by subst h1; exact (h _ _ h2).out) hs
theorem arcx1 (n0 : Nat) {x0 : Value} (f : FuncId) (args : Array Value) {R : Value → World → Prop} (ho : ops[i]? = some o) (hw : Region.wanted o (yielded ops a.tmps) = true) (h0 : a.tmps.toList[n0]? = some x0)
    (hv : ∀ ev : Operand → Value, (∀ v, ev (.const v) = v) → (∀ f, ev (.func f) = .func (.func f) #[] #[]) → ev (.tmp n0) = x0 → (execOp ev o).run Try.prog W = .ok (.enter f args) W)
    (hc : Calls Try.prog f args W fun e W' => ∃ v, e = .returned v ∧ R v W')
    (h : ∀ v W', R v W' → AW Try.prog ops Q' fuel (listed.setIfInBounds i true) (a.put o.dst v) W') (hs : AR ops Q' fuel listed a W rs) : AR ops Q' fuel listed a W (i :: rs) :=
  ar_callx f args ho hw (hv a.eval (fun _ => rfl) (fun _ => rfl) (slot_eval h0)) hc h hs
theorem arcx2 (n0 n1 : Nat) {x0 x1 : Value} (f : FuncId) (args : Array Value) {R : Value → World → Prop} (ho : ops[i]? = some o) (hw : Region.wanted o (yielded ops a.tmps) = true) (h0 : a.tmps.toList[n0]? = some x0) (h1 : a.tmps.toList[n1]? = some x1)
    (hv : ∀ ev : Operand → Value, (∀ v, ev (.const v) = v) → (∀ f, ev (.func f) = .func (.func f) #[] #[]) → ev (.tmp n0) = x0 → ev (.tmp n1) = x1 → (execOp ev o).run Try.prog W = .ok (.enter f args) W)
    (hc : Calls Try.prog f args W fun e W' => ∃ v, e = .returned v ∧ R v W')
    (h : ∀ v W', R v W' → AW Try.prog ops Q' fuel (listed.setIfInBounds i true) (a.put o.dst v) W') (hs : AR ops Q' fuel listed a W rs) : AR ops Q' fuel listed a W (i :: rs) :=
  ar_callx f args ho hw (hv a.eval (fun _ => rfl) (fun _ => rfl) (slot_eval h0) (slot_eval h1)) hc h hs
theorem arcx3 (n0 n1 n2 : Nat) {x0 x1 x2 : Value} (f : FuncId) (args : Array Value) {R : Value → World → Prop} (ho : ops[i]? = some o) (hw : Region.wanted o (yielded ops a.tmps) = true) (h0 : a.tmps.toList[n0]? = some x0) (h1 : a.tmps.toList[n1]? = some x1) (h2 : a.tmps.toList[n2]? = some x2)
    (hv : ∀ ev : Operand → Value, (∀ v, ev (.const v) = v) → (∀ f, ev (.func f) = .func (.func f) #[] #[]) → ev (.tmp n0) = x0 → ev (.tmp n1) = x1 → ev (.tmp n2) = x2 → (execOp ev o).run Try.prog W = .ok (.enter f args) W)
    (hc : Calls Try.prog f args W fun e W' => ∃ v, e = .returned v ∧ R v W')
    (h : ∀ v W', R v W' → AW Try.prog ops Q' fuel (listed.setIfInBounds i true) (a.put o.dst v) W') (hs : AR ops Q' fuel listed a W rs) : AR ops Q' fuel listed a W (i :: rs) :=
  ar_callx f args ho hw (hv a.eval (fun _ => rfl) (fun _ => rfl) (slot_eval h0) (slot_eval h1) (slot_eval h2)) hc h hs
end

end Go.Proofs.Ytlgljcfkoakogaa
