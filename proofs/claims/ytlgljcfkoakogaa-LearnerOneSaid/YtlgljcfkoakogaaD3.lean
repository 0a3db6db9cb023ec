import Derived.Test.YtlgljcfkoakogaaD2
import Derived.RegionTactic
namespace Go.Proofs.Ytlgljcfkoakogaa
open Go.RowKit
set_option linter.unusedSimpArgs false
set_option linter.unusedVariables false


/-- What is ready, one after another. -/
structure AR (ops : Array Oper) (Q : Exit → Act → World → Prop) (fuel : Nat) (listed : Array Bool) (a : Act) (w : World) (rs : List Nat) : Prop where
  out : ∀ i ∈ rs, wpOp Try.prog ops Q i (wpAny Try.prog .any ops Q fuel (listed.setIfInBounds i true)) a w
section
variable {ops : Array Oper} {Q' : Exit → Act → World → Prop} {a : Act} {o : Oper} {i : Nat} {w W : World} {listed : Array Bool} {fuel : Nat} {rs : List Nat}
theorem ar_nil : AR ops Q' fuel listed a W [] := ⟨fun _ h => by cases h⟩
theorem ar_cons (h : wpOp Try.prog ops Q' i (wpAny Try.prog .any ops Q' fuel (listed.setIfInBounds i true)) a W) (hs : AR ops Q' fuel listed a W rs) : AR ops Q' fuel listed a W (i :: rs) :=
  ⟨fun j hj => by
    rcases List.mem_cons.1 hj with rfl | hj
    · exact h
    · exact hs.out j hj⟩
theorem aw_all (rs : List Nat) (hr : Region.ready .any ops listed = rs) (hne : rs ≠ []) (h : AR ops Q' fuel listed a W rs) : AW Try.prog ops Q' (fuel + 1) listed a W := ⟨wpAny_all hr hne h.out⟩
theorem wp_aw (n : Nat) (L : Array Bool) {id : Nat} {l : List Oper} (hn : l.length = n) (hL : Array.replicate n false = L) (h : AW Try.prog l.toArray Q' n L a w.drew) : (Code.region id l.toArray true).wp Try.prog Q' a w := by
  subst hn hL
  exact wp_region_any (by kernel_rfl) (by simpa using h.out)
theorem ar_val (v : Value) {W' : World} (ho : ops[i]? = some o) (hw : Region.wanted o (yielded ops a.tmps) = true) (hv : (execOp a.eval o).run Try.prog W = .ok (.value v) W')
    (h : AW Try.prog ops Q' fuel (listed.setIfInBounds i true) (a.put o.dst v) W') (hs : AR ops Q' fuel listed a W rs) : AR ops Q' fuel listed a W (i :: rs) :=
  ar_cons (by
    unfold wpOp
    rw [ho]
    simp only [hw, if_true]
    refine .inl ?_
    unfold Oper.wp
    rw [hv, Oper.upon_value]
    exact h.out) hs
theorem ar_skip {W' : World} (ho : ops[i]? = some o) (hw : Region.wanted o (yielded ops a.tmps) = true) (hv : (execOp a.eval o).run Try.prog W = .ok .skip W')
    (h : AW Try.prog ops Q' fuel (listed.setIfInBounds i true) (a.put o.dst undef) W') (hs : AR ops Q' fuel listed a W rs) : AR ops Q' fuel listed a W (i :: rs) :=
  ar_cons (by
    unfold wpOp
    rw [ho]
    simp only [hw, if_true]
    refine .inl ?_
    unfold Oper.wp
    rw [hv, Oper.upon_skip]
    exact h.out) hs
theorem ar_call (f : FuncId) (args : Array Value) (v : Value) {R : World → Prop} (ho : ops[i]? = some o) (hw : Region.wanted o (yielded ops a.tmps) = true) (hv : (execOp a.eval o).run Try.prog W = .ok (.enter f args) W)
    (hc : Calls Try.prog f args W fun e W' => e = .returned v ∧ R W')
    (h : ∀ W', R W' → AW Try.prog ops Q' fuel (listed.setIfInBounds i true) (a.put o.dst v) W') (hs : AR ops Q' fuel listed a W rs) : AR ops Q' fuel listed a W (i :: rs) :=
  ar_cons (by
    unfold wpOp
    rw [ho]
    simp only [hw, if_true]
    refine .inl ?_
    unfold Oper.wp
    rw [hv, Oper.upon_enter]
    exact hc.mono fun e w'' ⟨h1, h2⟩ => by subst h1; exact (h _ h2).out) hs
/-- An alloc: from here on only that a new block g has the zero value is known. -/
theorem ar_alloc {obj : Obj} (ho : ops[i]? = some o) (hw : Region.wanted o (yielded ops a.tmps) = true) (hv : ∀ ev : Operand → Value, (execOp ev o).run Try.prog W = .ok (.value (.pointer (some ⟨W.heap.size, 0, none⟩))) (W.alloc obj))
    (hW : Bel w W) (h : ∀ g W', w.heap.size ≤ g → Bel w W' → W'.heap[g]? = some obj → AW Try.prog ops Q' fuel (listed.setIfInBounds i true) (a.put o.dst (.pointer (some ⟨g, 0, none⟩))) W')
    (hs : AR ops Q' fuel listed a W rs) : AR ops Q' fuel listed a W (i :: rs) :=
  ar_val _ ho hw (hv a.eval) (h _ _ hW.size (hW.alloc _) (by show (W.heap.push _)[W.heap.size]? = _; simp)) hs
/-- Several ways to one state, its frame the same. -/
theorem aw_join (m : Nat) (L : Array Bool) (F : Act) (W0 : World) {n : Nat} {L0 : Array Bool} (h1 : AW Try.prog ops Q' m L F W0 → AW Try.prog ops Q' n L0 a w) (h2 : AW Try.prog ops Q' m L F W0) : AW Try.prog ops Q' n L0 a w := h1 h2
/-- Several ways to one state. -/
theorem aw_meet (m : Nat) (L : Array Bool) (F : Nat → Act) {C : Nat → World → Prop} {n : Nat} {L0 : Array Bool} (h1 : (∀ g W, C g W → AW Try.prog ops Q' m L (F g) W) → AW Try.prog ops Q' n L0 a w) (h2 : ∀ g W, C g W → AW Try.prog ops Q' m L (F g) W) : AW Try.prog ops Q' n L0 a w := h1 h2

theorem arv0 (v : Value) {W' : World} (ho : ops[i]? = some o) (hw : Region.wanted o (yielded ops a.tmps) = true) 
    (hv : ∀ ev : Operand → Value, (∀ v, ev (.const v) = v) → (∀ f, ev (.func f) = .func (.func f) #[] #[]) → (execOp ev o).run Try.prog W = .ok (.value v) W')
    (h : AW Try.prog ops Q' fuel (listed.setIfInBounds i true) (a.put o.dst v) W') (hs : AR ops Q' fuel listed a W rs) : AR ops Q' fuel listed a W (i :: rs) :=
  ar_val v ho hw (hv a.eval (fun _ => rfl) (fun _ => rfl) ) h hs
theorem ars0 {W' : World} (ho : ops[i]? = some o) (hw : Region.wanted o (yielded ops a.tmps) = true) 
    (hv : ∀ ev : Operand → Value, (∀ v, ev (.const v) = v) → (∀ f, ev (.func f) = .func (.func f) #[] #[]) → (execOp ev o).run Try.prog W = .ok .skip W')
    (h : AW Try.prog ops Q' fuel (listed.setIfInBounds i true) (a.put o.dst undef) W') (hs : AR ops Q' fuel listed a W rs) : AR ops Q' fuel listed a W (i :: rs) :=
  ar_skip ho hw (hv a.eval (fun _ => rfl) (fun _ => rfl) ) h hs
theorem arc0 (f : FuncId) (args : Array Value) (v : Value) {R : World → Prop} (ho : ops[i]? = some o) (hw : Region.wanted o (yielded ops a.tmps) = true) 
    (hv : ∀ ev : Operand → Value, (∀ v, ev (.const v) = v) → (∀ f, ev (.func f) = .func (.func f) #[] #[]) → (execOp ev o).run Try.prog W = .ok (.enter f args) W)
    (hc : Calls Try.prog f args W fun e W' => e = .returned v ∧ R W')
    (h : ∀ W', R W' → AW Try.prog ops Q' fuel (listed.setIfInBounds i true) (a.put o.dst v) W') (hs : AR ops Q' fuel listed a W rs) : AR ops Q' fuel listed a W (i :: rs) :=
  ar_call f args v ho hw (hv a.eval (fun _ => rfl) (fun _ => rfl) ) hc h hs
theorem awt0 (i : Nat) (v : Value) (ho : ops[i]? = some o) (hns : Region.noSelect ops = true) (hf : Region.free .any ops listed i = true) (hr : (Region.ready .any ops listed).contains i = true)
    (hQ : ∀ c a w, Q' (.panic c) (a.put o.dst v) w → Q' (.panic c) a w) (hw : Region.wanted o (yielded ops a.tmps) = true) 
    (hv : ∀ ev : Operand → Value, (∀ v, ev (.const v) = v) → (∀ f, ev (.func f) = .func (.func f) #[] #[]) → ∀ W, (execOp ev o).run Try.prog W = .ok (.value v) W)
    (h : AW Try.prog ops Q' fuel (listed.setIfInBounds i true) (a.put o.dst v) W) : AW Try.prog ops Q' (fuel + 1) listed a W :=
  ⟨wpAny_take ho hns hf hr hQ (.inl ⟨hw, hv a.eval (fun _ => rfl) (fun _ => rfl) ⟩) h.out⟩

theorem arv1 (n0 : Nat) {x0 : Value} (v : Value) {W' : World} (ho : ops[i]? = some o) (hw : Region.wanted o (yielded ops a.tmps) = true) (h0 : a.tmps.toList[n0]? = some x0)
    (hv : ∀ ev : Operand → Value, (∀ v, ev (.const v) = v) → (∀ f, ev (.func f) = .func (.func f) #[] #[]) → ev (.tmp n0) = x0 → (execOp ev o).run Try.prog W = .ok (.value v) W')
    (h : AW Try.prog ops Q' fuel (listed.setIfInBounds i true) (a.put o.dst v) W') (hs : AR ops Q' fuel listed a W rs) : AR ops Q' fuel listed a W (i :: rs) :=
  ar_val v ho hw (hv a.eval (fun _ => rfl) (fun _ => rfl) (slot_eval h0)) h hs
theorem ars1 (n0 : Nat) {x0 : Value} {W' : World} (ho : ops[i]? = some o) (hw : Region.wanted o (yielded ops a.tmps) = true) (h0 : a.tmps.toList[n0]? = some x0)
    (hv : ∀ ev : Operand → Value, (∀ v, ev (.const v) = v) → (∀ f, ev (.func f) = .func (.func f) #[] #[]) → ev (.tmp n0) = x0 → (execOp ev o).run Try.prog W = .ok .skip W')
    (h : AW Try.prog ops Q' fuel (listed.setIfInBounds i true) (a.put o.dst undef) W') (hs : AR ops Q' fuel listed a W rs) : AR ops Q' fuel listed a W (i :: rs) :=
  ar_skip ho hw (hv a.eval (fun _ => rfl) (fun _ => rfl) (slot_eval h0)) h hs
theorem arc1 (n0 : Nat) {x0 : Value} (f : FuncId) (args : Array Value) (v : Value) {R : World → Prop} (ho : ops[i]? = some o) (hw : Region.wanted o (yielded ops a.tmps) = true) (h0 : a.tmps.toList[n0]? = some x0)
    (hv : ∀ ev : Operand → Value, (∀ v, ev (.const v) = v) → (∀ f, ev (.func f) = .func (.func f) #[] #[]) → ev (.tmp n0) = x0 → (execOp ev o).run Try.prog W = .ok (.enter f args) W)
    (hc : Calls Try.prog f args W fun e W' => e = .returned v ∧ R W')
    (h : ∀ W', R W' → AW Try.prog ops Q' fuel (listed.setIfInBounds i true) (a.put o.dst v) W') (hs : AR ops Q' fuel listed a W rs) : AR ops Q' fuel listed a W (i :: rs) :=
  ar_call f args v ho hw (hv a.eval (fun _ => rfl) (fun _ => rfl) (slot_eval h0)) hc h hs
theorem awt1 (i : Nat) (n0 : Nat) {x0 : Value} (v : Value) (ho : ops[i]? = some o) (hns : Region.noSelect ops = true) (hf : Region.free .any ops listed i = true) (hr : (Region.ready .any ops listed).contains i = true)
    (hQ : ∀ c a w, Q' (.panic c) (a.put o.dst v) w → Q' (.panic c) a w) (hw : Region.wanted o (yielded ops a.tmps) = true) (h0 : a.tmps.toList[n0]? = some x0)
    (hv : ∀ ev : Operand → Value, (∀ v, ev (.const v) = v) → (∀ f, ev (.func f) = .func (.func f) #[] #[]) → ev (.tmp n0) = x0 → ∀ W, (execOp ev o).run Try.prog W = .ok (.value v) W)
    (h : AW Try.prog ops Q' fuel (listed.setIfInBounds i true) (a.put o.dst v) W) : AW Try.prog ops Q' (fuel + 1) listed a W :=
  ⟨wpAny_take ho hns hf hr hQ (.inl ⟨hw, hv a.eval (fun _ => rfl) (fun _ => rfl) (slot_eval h0)⟩) h.out⟩

theorem arv2 (n0 n1 : Nat) {x0 x1 : Value} (v : Value) {W' : World} (ho : ops[i]? = some o) (hw : Region.wanted o (yielded ops a.tmps) = true) (h0 : a.tmps.toList[n0]? = some x0) (h1 : a.tmps.toList[n1]? = some x1)
    (hv : ∀ ev : Operand → Value, (∀ v, ev (.const v) = v) → (∀ f, ev (.func f) = .func (.func f) #[] #[]) → ev (.tmp n0) = x0 → ev (.tmp n1) = x1 → (execOp ev o).run Try.prog W = .ok (.value v) W')
    (h : AW Try.prog ops Q' fuel (listed.setIfInBounds i true) (a.put o.dst v) W') (hs : AR ops Q' fuel listed a W rs) : AR ops Q' fuel listed a W (i :: rs) :=
  ar_val v ho hw (hv a.eval (fun _ => rfl) (fun _ => rfl) (slot_eval h0) (slot_eval h1)) h hs
theorem ars2 (n0 n1 : Nat) {x0 x1 : Value} {W' : World} (ho : ops[i]? = some o) (hw : Region.wanted o (yielded ops a.tmps) = true) (h0 : a.tmps.toList[n0]? = some x0) (h1 : a.tmps.toList[n1]? = some x1)
    (hv : ∀ ev : Operand → Value, (∀ v, ev (.const v) = v) → (∀ f, ev (.func f) = .func (.func f) #[] #[]) → ev (.tmp n0) = x0 → ev (.tmp n1) = x1 → (execOp ev o).run Try.prog W = .ok .skip W')
    (h : AW Try.prog ops Q' fuel (listed.setIfInBounds i true) (a.put o.dst undef) W') (hs : AR ops Q' fuel listed a W rs) : AR ops Q' fuel listed a W (i :: rs) :=
  ar_skip ho hw (hv a.eval (fun _ => rfl) (fun _ => rfl) (slot_eval h0) (slot_eval h1)) h hs
theorem arc2 (n0 n1 : Nat) {x0 x1 : Value} (f : FuncId) (args : Array Value) (v : Value) {R : World → Prop} (ho : ops[i]? = some o) (hw : Region.wanted o (yielded ops a.tmps) = true) (h0 : a.tmps.toList[n0]? = some x0) (h1 : a.tmps.toList[n1]? = some x1)
    (hv : ∀ ev : Operand → Value, (∀ v, ev (.const v) = v) → (∀ f, ev (.func f) = .func (.func f) #[] #[]) → ev (.tmp n0) = x0 → ev (.tmp n1) = x1 → (execOp ev o).run Try.prog W = .ok (.enter f args) W)
    (hc : Calls Try.prog f args W fun e W' => e = .returned v ∧ R W')
    (h : ∀ W', R W' → AW Try.prog ops Q' fuel (listed.setIfInBounds i true) (a.put o.dst v) W') (hs : AR ops Q' fuel listed a W rs) : AR ops Q' fuel listed a W (i :: rs) :=
  ar_call f args v ho hw (hv a.eval (fun _ => rfl) (fun _ => rfl) (slot_eval h0) (slot_eval h1)) hc h hs
theorem awt2 (i : Nat) (n0 n1 : Nat) {x0 x1 : Value} (v : Value) (ho : ops[i]? = some o) (hns : Region.noSelect ops = true) (hf : Region.free .any ops listed i = true) (hr : (Region.ready .any ops listed).contains i = true)
    (hQ : ∀ c a w, Q' (.panic c) (a.put o.dst v) w → Q' (.panic c) a w) (hw : Region.wanted o (yielded ops a.tmps) = true) (h0 : a.tmps.toList[n0]? = some x0) (h1 : a.tmps.toList[n1]? = some x1)
    (hv : ∀ ev : Operand → Value, (∀ v, ev (.const v) = v) → (∀ f, ev (.func f) = .func (.func f) #[] #[]) → ev (.tmp n0) = x0 → ev (.tmp n1) = x1 → ∀ W, (execOp ev o).run Try.prog W = .ok (.value v) W)
    (h : AW Try.prog ops Q' fuel (listed.setIfInBounds i true) (a.put o.dst v) W) : AW Try.prog ops Q' (fuel + 1) listed a W :=
  ⟨wpAny_take ho hns hf hr hQ (.inl ⟨hw, hv a.eval (fun _ => rfl) (fun _ => rfl) (slot_eval h0) (slot_eval h1)⟩) h.out⟩

theorem arv3 (n0 n1 n2 : Nat) {x0 x1 x2 : Value} (v : Value) {W' : World} (ho : ops[i]? = some o) (hw : Region.wanted o (yielded ops a.tmps) = true) (h0 : a.tmps.toList[n0]? = some x0) (h1 : a.tmps.toList[n1]? = some x1) (h2 : a.tmps.toList[n2]? = some x2)
    (hv : ∀ ev : Operand → Value, (∀ v, ev (.const v) = v) → (∀ f, ev (.func f) = .func (.func f) #[] #[]) → ev (.tmp n0) = x0 → ev (.tmp n1) = x1 → ev (.tmp n2) = x2 → (execOp ev o).run Try.prog W = .ok (.value v) W')
    (h : AW Try.prog ops Q' fuel (listed.setIfInBounds i true) (a.put o.dst v) W') (hs : AR ops Q' fuel listed a W rs) : AR ops Q' fuel listed a W (i :: rs) :=
  ar_val v ho hw (hv a.eval (fun _ => rfl) (fun _ => rfl) (slot_eval h0) (slot_eval h1) (slot_eval h2)) h hs
theorem ars3 (n0 n1 n2 : Nat) {x0 x1 x2 : Value} {W' : World} (ho : ops[i]? = some o) (hw : Region.wanted o (yielded ops a.tmps) = true) (h0 : a.tmps.toList[n0]? = some x0) (h1 : a.tmps.toList[n1]? = some x1) (h2 : a.tmps.toList[n2]? = some x2)
    (hv : ∀ ev : Operand → Value, (∀ v, ev (.const v) = v) → (∀ f, ev (.func f) = .func (.func f) #[] #[]) → ev (.tmp n0) = x0 → ev (.tmp n1) = x1 → ev (.tmp n2) = x2 → (execOp ev o).run Try.prog W = .ok .skip W')
    (h : AW Try.prog ops Q' fuel (listed.setIfInBounds i true) (a.put o.dst undef) W') (hs : AR ops Q' fuel listed a W rs) : AR ops Q' fuel listed a W (i :: rs) :=
  ar_skip ho hw (hv a.eval (fun _ => rfl) (fun _ => rfl) (slot_eval h0) (slot_eval h1) (slot_eval h2)) h hs
theorem arc3 (n0 n1 n2 : Nat) {x0 x1 x2 : Value} (f : FuncId) (args : Array Value) (v : Value) {R : World → Prop} (ho : ops[i]? = some o) (hw : Region.wanted o (yielded ops a.tmps) = true) (h0 : a.tmps.toList[n0]? = some x0) (h1 : a.tmps.toList[n1]? = some x1) (h2 : a.tmps.toList[n2]? = some x2)
    (hv : ∀ ev : Operand → Value, (∀ v, ev (.const v) = v) → (∀ f, ev (.func f) = .func (.func f) #[] #[]) → ev (.tmp n0) = x0 → ev (.tmp n1) = x1 → ev (.tmp n2) = x2 → (execOp ev o).run Try.prog W = .ok (.enter f args) W)
    (hc : Calls Try.prog f args W fun e W' => e = .returned v ∧ R W')
    (h : ∀ W', R W' → AW Try.prog ops Q' fuel (listed.setIfInBounds i true) (a.put o.dst v) W') (hs : AR ops Q' fuel listed a W rs) : AR ops Q' fuel listed a W (i :: rs) :=
  ar_call f args v ho hw (hv a.eval (fun _ => rfl) (fun _ => rfl) (slot_eval h0) (slot_eval h1) (slot_eval h2)) hc h hs
theorem awt3 (i : Nat) (n0 n1 n2 : Nat) {x0 x1 x2 : Value} (v : Value) (ho : ops[i]? = some o) (hns : Region.noSelect ops = true) (hf : Region.free .any ops listed i = true) (hr : (Region.ready .any ops listed).contains i = true)
    (hQ : ∀ c a w, Q' (.panic c) (a.put o.dst v) w → Q' (.panic c) a w) (hw : Region.wanted o (yielded ops a.tmps) = true) (h0 : a.tmps.toList[n0]? = some x0) (h1 : a.tmps.toList[n1]? = some x1) (h2 : a.tmps.toList[n2]? = some x2)
    (hv : ∀ ev : Operand → Value, (∀ v, ev (.const v) = v) → (∀ f, ev (.func f) = .func (.func f) #[] #[]) → ev (.tmp n0) = x0 → ev (.tmp n1) = x1 → ev (.tmp n2) = x2 → ∀ W, (execOp ev o).run Try.prog W = .ok (.value v) W)
    (h : AW Try.prog ops Q' fuel (listed.setIfInBounds i true) (a.put o.dst v) W) : AW Try.prog ops Q' (fuel + 1) listed a W :=
  ⟨wpAny_take ho hns hf hr hQ (.inl ⟨hw, hv a.eval (fun _ => rfl) (fun _ => rfl) (slot_eval h0) (slot_eval h1) (slot_eval h2)⟩) h.out⟩

end

end Go.Proofs.Ytlgljcfkoakogaa
