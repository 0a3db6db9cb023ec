import Derived.Test.YtbobbekbliichaaE24
namespace Go.Proofs.Ytbobbekbliichaa
open Go.RowKit
set_option linter.unusedSimpArgs false
set_option linter.unusedVariables false


section
variable {ops : Array Oper} {Q : Exit → Act → World → Prop} {C : World → Prop}
/-- The walk through all orders, each world of which is one of the class. -/
def anyIn (C : World → Prop) (ops : Array Oper) (Q : Exit → Act → World → Prop) : Nat → Array Bool → Act → World → Prop
  | 0, listed, a, w => C w ∧ Region.ready .any ops listed = [] ∧ Q .normal a w
  | fuel + 1, listed, a, w => C w ∧ (Region.ready .any ops listed = [] → Q .normal a w) ∧ ∀ i ∈ Region.ready .any ops listed, wpOp Try.prog ops Q i (anyIn C ops Q fuel (listed.setIfInBounds i true)) a w
theorem anyIn_any : ∀ (fuel : Nat) (listed : Array Bool) (a : Act) (w : World), anyIn C ops Q fuel listed a w → wpAny Try.prog .any ops Q fuel listed a w
  | 0, _, _, _, h => h.2
  | fuel + 1, listed, a, w, h => ⟨h.2.1, fun i hi => wpOp_mono (fun a' w' h' => anyIn_any fuel _ a' w' h') (h.2.2 i hi)⟩
theorem anyIn_C : ∀ (fuel : Nat) {listed : Array Bool} {a : Act} {w : World}, anyIn C ops Q fuel listed a w → C w
  | 0, _, _, _, h => h.1
  | _ + 1, _, _, _, h => h.1
/-- An operation j runs alike whether i, apart from it, has yielded or not; Y: what is kept of the frame. -/
theorem op_apart {j : Nat} {oi oj : Oper} {v : Value} (hj : ops[j]? = some oj) (hap : oi.apart ops oj = true) (hsj : ∀ cs b, oj.op ≠ .select cs b)
    (hQ : ∀ c a w, Q (.panic c) (a.put oi.dst v) w → Q (.panic c) a w) {Y : Act → Prop} (hY : ∀ a u, Y a → Y (a.put oj.dst u)) (hYd : ∀ (a : Act) d, Y a → Y { a with defers := d :: a.defers }) {K : Act → World → Prop} {a : Act} {w : World} (hy : Y a)
    (h : wpOp Try.prog ops Q j K (a.put oi.dst v) w) : wpOp Try.prog ops Q j (fun a' w' => Y a' ∧ K (a'.put oi.dst v) w') a w := by
  obtain ⟨h1, h2, h3⟩ := Oper.apart_spec hap
  have hcomm : ∀ (a : Act) u, (a.put oi.dst v).put oj.dst u = (a.put oj.dst u).put oi.dst v := fun a u => Act.put_comm a v u h2
  unfold wpOp at h ⊢
  rw [hj] at h ⊢
  dsimp only at h ⊢
  rw [wanted_put oj a oi.dst v h1] at h
  by_cases hw : Region.wanted oj (yielded ops a.tmps) = true
  · rw [if_pos hw] at h ⊢
    rcases h with h | ⟨h, hl⟩
    · left
      unfold Oper.wp at h ⊢
      rw [execOp_put oj hsj a oi.dst v h1] at h
      revert h
      generalize (execOp a.eval oj).run Try.prog w = res
      intro h
      match res, h with
      | .ok (.value u) w', h => exact ⟨hY a u hy, (hcomm a u) ▸ h⟩
      | .ok .skip w', h => exact ⟨hY a undef hy, (hcomm a undef) ▸ h⟩
      | .ok (.defer d) w', h =>
        refine ⟨hY _ undef (hYd a d hy), ?_⟩
        have e : ({ (a.put oi.dst v) with defers := d :: (a.put oi.dst v).defers } : Act).put oj.dst undef = (({ a with defers := d :: a.defers } : Act).put oj.dst undef).put oi.dst v := by
          rw [Act.put_defers]
          exact Act.put_comm _ v undef h2
        exact e ▸ h
      | .ok (.enter f args) w', h =>
        refine Calls.mono h fun e w'' he => ?_
        match e, he with
        | .returned u, he => exact ⟨hY a u hy, (hcomm a u) ▸ he⟩
        | .panicked c, he => exact hQ _ _ _ he
        | .outgrown, he => exact he
      | .ok (.row row args) w', h => exact Rows.mono h fun u w'' he => ⟨hY a u hy, (hcomm a u) ▸ he⟩
      | .halt (.panic u) w', h => exact hQ _ _ _ h
    · right
      refine ⟨?_, hl⟩
      unfold Oper.asks at h ⊢
      rw [execOp_put oj hsj a oi.dst v h1] at h
      exact h
  · rw [if_neg hw] at h ⊢
    exact ⟨hY a undef hy, (hcomm a undef) ▸ h⟩
theorem anyIn_first {i : Nat} {oi : Oper} {v : Value} (hi : ops[i]? = some oi) (hsel : ∀ (j : Nat) (o : Oper) cs b, ops[j]? = some o → o.op ≠ .select cs b) (hQ : ∀ c a w, Q (.panic c) (a.put oi.dst v) w → Q (.panic c) a w) :
    ∀ (fuel : Nat) (listed : Array Bool) (a : Act) (w : World),
      (∀ j oj, ops[j]? = some oj → j ≠ i → listed.getD j true = false → (∀ e ∈ oj.after, Region.binds .any e = true → e.on ≠ i) → oi.apart ops oj = true) →
      i ∈ Region.ready .any ops listed → C w → (Region.wanted oi (yielded ops a.tmps) = true ∧ ∀ w, C w → (execOp a.eval oi).run Try.prog w = .ok (.value v) w) →
      anyIn C ops Q fuel (listed.setIfInBounds i true) (a.put oi.dst v) w → anyIn C ops Q (fuel + 1) listed a w := by
  have here : ∀ {K : Act → World → Prop} {a : Act} {w : World}, C w → (Region.wanted oi (yielded ops a.tmps) = true ∧ ∀ w, C w → (execOp a.eval oi).run Try.prog w = .ok (.value v) w) → K (a.put oi.dst v) w → wpOp Try.prog ops Q i K a w := by
    intro K a w hC hy hK
    unfold wpOp
    rw [hi]
    dsimp only
    rw [if_pos hy.1]
    left
    unfold Oper.wp
    rw [hy.2 w hC, Oper.upon_value]
    exact hK
  intro fuel
  induction fuel with
  | zero =>
    intro listed a w _ hr hC hy H
    refine ⟨hC, fun h => (by rw [h] at hr; cases hr), fun j hj => ?_⟩
    by_cases hji : j = i
    · subst hji; exact here hC hy H
    · have := ready_mono hj hji
      rw [H.2.1] at this
      cases this
  | succ fuel ih =>
    intro listed a w hfree hr hC hy H
    refine ⟨hC, fun h => (by rw [h] at hr; cases hr), fun j hj => ?_⟩
    by_cases hji : j = i
    · subst hji; exact here hC hy H
    · have h1 := H.2.2 j (ready_mono hj hji)
      obtain ⟨hjun, oj, hoj, hall⟩ := mem_ready.1 hj
      have hnot : ∀ e ∈ oj.after, Region.binds .any e = true → e.on ≠ i := fun e he hb heq => by
        have h2 := hall e he hb
        have h0 := (mem_ready.1 hr).1
        rw [heq] at h2
        by_cases hl : i < listed.size
        · rw [Array.getD_eq_getD_getElem?, Array.getElem?_eq_getElem hl] at h0 h2
          simp at h0 h2
          rw [h0] at h2
          cases h2
        · rw [Array.getD_eq_getD_getElem?, Array.getElem?_eq_none (by omega)] at h2
          simp at h2
      have hap := hfree j oj hoj hji hjun hnot
      obtain ⟨_, _, h3⟩ := Oper.apart_spec hap
      have h2 := op_apart hoj hap (fun cs b => hsel j oj cs b hoj) hQ
        (Y := fun a => Region.wanted oi (yielded ops a.tmps) = true ∧ ∀ w, C w → (execOp a.eval oi).run Try.prog w = .ok (.value v) w)
        (fun a u h => ⟨by rw [wanted_put oi a oj.dst u h3]; exact h.1, fun w hw => by rw [execOp_put oi (fun cs b => hsel i oi cs b hi) a oj.dst u h3]; exact h.2 w hw⟩) (fun a d h => h) hy h1
      have hfree' : ∀ k ok, ops[k]? = some ok → k ≠ i → (listed.setIfInBounds j true).getD k true = false → (∀ e ∈ ok.after, Region.binds .any e = true → e.on ≠ i) → oi.apart ops ok = true := fun k ok hk hki hun hno => by
        refine hfree k ok hk hki ?_ hno
        by_cases hjk : j = k
        · subst hjk; exact hjun
        · rw [getD_set_ne true hjk] at hun; exact hun
      refine wpOp_mono (fun a' w' h4 => ?_) h2
      refine ih (listed.setIfInBounds j true) a' w' hfree' (ready_mono hr (Ne.symm hji)) (anyIn_C _ h4.2) h4.1 ?_
      rw [Array.setIfInBounds_comm _ _ hji]
      exact h4.2
end
structure AI (C : World → Prop) (ops : Array Oper) (Q : Exit → Act → World → Prop) (fuel : Nat) (listed : Array Bool) (a : Act) (w : World) : Prop where
  out : anyIn C ops Q fuel listed a w
section
variable {ops : Array Oper} {Q' : Exit → Act → World → Prop} {a : Act} {o : Oper} {W : World} {listed : Array Bool} {fuel : Nat} {C : World → Prop}
theorem ai_first {i : Nat} {v : Value} (ho : ops[i]? = some o) (hns : Region.noSelect ops = true) (hf : Region.free .any ops listed i = true) (hr : (Region.ready .any ops listed).contains i = true)
    (hQ : ∀ c a w, Q' (.panic c) (a.put o.dst v) w → Q' (.panic c) a w) (hC : C W) (hw : Region.wanted o (yielded ops a.tmps) = true) (hv : ∀ W, C W → (execOp a.eval o).run Try.prog W = .ok (.value v) W)
    (h : AI C ops Q' fuel (listed.setIfInBounds i true) (a.put o.dst v) W) : AI C ops Q' (fuel + 1) listed a W :=
  ⟨anyIn_first ho (Region.noSelect_spec hns) hQ fuel listed a W (Region.free_spec ho hf) (by simpa using hr) hC ⟨hw, hv⟩ h.out⟩
theorem ai_one (i : Nat) (hr : Region.ready .any ops listed = [i]) (hC : C W) (h : wpOp Try.prog ops Q' i (anyIn C ops Q' fuel (listed.setIfInBounds i true)) a W) : AI C ops Q' (fuel + 1) listed a W :=
  ⟨hC, fun h0 => (by rw [hr] at h0; cases h0), fun j hj => by
    rw [hr] at hj
    obtain rfl : j = i := by simpa using hj
    exact h⟩
theorem ai_val (i : Nat) (v : Value) {W' : World} (hr : Region.ready .any ops listed = [i]) (ho : ops[i]? = some o) (hC : C W) (hw : Region.wanted o (yielded ops a.tmps) = true) (hv : (execOp a.eval o).run Try.prog W = .ok (.value v) W')
    (h : AI C ops Q' fuel (listed.setIfInBounds i true) (a.put o.dst v) W') : AI C ops Q' (fuel + 1) listed a W :=
  ai_one i hr hC (by
    unfold wpOp
    rw [ho]
    simp only [hw, if_true]
    refine .inl ?_
    unfold Oper.wp
    rw [hv, Oper.upon_value]
    exact h.out)
theorem ai_call (i : Nat) (f : FuncId) (args : Array Value) (v : Value) {R : World → Prop} (hr : Region.ready .any ops listed = [i]) (ho : ops[i]? = some o) (hC : C W) (hw : Region.wanted o (yielded ops a.tmps) = true) (hv : (execOp a.eval o).run Try.prog W = .ok (.enter f args) W)
    (hc : Calls Try.prog f args W fun e W' => e = .returned v ∧ R W') (h : ∀ W', R W' → AI C ops Q' fuel (listed.setIfInBounds i true) (a.put o.dst v) W') : AI C ops Q' (fuel + 1) listed a W :=
  ai_one i hr hC (by
    unfold wpOp
    rw [ho]
    simp only [hw, if_true]
    refine .inl ?_
    unfold Oper.wp
    rw [hv, Oper.upon_enter]
    exact hc.mono fun e w'' ⟨h1, h2⟩ => by subst h1; exact (h _ h2).out)
theorem ai_done (hr : Region.ready .any ops listed = []) (hC : C W) (h : Q' .normal a W) : AI C ops Q' fuel listed a W := by
  cases fuel with
  | zero => exact ⟨hC, hr, h⟩
  | succ n => exact ⟨hC, fun _ => h, by rw [hr]; simp⟩
theorem wp_ai (C : World → Prop) (n : Nat) (L : Array Bool) {id : Nat} {l : List Oper} {w : World} (hn : l.length = n) (hL : Array.replicate n false = L) (h : AI C l.toArray Q' n L a w.drew) : (Code.region id l.toArray true).wp Try.prog Q' a w := by
  subst hn hL
  exact wp_region_any (by kernel_rfl) (by simpa using anyIn_any _ _ _ _ h.out)

/-- An operation that yields one value in every world of the class may be taken first. -/
theorem ait0 (i : Nat) (v : Value) (ho : ops[i]? = some o) (hns : Region.noSelect ops = true) (hf : Region.free .any ops listed i = true) (hr : (Region.ready .any ops listed).contains i = true)
    (hQ : ∀ c a w, Q' (.panic c) (a.put o.dst v) w → Q' (.panic c) a w) (hC : C W) (hw : Region.wanted o (yielded ops a.tmps) = true) 
    (hv : ∀ ev : Operand → Value, (∀ v, ev (.const v) = v) → (∀ f, ev (.func f) = .func (.func f) #[] #[]) → ∀ W, C W → (execOp ev o).run Try.prog W = .ok (.value v) W)
    (h : AI C ops Q' fuel (listed.setIfInBounds i true) (a.put o.dst v) W) : AI C ops Q' (fuel + 1) listed a W :=
  ai_first ho hns hf hr hQ hC hw (hv a.eval (fun _ => rfl) (fun _ => rfl) ) h
theorem aiv0 (i : Nat) (v : Value) {W' : World} (hr : Region.ready .any ops listed = [i]) (ho : ops[i]? = some o) (hC : C W) (hw : Region.wanted o (yielded ops a.tmps) = true) 
    (hv : ∀ ev : Operand → Value, (∀ v, ev (.const v) = v) → (∀ f, ev (.func f) = .func (.func f) #[] #[]) → (execOp ev o).run Try.prog W = .ok (.value v) W')
    (h : AI C ops Q' fuel (listed.setIfInBounds i true) (a.put o.dst v) W') : AI C ops Q' (fuel + 1) listed a W :=
  ai_val i v hr ho hC hw (hv a.eval (fun _ => rfl) (fun _ => rfl) ) h
theorem aic0 (i : Nat) (f : FuncId) (args : Array Value) (v : Value) {R : World → Prop} (hr : Region.ready .any ops listed = [i]) (ho : ops[i]? = some o) (hC : C W) (hw : Region.wanted o (yielded ops a.tmps) = true) 
    (hv : ∀ ev : Operand → Value, (∀ v, ev (.const v) = v) → (∀ f, ev (.func f) = .func (.func f) #[] #[]) → (execOp ev o).run Try.prog W = .ok (.enter f args) W)
    (hc : Calls Try.prog f args W fun e W' => e = .returned v ∧ R W')
    (h : ∀ W', R W' → AI C ops Q' fuel (listed.setIfInBounds i true) (a.put o.dst v) W') : AI C ops Q' (fuel + 1) listed a W :=
  ai_call i f args v hr ho hC hw (hv a.eval (fun _ => rfl) (fun _ => rfl) ) hc h

/-- An operation that yields one value in every world of the class may be taken first. -/
theorem ait1 (i : Nat) (n0 : Nat) {x0 : Value} (v : Value) (ho : ops[i]? = some o) (hns : Region.noSelect ops = true) (hf : Region.free .any ops listed i = true) (hr : (Region.ready .any ops listed).contains i = true)
    (hQ : ∀ c a w, Q' (.panic c) (a.put o.dst v) w → Q' (.panic c) a w) (hC : C W) (hw : Region.wanted o (yielded ops a.tmps) = true) (h0 : a.tmps.toList[n0]? = some x0)
    (hv : ∀ ev : Operand → Value, (∀ v, ev (.const v) = v) → (∀ f, ev (.func f) = .func (.func f) #[] #[]) → ev (.tmp n0) = x0 → ∀ W, C W → (execOp ev o).run Try.prog W = .ok (.value v) W)
    (h : AI C ops Q' fuel (listed.setIfInBounds i true) (a.put o.dst v) W) : AI C ops Q' (fuel + 1) listed a W :=
  ai_first ho hns hf hr hQ hC hw (hv a.eval (fun _ => rfl) (fun _ => rfl) (slot_eval h0)) h
theorem aiv1 (i : Nat) (n0 : Nat) {x0 : Value} (v : Value) {W' : World} (hr : Region.ready .any ops listed = [i]) (ho : ops[i]? = some o) (hC : C W) (hw : Region.wanted o (yielded ops a.tmps) = true) (h0 : a.tmps.toList[n0]? = some x0)
    (hv : ∀ ev : Operand → Value, (∀ v, ev (.const v) = v) → (∀ f, ev (.func f) = .func (.func f) #[] #[]) → ev (.tmp n0) = x0 → (execOp ev o).run Try.prog W = .ok (.value v) W')
    (h : AI C ops Q' fuel (listed.setIfInBounds i true) (a.put o.dst v) W') : AI C ops Q' (fuel + 1) listed a W :=
  ai_val i v hr ho hC hw (hv a.eval (fun _ => rfl) (fun _ => rfl) (slot_eval h0)) h
theorem aic1 (i : Nat) (n0 : Nat) {x0 : Value} (f : FuncId) (args : Array Value) (v : Value) {R : World → Prop} (hr : Region.ready .any ops listed = [i]) (ho : ops[i]? = some o) (hC : C W) (hw : Region.wanted o (yielded ops a.tmps) = true) (h0 : a.tmps.toList[n0]? = some x0)
    (hv : ∀ ev : Operand → Value, (∀ v, ev (.const v) = v) → (∀ f, ev (.func f) = .func (.func f) #[] #[]) → ev (.tmp n0) = x0 → (execOp ev o).run Try.prog W = .ok (.enter f args) W)
    (hc : Calls Try.prog f args W fun e W' => e = .returned v ∧ R W')
    (h : ∀ W', R W' → AI C ops Q' fuel (listed.setIfInBounds i true) (a.put o.dst v) W') : AI C ops Q' (fuel + 1) listed a W :=
  ai_call i f args v hr ho hC hw (hv a.eval (fun _ => rfl) (fun _ => rfl) (slot_eval h0)) hc h

/-- An operation that yields one value in every world of the class may be taken first. -/
theorem ait2 (i : Nat) (n0 n1 : Nat) {x0 x1 : Value} (v : Value) (ho : ops[i]? = some o) (hns : Region.noSelect ops = true) (hf : Region.free .any ops listed i = true) (hr : (Region.ready .any ops listed).contains i = true)
    (hQ : ∀ c a w, Q' (.panic c) (a.put o.dst v) w → Q' (.panic c) a w) (hC : C W) (hw : Region.wanted o (yielded ops a.tmps) = true) (h0 : a.tmps.toList[n0]? = some x0) (h1 : a.tmps.toList[n1]? = some x1)
    (hv : ∀ ev : Operand → Value, (∀ v, ev (.const v) = v) → (∀ f, ev (.func f) = .func (.func f) #[] #[]) → ev (.tmp n0) = x0 → ev (.tmp n1) = x1 → ∀ W, C W → (execOp ev o).run Try.prog W = .ok (.value v) W)
    (h : AI C ops Q' fuel (listed.setIfInBounds i true) (a.put o.dst v) W) : AI C ops Q' (fuel + 1) listed a W :=
  ai_first ho hns hf hr hQ hC hw (hv a.eval (fun _ => rfl) (fun _ => rfl) (slot_eval h0) (slot_eval h1)) h
theorem aiv2 (i : Nat) (n0 n1 : Nat) {x0 x1 : Value} (v : Value) {W' : World} (hr : Region.ready .any ops listed = [i]) (ho : ops[i]? = some o) (hC : C W) (hw : Region.wanted o (yielded ops a.tmps) = true) (h0 : a.tmps.toList[n0]? = some x0) (h1 : a.tmps.toList[n1]? = some x1)
    (hv : ∀ ev : Operand → Value, (∀ v, ev (.const v) = v) → (∀ f, ev (.func f) = .func (.func f) #[] #[]) → ev (.tmp n0) = x0 → ev (.tmp n1) = x1 → (execOp ev o).run Try.prog W = .ok (.value v) W')
    (h : AI C ops Q' fuel (listed.setIfInBounds i true) (a.put o.dst v) W') : AI C ops Q' (fuel + 1) listed a W :=
  ai_val i v hr ho hC hw (hv a.eval (fun _ => rfl) (fun _ => rfl) (slot_eval h0) (slot_eval h1)) h
theorem aic2 (i : Nat) (n0 n1 : Nat) {x0 x1 : Value} (f : FuncId) (args : Array Value) (v : Value) {R : World → Prop} (hr : Region.ready .any ops listed = [i]) (ho : ops[i]? = some o) (hC : C W) (hw : Region.wanted o (yielded ops a.tmps) = true) (h0 : a.tmps.toList[n0]? = some x0) (h1 : a.tmps.toList[n1]? = some x1)
    (hv : ∀ ev : Operand → Value, (∀ v, ev (.const v) = v) → (∀ f, ev (.func f) = .func (.func f) #[] #[]) → ev (.tmp n0) = x0 → ev (.tmp n1) = x1 → (execOp ev o).run Try.prog W = .ok (.enter f args) W)
    (hc : Calls Try.prog f args W fun e W' => e = .returned v ∧ R W')
    (h : ∀ W', R W' → AI C ops Q' fuel (listed.setIfInBounds i true) (a.put o.dst v) W') : AI C ops Q' (fuel + 1) listed a W :=
  ai_call i f args v hr ho hC hw (hv a.eval (fun _ => rfl) (fun _ => rfl) (slot_eval h0) (slot_eval h1)) hc h

/-- An operation that yields one value in every world of the class may be taken first. -/
theorem ait3 (i : Nat) (n0 n1 n2 : Nat) {x0 x1 x2 : Value} (v : Value) (ho : ops[i]? = some o) (hns : Region.noSelect ops = true) (hf : Region.free .any ops listed i = true) (hr : (Region.ready .any ops listed).contains i = true)
    (hQ : ∀ c a w, Q' (.panic c) (a.put o.dst v) w → Q' (.panic c) a w) (hC : C W) (hw : Region.wanted o (yielded ops a.tmps) = true) (h0 : a.tmps.toList[n0]? = some x0) (h1 : a.tmps.toList[n1]? = some x1) (h2 : a.tmps.toList[n2]? = some x2)
    (hv : ∀ ev : Operand → Value, (∀ v, ev (.const v) = v) → (∀ f, ev (.func f) = .func (.func f) #[] #[]) → ev (.tmp n0) = x0 → ev (.tmp n1) = x1 → ev (.tmp n2) = x2 → ∀ W, C W → (execOp ev o).run Try.prog W = .ok (.value v) W)
    (h : AI C ops Q' fuel (listed.setIfInBounds i true) (a.put o.dst v) W) : AI C ops Q' (fuel + 1) listed a W :=
  ai_first ho hns hf hr hQ hC hw (hv a.eval (fun _ => rfl) (fun _ => rfl) (slot_eval h0) (slot_eval h1) (slot_eval h2)) h
theorem aiv3 (i : Nat) (n0 n1 n2 : Nat) {x0 x1 x2 : Value} (v : Value) {W' : World} (hr : Region.ready .any ops listed = [i]) (ho : ops[i]? = some o) (hC : C W) (hw : Region.wanted o (yielded ops a.tmps) = true) (h0 : a.tmps.toList[n0]? = some x0) (h1 : a.tmps.toList[n1]? = some x1) (h2 : a.tmps.toList[n2]? = some x2)
    (hv : ∀ ev : Operand → Value, (∀ v, ev (.const v) = v) → (∀ f, ev (.func f) = .func (.func f) #[] #[]) → ev (.tmp n0) = x0 → ev (.tmp n1) = x1 → ev (.tmp n2) = x2 → (execOp ev o).run Try.prog W = .ok (.value v) W')
    (h : AI C ops Q' fuel (listed.setIfInBounds i true) (a.put o.dst v) W') : AI C ops Q' (fuel + 1) listed a W :=
  ai_val i v hr ho hC hw (hv a.eval (fun _ => rfl) (fun _ => rfl) (slot_eval h0) (slot_eval h1) (slot_eval h2)) h
theorem aic3 (i : Nat) (n0 n1 n2 : Nat) {x0 x1 x2 : Value} (f : FuncId) (args : Array Value) (v : Value) {R : World → Prop} (hr : Region.ready .any ops listed = [i]) (ho : ops[i]? = some o) (hC : C W) (hw : Region.wanted o (yielded ops a.tmps) = true) (h0 : a.tmps.toList[n0]? = some x0) (h1 : a.tmps.toList[n1]? = some x1) (h2 : a.tmps.toList[n2]? = some x2)
    (hv : ∀ ev : Operand → Value, (∀ v, ev (.const v) = v) → (∀ f, ev (.func f) = .func (.func f) #[] #[]) → ev (.tmp n0) = x0 → ev (.tmp n1) = x1 → ev (.tmp n2) = x2 → (execOp ev o).run Try.prog W = .ok (.enter f args) W)
    (hc : Calls Try.prog f args W fun e W' => e = .returned v ∧ R W')
    (h : ∀ W', R W' → AI C ops Q' fuel (listed.setIfInBounds i true) (a.put o.dst v) W') : AI C ops Q' (fuel + 1) listed a W :=
  ai_call i f args v hr ho hC hw (hv a.eval (fun _ => rfl) (fun _ => rfl) (slot_eval h0) (slot_eval h1) (slot_eval h2)) hc h

end

end Go.Proofs.Ytbobbekbliichaa
