import Derived.Test.YtbobbekbliichaaProg
import Derived.WalkKit
import Derived.WalkSpells
import Derived.WalkLawsBesides
import Derived.Lib.Hide
import Derived.Deep.RegionHeld3
import Derived.Outline
import Derived.Laws.StructEq
import Derived.Deep.Quiet
import Derived.Laws.Pointers
import Derived.Laws.EntriesVeiled
import Derived.Deep.DeepCutAuto
import Derived.Orders
import Derived.OrdersHeld
import Derived.Below
import Derived.RegionTactic
namespace Go.Proofs.Ytbobbekbliichaa
open Go.RowKit
set_option linter.unusedSimpArgs false
set_option linter.unusedVariables false

theorem bcell {W w1 : World} (hb : Below W.heap.size W w1) : (∀ b o, b < W.heap.size → w1.cell? ⟨b, o, none⟩ = W.cell? ⟨b, o, none⟩) ∧ (∀ b o, b < W.heap.size → w1.frozen? ⟨b, o, none⟩ = W.frozen? ⟨b, o, none⟩) :=
  ⟨fun b o h => hb.cell (p := ⟨b, o, none⟩) h, fun b o h => hb.frozen (p := ⟨b, o, none⟩) h⟩



section
variable {P : Program} {ops : Array Oper} {C : World → Prop} {Q : Act → Prop} {a : Act} {o : Oper} {rest : List Oper}
/-- An operation that yields one value in every world of the class. -/
theorem q_val (v : Value) (hw : Region.wanted o (yielded ops a.tmps) = true) (hv : ∀ W, C W → (execOp a.eval o).run P W = .ok (.value v) W)
    (h : wpQuiet P ops C Q rest (a.put o.dst v)) : wpQuiet P ops C Q (o :: rest) a := by
  unfold wpQuiet
  rw [if_pos hw]
  refine ⟨v, fun W hW => ?_, h⟩
  unfold Oper.quietAt
  rw [hv W hW]
  exact ⟨rfl, rfl⟩
/-- A call that hands back one value in every world of the class, and stays in the class. -/
theorem q_call (f : FuncId) (args : Array Value) (v : Value) (hw : Region.wanted o (yielded ops a.tmps) = true) (hv : ∀ W, C W → (execOp a.eval o).run P W = .ok (.enter f args) W)
    (hc : ∀ W, C W → Calls P f args W fun e W' => e = .returned v ∧ C W')
    (h : wpQuiet P ops C Q rest (a.put o.dst v)) : wpQuiet P ops C Q (o :: rest) a := by
  unfold wpQuiet
  rw [if_pos hw]
  refine ⟨v, fun W hW => ?_, h⟩
  unfold Oper.quietAt
  rw [hv W hW]
  exact ⟨rfl, hc W hW⟩
/-- An operation that its guard leaves out. -/
theorem q_skip (hw : Region.wanted o (yielded ops a.tmps) = false) (h : wpQuiet P ops C Q rest (a.put o.dst undef)) : wpQuiet P ops C Q (o :: rest) a := by
  unfold wpQuiet
  rw [if_neg (by rw [hw]; exact Bool.false_ne_true)]
  exact h
end
/-- The class: what lay when the region began lies there still. -/
def Bel (w W : World) : Prop := Below w.heap.size w W
theorem Bel.step {w W W' : World} (h : Bel w W) (hb : Below W.heap.size W W') : Bel w W' := Below.trans h (hb.mono h.size)
theorem Bel.refl (w : World) : Bel w w := Below.refl _ _
theorem q_calls {f : FuncId} {args : Array Value} {v : Value} {w W : World} (h : Bel w W) (hc : Calls Try.prog f args W fun e W' => e = .returned v ∧ Below W.heap.size W W') :
    Calls Try.prog f args W fun e W' => e = .returned v ∧ Bel w W' := hc.mono fun _ _ ⟨h1, h2⟩ => ⟨h1, h.step h2⟩
theorem q_calls_same {f : FuncId} {args : Array Value} {v : Value} {w W : World} (h : Bel w W) (hc : Calls Try.prog f args W fun e W' => e = .returned v ∧ W = W') :
    Calls Try.prog f args W fun e W' => e = .returned v ∧ Bel w W' := hc.mono fun _ _ ⟨h1, h2⟩ => ⟨h1, h2 ▸ h⟩
/-- A region that draws its order, of loads, reckonings and calls that only make memory: one walk in the order of the text. -/
theorem wp_bel {id : Nat} {Q : Exit → Act → World → Prop} {a : Act} {w : World} {l : List Oper} (hB : Region.lexB .any l.toArray = true)
    (h : wpQuiet Try.prog l.toArray (Bel w) (fun a' => ∀ w', Bel w w' → Q .normal a' w') l a) : (Code.region id l.toArray true).wp Try.prog Q a w :=
  wp_region_quiet (C := Bel w) (by kernel_rfl) hB (Below.refl _ w).drew (by simpa using h)
theorem Bel.cell {w W : World} (h : Bel w W) {b o : Nat} {v : Value} (hc : w.cell? ⟨b, o, none⟩ = some v) : W.cell? ⟨b, o, none⟩ = some v :=
  (Below.cell h (p := ⟨b, o, none⟩) (World.block_lt_of_cell? w _ hc)).trans hc

theorem wpList_of_quiet {P : Program} {ops : Array Oper} {C : World → Prop} {Q : Act → Prop} {Q' : Exit → Act → World → Prop} (hQ : ∀ a w, C w → Q a → Q' .normal a w) :
    ∀ (l : List Oper) (a : Act) (w : World), C w → wpQuiet P ops C Q l a → wpList P ops Q' l a w
  | [], _, _, hw, h => hQ _ _ hw h
  | o :: l, a, w, hw, h => by
    unfold wpQuiet at h
    unfold wpList
    by_cases hg : Region.wanted o (yielded ops a.tmps) = true
    · rw [if_pos hg] at h ⊢
      exact .inl (Oper.wp_of_quiet hw (fun a' w' hw' h' => wpList_of_quiet hQ l a' w' hw' h') h)
    · rw [if_neg hg] at h ⊢
      exact wpList_of_quiet hQ l _ w hw h
/-- The rest of a plain region, from the operation that writes slot N on: the same walk. -/
theorem wpList_bel (N : Nat) {ops : Array Oper} {l : List Oper} {o : Oper} {Q : Exit → Act → World → Prop} {a : Act} {w : World} (_hN : o.dst = some N)
    (h : wpQuiet Try.prog ops (Bel w) (fun a' => ∀ w', Bel w w' → Q .normal a' w') (o :: l) a) : wpList Try.prog ops Q (o :: l) a w :=
  wpList_of_quiet (fun _ w' hw' h' => h' w' hw') _ _ _ (Bel.refl w) h



/-- The quiet walk, shut: no unifier opens it (a guard that is left out made it run through the whole frame). -/
structure QW (ops : Array Oper) (C : World → Prop) (Q : Act → Prop) (l : List Oper) (a : Act) : Prop where
  out : wpQuiet Try.prog ops C Q l a
theorem slot_eval {a : Act} {n : Nat} {x : Value} (h : a.tmps.toList[n]? = some x) : a.eval (.tmp n) = x := by
  show a.tmps.getD n undef = x
  rw [Array.getD_eq_getD_getElem?, ← Array.getElem?_toList, h]
  rfl
section
variable {ops : Array Oper} {C : World → Prop} {Q : Act → Prop} {a : Act} {o : Oper} {rest : List Oper}
theorem qnil (h : Q a) : QW ops C Q [] a := ⟨wpQuiet_nil h⟩
theorem qskip (hw : Region.wanted o (yielded ops a.tmps) = false) (h : QW ops C Q rest (a.put o.dst undef)) : QW ops C Q (o :: rest) a := ⟨q_skip hw h.out⟩
theorem qv0 (v : Value) (hw : Region.wanted o (yielded ops a.tmps) = true) 
    (hv : ∀ ev : Operand → Value, (∀ v, ev (.const v) = v) → (∀ f, ev (.func f) = .func (.func f) #[] #[]) → ∀ W, C W → (execOp ev o).run Try.prog W = .ok (.value v) W)
    (h : QW ops C Q rest (a.put o.dst v)) : QW ops C Q (o :: rest) a := ⟨q_val v hw (fun W hW => hv a.eval (fun _ => rfl) (fun _ => rfl)  W hW) h.out⟩
theorem qc0 (f : FuncId) (args : Array Value) (v : Value) (hw : Region.wanted o (yielded ops a.tmps) = true) 
    (hv : ∀ ev : Operand → Value, (∀ v, ev (.const v) = v) → (∀ f, ev (.func f) = .func (.func f) #[] #[]) → ∀ W, C W → (execOp ev o).run Try.prog W = .ok (.enter f args) W)
    (hc : ∀ W, C W → Calls Try.prog f args W fun e W' => e = .returned v ∧ C W')
    (h : QW ops C Q rest (a.put o.dst v)) : QW ops C Q (o :: rest) a := ⟨q_call f args v hw (fun W hW => hv a.eval (fun _ => rfl) (fun _ => rfl)  W hW) hc h.out⟩
theorem qv1 (n0 : Nat) {x0 : Value} (v : Value) (hw : Region.wanted o (yielded ops a.tmps) = true) (h0 : a.tmps.toList[n0]? = some x0)
    (hv : ∀ ev : Operand → Value, (∀ v, ev (.const v) = v) → (∀ f, ev (.func f) = .func (.func f) #[] #[]) → ev (.tmp n0) = x0 → ∀ W, C W → (execOp ev o).run Try.prog W = .ok (.value v) W)
    (h : QW ops C Q rest (a.put o.dst v)) : QW ops C Q (o :: rest) a := ⟨q_val v hw (fun W hW => hv a.eval (fun _ => rfl) (fun _ => rfl) (slot_eval h0) W hW) h.out⟩
theorem qc1 (n0 : Nat) {x0 : Value} (f : FuncId) (args : Array Value) (v : Value) (hw : Region.wanted o (yielded ops a.tmps) = true) (h0 : a.tmps.toList[n0]? = some x0)
    (hv : ∀ ev : Operand → Value, (∀ v, ev (.const v) = v) → (∀ f, ev (.func f) = .func (.func f) #[] #[]) → ev (.tmp n0) = x0 → ∀ W, C W → (execOp ev o).run Try.prog W = .ok (.enter f args) W)
    (hc : ∀ W, C W → Calls Try.prog f args W fun e W' => e = .returned v ∧ C W')
    (h : QW ops C Q rest (a.put o.dst v)) : QW ops C Q (o :: rest) a := ⟨q_call f args v hw (fun W hW => hv a.eval (fun _ => rfl) (fun _ => rfl) (slot_eval h0) W hW) hc h.out⟩
theorem qv2 (n0 n1 : Nat) {x0 x1 : Value} (v : Value) (hw : Region.wanted o (yielded ops a.tmps) = true) (h0 : a.tmps.toList[n0]? = some x0) (h1 : a.tmps.toList[n1]? = some x1)
    (hv : ∀ ev : Operand → Value, (∀ v, ev (.const v) = v) → (∀ f, ev (.func f) = .func (.func f) #[] #[]) → ev (.tmp n0) = x0 → ev (.tmp n1) = x1 → ∀ W, C W → (execOp ev o).run Try.prog W = .ok (.value v) W)
    (h : QW ops C Q rest (a.put o.dst v)) : QW ops C Q (o :: rest) a := ⟨q_val v hw (fun W hW => hv a.eval (fun _ => rfl) (fun _ => rfl) (slot_eval h0) (slot_eval h1) W hW) h.out⟩
theorem qc2 (n0 n1 : Nat) {x0 x1 : Value} (f : FuncId) (args : Array Value) (v : Value) (hw : Region.wanted o (yielded ops a.tmps) = true) (h0 : a.tmps.toList[n0]? = some x0) (h1 : a.tmps.toList[n1]? = some x1)
    (hv : ∀ ev : Operand → Value, (∀ v, ev (.const v) = v) → (∀ f, ev (.func f) = .func (.func f) #[] #[]) → ev (.tmp n0) = x0 → ev (.tmp n1) = x1 → ∀ W, C W → (execOp ev o).run Try.prog W = .ok (.enter f args) W)
    (hc : ∀ W, C W → Calls Try.prog f args W fun e W' => e = .returned v ∧ C W')
    (h : QW ops C Q rest (a.put o.dst v)) : QW ops C Q (o :: rest) a := ⟨q_call f args v hw (fun W hW => hv a.eval (fun _ => rfl) (fun _ => rfl) (slot_eval h0) (slot_eval h1) W hW) hc h.out⟩
theorem qv3 (n0 n1 n2 : Nat) {x0 x1 x2 : Value} (v : Value) (hw : Region.wanted o (yielded ops a.tmps) = true) (h0 : a.tmps.toList[n0]? = some x0) (h1 : a.tmps.toList[n1]? = some x1) (h2 : a.tmps.toList[n2]? = some x2)
    (hv : ∀ ev : Operand → Value, (∀ v, ev (.const v) = v) → (∀ f, ev (.func f) = .func (.func f) #[] #[]) → ev (.tmp n0) = x0 → ev (.tmp n1) = x1 → ev (.tmp n2) = x2 → ∀ W, C W → (execOp ev o).run Try.prog W = .ok (.value v) W)
    (h : QW ops C Q rest (a.put o.dst v)) : QW ops C Q (o :: rest) a := ⟨q_val v hw (fun W hW => hv a.eval (fun _ => rfl) (fun _ => rfl) (slot_eval h0) (slot_eval h1) (slot_eval h2) W hW) h.out⟩
theorem qc3 (n0 n1 n2 : Nat) {x0 x1 x2 : Value} (f : FuncId) (args : Array Value) (v : Value) (hw : Region.wanted o (yielded ops a.tmps) = true) (h0 : a.tmps.toList[n0]? = some x0) (h1 : a.tmps.toList[n1]? = some x1) (h2 : a.tmps.toList[n2]? = some x2)
    (hv : ∀ ev : Operand → Value, (∀ v, ev (.const v) = v) → (∀ f, ev (.func f) = .func (.func f) #[] #[]) → ev (.tmp n0) = x0 → ev (.tmp n1) = x1 → ev (.tmp n2) = x2 → ∀ W, C W → (execOp ev o).run Try.prog W = .ok (.enter f args) W)
    (hc : ∀ W, C W → Calls Try.prog f args W fun e W' => e = .returned v ∧ C W')
    (h : QW ops C Q rest (a.put o.dst v)) : QW ops C Q (o :: rest) a := ⟨q_call f args v hw (fun W hW => hv a.eval (fun _ => rfl) (fun _ => rfl) (slot_eval h0) (slot_eval h1) (slot_eval h2) W hW) hc h.out⟩
end
theorem wp_qw {id : Nat} {Q : Exit → Act → World → Prop} {a : Act} {w : World} {l : List Oper} (hB : Region.lexB .any l.toArray = true)
    (h : QW l.toArray (Bel w) (fun a' => ∀ w', Bel w w' → Q .normal a' w') l a) : (Code.region id l.toArray true).wp Try.prog Q a w := wp_bel hB h.out
theorem wpList_qw (N : Nat) {ops : Array Oper} {l : List Oper} {o : Oper} {Q : Exit → Act → World → Prop} {a : Act} {w : World} (hN : o.dst = some N)
    (h : QW ops (Bel w) (fun a' => ∀ w', Bel w w' → Q .normal a' w') (o :: l) a) : wpList Try.prog ops Q (o :: l) a w := wpList_bel N hN h.out

/-- Block g is just these cells, none of them frozen. -/
def Bk (w : World) (g : Nat) (cs : Array Value) (t : TypeId) : Prop := w.heap[g]? = some (.cells cs t (0, 0))
section
variable {w w' : World} {g : Nat} {cs : Array Value} {t : TypeId}
theorem Bk.lt (h : Bk w g cs t) : g < w.heap.size := (Array.getElem?_eq_some_iff.1 h).1
theorem Bk.cell (h : Bk w g cs t) (i : Nat) : w.cell? ⟨g, i, none⟩ = cs[i]? := by unfold Bk at h; simp [World.cell?, h]
theorem Bk.free (h : Bk w g cs t) (i : Nat) : w.frozen? ⟨g, i, none⟩ = false := by unfold Bk at h; simp [World.frozen?, h]
theorem Bk.new (w : World) (cs : Array Value) (t : TypeId) : Bk (w.alloc (.cells cs t)) w.heap.size cs t := by
  show (w.heap.push _)[w.heap.size]? = _
  simp
theorem Bk.alloc (h : Bk w g cs t) (o : Obj) : Bk (w.alloc o) g cs t := (Below.heap_alloc w o g h.lt).trans h
theorem Bk.drew (h : Bk w g cs t) : Bk w.drew g cs t := h
theorem Bk.drewN (h : Bk w g cs t) (n : Nat) : Bk (w.drewN n) g cs t := h
theorem Bk.set (h : Bk w g cs t) (i : Nat) (u : Value) : Bk (w.setCell ⟨g, i, none⟩ u) g (cs.setIfInBounds i u) t := by
  unfold Bk at h ⊢
  simp [World.setCell, Array.getElem?_modify, h]
theorem Bk.far (h : Bk w g cs t) {p : Addr} (hp : g ≠ p.block) (u : Value) : Bk (w.setCell p u) g cs t := (Below.heap_setCell w p u g hp).trans h
theorem Bk.below {B : Nat} (h : Bk w g cs t) (hb : Below B w w') (hg : g < B) : Bk w' g cs t := (hb.block g hg).trans h
theorem Bk.bel (h : Bk w g cs t) (hb : Below w.heap.size w w') : Bk w' g cs t := h.below hb h.lt
theorem Bk.grown {row : Option Nat} (h : Bk w g cs t) (hb : w.grownBy w' row) (hg : some g ≠ row) : Bk w' g cs t := (hb.block g h.lt hg).trans h
end
theorem grown_bel {w w' : World} {row : Option Nat} (h : Below w.heap.size w w') : w.grownBy w' row := ⟨h.os, h.tape, h.output, h.size, fun k hk _ => h.block k hk⟩
theorem grown_set {w w' : World} {g : Nat} (h : w.grownBy w' (some g)) (i : Nat) (u : Value) : w.grownBy (w'.setCell ⟨g, i, none⟩ u) (some g) :=
  ⟨h.os, h.tape, h.output, by simpa [World.setCell] using h.size, fun k hk hne => (Below.heap_setCell w' _ u k (fun e => hne (by rw [e]))).trans (h.block k hk hne)⟩
theorem grown_setNew {w w' : World} {row : Option Nat} (h : w.grownBy w' row) {p : Addr} (hp : w.heap.size ≤ p.block) (u : Value) : w.grownBy (w'.setCell p u) row :=
  ⟨h.os, h.tape, h.output, by simpa [World.setCell] using h.size, fun k hk hne => (Below.heap_setCell w' _ u k (by omega)).trans (h.block k hk hne)⟩
theorem grown_alloc {w w' : World} {row : Option Nat} (h : w.grownBy w' row) (o : Obj) : w.grownBy (w'.alloc o) row :=
  ⟨h.os, h.tape, h.output, by have := h.size; simp; omega, fun k hk hne => (Below.heap_alloc w' o k (Nat.lt_of_lt_of_le hk h.size)).trans (h.block k hk hne)⟩
theorem grown_drew {w w' : World} {row : Option Nat} (h : w.grownBy w' row) : w.grownBy w'.drew row := ⟨h.os, h.tape, h.output, h.size, h.block⟩
theorem grown_trans {w w1 w2 : World} {row : Option Nat} (h : w.grownBy w1 row) (k : w1.grownBy w2 row) : w.grownBy w2 row :=
  ⟨k.os.trans h.os, k.tape.trans h.tape, k.output.trans h.output, Nat.le_trans h.size k.size, fun i hi hne => (k.block i (Nat.lt_of_lt_of_le hi h.size) hne).trans (h.block i hi hne)⟩
theorem bel_grown {B : Nat} {w w1 w2 : World} {g : Nat} (h : Below B w w1) (k : w1.grownBy w2 (some g)) (hB : B ≤ w1.heap.size) (hg : B ≤ g) : Below B w w2 :=
  h.grown k hB (fun j e => by injection e with e; omega)


section
variable {P : Program} {ops : Array Oper}
/-- Operation o, in whatever frame like this one, yields v and comes to a world of R. -/
def Gives (P : Program) (o : Oper) (a : Act) (W : World) (v : Value) (R : World → Prop) : Prop :=
  (∃ W', (execOp a.eval o).run P W = .ok (.value v) W' ∧ R W') ∨ (∃ f args, (execOp a.eval o).run P W = .ok (.enter f args) W ∧ Calls P f args W fun e W' => e = .returned v ∧ R W')
theorem Gives.wp {o : Oper} {a : Act} {W : World} {v : Value} {R : World → Prop} {K : Act → World → Prop} {Q : Exit → Act → World → Prop} (h : Gives P o a W v R)
    (hK : ∀ W', R W' → K (a.put o.dst v) W') : o.wp P a W K Q := by
  unfold Oper.wp
  rcases h with ⟨W', e, hR⟩ | ⟨f, args, e, hc⟩
  · rw [e]; exact hK _ hR
  · rw [e]
    exact hc.mono fun e w'' ⟨h1, h2⟩ => by subst h1; exact hK _ h2
theorem Gives.put {o : Oper} {a : Act} {W : World} {v : Value} {R : World → Prop} (h : Gives P o a W v R) (hs : ∀ cs b, o.op ≠ .select cs b) {t : Tmp} (ht : t ∉ o.looksAt ops) (u : Value) :
    Gives P o (a.put (some t) u) W v R := by
  unfold Gives
  rw [execOp_put (ops := ops) o hs a (some t) u (fun d hd => by injection hd with hd; subst hd; exact ht)]
  exact h
theorem Gives.mono {o : Oper} {a : Act} {W : World} {v : Value} {R R' : World → Prop} (h : Gives P o a W v R) (hR : ∀ W', R W' → R' W') : Gives P o a W v R' := by
  rcases h with ⟨W', e, h1⟩ | ⟨f, args, e, hc⟩
  · exact .inl ⟨W', e, hR _ h1⟩
  · exact .inr ⟨f, args, e, hc.mono fun e w'' ⟨h1, h2⟩ => ⟨h1, hR _ h2⟩⟩

/-- The region's shape: a chain of forced operations, and one (number j, slot t) that may come up at any time among them. -/
def lateB (ops : Array Oper) (j : Nat) (t : Tmp) : List Nat → Array Bool → Bool
  | [], listed => Region.ready .any ops listed == [j]
  | k :: ks, listed => (Region.ready .any ops listed).all (fun i => i == k || i == j) && (Region.ready .any ops listed).contains k && (Region.ready .any ops (listed.setIfInBounds j true) == [k]) && k != j &&
      (match ops[k]? with
       | some o => !(o.looksAt ops).contains t && o.dst != some t
       | none => false) && lateB ops j t ks (listed.setIfInBounds k true)
def listedEnd (ks : List Nat) (listed : Array Bool) : Array Bool := ks.foldl (fun l k => l.setIfInBounds k true) listed
theorem listedEnd_set {j : Nat} : ∀ (ks : List Nat) (listed : Array Bool), (∀ k ∈ ks, k ≠ j) → listedEnd ks (listed.setIfInBounds j true) = (listedEnd ks listed).setIfInBounds j true
  | [], _, _ => rfl
  | k :: ks, listed, h => by
    show listedEnd ks ((listed.setIfInBounds j true).setIfInBounds k true) = (listedEnd ks (listed.setIfInBounds k true)).setIfInBounds j true
    rw [Array.setIfInBounds_comm _ _ (Ne.symm (h k (by simp))), listedEnd_set ks _ (fun x hx => h x (by simp [hx]))]

/-- What a new block g had is kept: those from B on that were there are as they were. -/
def KeepsNew (B : Nat) (W W' : World) : Prop := W.heap.size ≤ W'.heap.size ∧ ∀ b, B ≤ b → b < W.heap.size → W'.heap[b]? = W.heap[b]?

/-- The chain's walk, in the order of the text; I: what is known of the world (it must bear an alloc). Shut. -/
def lateWalk (P : Program) (ops : Array Oper) (B : Nat) (Q : Act → (World → Prop) → Prop) : List Nat → Act → (World → Prop) → Prop
  | [], a, I => Q a I
  | k :: ks, a, I => ∃ o v I', ops[k]? = some o ∧ Region.wanted o (yielded ops a.tmps) = true ∧ (∀ W o, I' W → I' (W.alloc o)) ∧
      (∀ W, I W → Gives P o a W v (fun W' => I' W' ∧ KeepsNew B W W')) ∧ lateWalk P ops B Q ks (a.put o.dst v) I'
structure LW (P : Program) (ops : Array Oper) (B : Nat) (Q : Act → (World → Prop) → Prop) (ks : List Nat) (a : Act) (I : World → Prop) : Prop where
  out : lateWalk P ops B Q ks a I
/-- The walk through all orders, shut. -/
structure AW (P : Program) (ops : Array Oper) (Q : Exit → Act → World → Prop) (fuel : Nat) (listed : Array Bool) (a : Act) (w : World) : Prop where
  out : wpAny P .any ops Q fuel listed a w

theorem late_done {j : Nat} {t : Tmp} {Q : Act → (World → Prop) → Prop} {Q' : Exit → Act → World → Prop} {B m : Nat} {g : Nat} {obj : Obj} (hns : Region.noSelect ops = true) (hg : B ≤ g) :
    ∀ (ks : List Nat) (listed : Array Bool) (a : Act) (I : World → Prop) (W : World), lateB ops j t ks listed = true → lateWalk P ops B Q ks a I →
    (∀ a I, Q a I → ∀ W, I W → W.heap[g]? = some obj → AW P ops Q' m (listedEnd ks (listed.setIfInBounds j true)) (a.put (some t) (.pointer (some ⟨g, 0, none⟩))) W) →
    I W → W.heap[g]? = some obj → AW P ops Q' (m + ks.length) (listed.setIfInBounds j true) (a.put (some t) (.pointer (some ⟨g, 0, none⟩))) W
  | [], listed, a, I, W, _, hw, hend, hI, hgo => hend a I (show Q a I from hw) W hI hgo
  | k :: ks, listed, a, I, W, hB, hw, hend, hI, hgo => by
    simp only [lateB, Bool.and_eq_true, beq_iff_eq, bne_iff_ne, ne_eq] at hB
    obtain ⟨⟨⟨⟨⟨hall, hcont⟩, hr⟩, hkj⟩, hap⟩, hB'⟩ := hB
    obtain ⟨o, v, I', ho, hwant, hcl, hgives, hrest⟩ := hw
    rw [ho] at hap
    simp only [Bool.and_eq_true, Bool.not_eq_true', bne_iff_ne, ne_eq] at hap
    have ht : t ∉ o.looksAt ops := by have := hap.1; simpa using this
    refine ⟨wpAny_all (rs := [k]) hr (by simp) fun i hi => ?_⟩
    obtain rfl : i = k := by simpa using hi
    unfold wpOp
    rw [ho]
    have hwant' : Region.wanted o (yielded ops (a.put (some t) (.pointer (some ⟨g, 0, none⟩))).tmps) = true := by
      rw [wanted_put o a (some t) _ (fun d hd => by injection hd with hd; subst hd; exact ht)]; exact hwant
    simp only [hwant', if_true]
    refine .inl (((hgives W hI).put (ops := ops) (fun cs b => Region.noSelect_spec hns i o cs b ho) ht _).wp fun W' hW' => ?_)
    have hlt : g < W.heap.size := (Array.getElem?_eq_some_iff.1 hgo).1
    rw [Act.put_comm a _ v (fun d hd => by injection hd with hd; subst hd; exact fun e => hap.2 e), Array.setIfInBounds_comm _ _ (Ne.symm hkj)]
    exact (late_done hns hg ks (listed.setIfInBounds i true) (a.put o.dst v) I' W' hB' hrest (fun a I hQ W hI hgo => by
      have := hend a I hQ W hI hgo
      rw [show listedEnd (i :: ks) (listed.setIfInBounds j true) = listedEnd ks ((listed.setIfInBounds j true).setIfInBounds i true) from rfl, Array.setIfInBounds_comm _ _ (Ne.symm hkj)] at this
      exact this) hW'.1 ((hW'.2.2 g hg hlt).trans hgo)).out

theorem late_all {j : Nat} {t : Tmp} {oj : Oper} {Q : Act → (World → Prop) → Prop} {Q' : Exit → Act → World → Prop} {B m : Nat} {obj : Obj} (hns : Region.noSelect ops = true)
    (hj : ops[j]? = some oj) (hjd : oj.dst = some t) (hjg : oj.guard = none) (hja : ∀ (a : Act) W, (execOp a.eval oj).run P W = .ok (.value (.pointer (some ⟨W.heap.size, 0, none⟩))) (W.alloc obj)) :
    ∀ (ks : List Nat) (listed : Array Bool) (a : Act) (I : World → Prop) (W : World), (∀ W o, I W → I (W.alloc o)) → lateB ops j t ks listed = true → lateWalk P ops B Q ks a I →
    (∀ a I, Q a I → ∀ g, B ≤ g → ∀ W, I W → W.heap[g]? = some obj → AW P ops Q' m (listedEnd ks (listed.setIfInBounds j true)) (a.put (some t) (.pointer (some ⟨g, 0, none⟩))) W) →
    I W → B ≤ W.heap.size → AW P ops Q' (m + ks.length + 1) listed a W := by
  have hwant : ∀ y, Region.wanted oj y = true := fun y => by unfold Region.wanted; rw [hjg]
  have hnew : ∀ (W : World), (W.alloc obj).heap[W.heap.size]? = some obj := fun W => by
    show (W.heap.push _)[W.heap.size]? = _
    simp
  intro ks
  induction ks with
  | nil =>
    intro listed a I W hcl hB hw hend hI hBs
    simp only [lateB, beq_iff_eq] at hB
    refine ⟨wpAny_all (rs := [j]) hB (by simp) fun i hi => ?_⟩
    obtain rfl : i = j := by simpa using hi
    unfold wpOp
    rw [hj]
    simp only [hwant, if_true]
    refine .inl ?_
    unfold Oper.wp
    rw [hja, Oper.upon_value, hjd]
    exact (hend a I hw _ hBs _ (hcl W _ hI) (hnew W)).out
  | cons k ks ih =>
    intro listed a I W hcl hB hw hend hI hBs
    have hB0 := hB
    have hw0 := hw
    simp only [lateB, Bool.and_eq_true, beq_iff_eq, bne_iff_ne, ne_eq] at hB
    obtain ⟨⟨⟨⟨⟨hall, hcont⟩, hr⟩, hkj⟩, hap⟩, hB'⟩ := hB
    obtain ⟨o, v, I', ho, hwant', hcl', hgives, hrest⟩ := hw
    refine ⟨wpAny_all (rs := Region.ready .any ops listed) rfl (fun h0 => by rw [h0] at hcont; simp at hcont) fun i hi => ?_⟩
    have hi2 : i = k ∨ i = j := by
      have := List.all_eq_true.1 hall i hi
      simpa using this
    rcases hi2 with rfl | rfl
    · unfold wpOp
      rw [ho]
      simp only [hwant', if_true]
      refine .inl ((hgives W hI).wp fun W' hW' => ?_)
      exact (ih (listed.setIfInBounds i true) (a.put o.dst v) I' W' hcl' hB' hrest (fun a I hQ g hg W hI hgo => by
        have := hend a I hQ g hg W hI hgo
        rw [show listedEnd (i :: ks) (listed.setIfInBounds j true) = listedEnd ks ((listed.setIfInBounds j true).setIfInBounds i true) from rfl, Array.setIfInBounds_comm _ _ (Ne.symm hkj)] at this
        exact this) hW'.1 (Nat.le_trans hBs hW'.2.1)).out
    · unfold wpOp
      rw [hj]
      simp only [hwant, if_true]
      refine .inl ?_
      unfold Oper.wp
      rw [hja, Oper.upon_value, hjd]
      exact (late_done hns hBs (k :: ks) listed a I _ hB0 hw0 (fun a I hQ W hI hgo => hend a I hQ _ hBs W hI hgo) (hcl W _ hI) (hnew W)).out
/-- A region that draws its order: a chain, a free alloc, a tail. -/
theorem wp_late {id : Nat} (j : Nat) (t : Tmp) (ks : List Nat) (m : Nat) {oj : Oper} {Q : Act → (World → Prop) → Prop} {Q' : Exit → Act → World → Prop} {obj : Obj} {a : Act} {w : World} (I : World → Prop)
    (hm : P.follows .mixedOrders = true) (hns : Region.noSelect ops = true) (hj : ops[j]? = some oj) (hjd : oj.dst = some t) (hjg : oj.guard = none)
    (hja : ∀ (a : Act) W, (execOp a.eval oj).run P W = .ok (.value (.pointer (some ⟨W.heap.size, 0, none⟩))) (W.alloc obj)) (hcl : ∀ W o, I W → I (W.alloc o)) (hI : I w.drew)
    (hsz : m + ks.length + 1 = ops.size) (hB : lateB ops j t ks (Array.replicate ops.size false) = true)
    (hend : ∀ a I, Q a I → ∀ g, w.heap.size ≤ g → ∀ W, I W → W.heap[g]? = some obj → AW P ops Q' m (listedEnd ks ((Array.replicate ops.size false).setIfInBounds j true)) (a.put (some t) (.pointer (some ⟨g, 0, none⟩))) W)
    (h : LW P ops w.heap.size Q ks a I) : (Code.region id ops true).wp P Q' a w := by
  refine wp_region_any hm ?_
  have := (late_all hns hj hjd hjg hja ks (Array.replicate ops.size false) a I w.drew hcl hB h.out hend hI (Nat.le_refl _)).out
  rw [hsz] at this
  exact this
end



section
variable {ops : Array Oper} {Q : Act → (World → Prop) → Prop} {Q' : Exit → Act → World → Prop} {a : Act} {o : Oper} {k : Nat} {ks : List Nat} {w W : World} {listed : Array Bool} {fuel : Nat}
theorem Bel.alloc {w W : World} (h : Bel w W) (o : Obj) : Bel w (W.alloc o) := Below.alloc h (h.size) o
theorem Bel.keeps {w W W' : World} (h : Bel w W) (hb : Below W.heap.size W W') : KeepsNew w.heap.size W W' := ⟨hb.size, fun b _ hb' => hb.block b hb'⟩
theorem lw_nil (h : Q a (Bel w)) : LW Try.prog ops w.heap.size Q [] a (Bel w) := ⟨h⟩
theorem lw_val (v : Value) (ho : ops[k]? = some o) (hw : Region.wanted o (yielded ops a.tmps) = true) (hv : ∀ W, Bel w W → (execOp a.eval o).run Try.prog W = .ok (.value v) W)
    (h : LW Try.prog ops w.heap.size Q ks (a.put o.dst v) (Bel w)) : LW Try.prog ops w.heap.size Q (k :: ks) a (Bel w) :=
  ⟨⟨o, v, Bel w, ho, hw, fun _ o h => h.alloc o, fun W hW => .inl ⟨W, hv W hW, hW, hW.keeps (Below.refl _ _)⟩, h.out⟩⟩
theorem lw_call (f : FuncId) (args : Array Value) (v : Value) (ho : ops[k]? = some o) (hw : Region.wanted o (yielded ops a.tmps) = true) (hv : ∀ W, Bel w W → (execOp a.eval o).run Try.prog W = .ok (.enter f args) W)
    (hc : ∀ W, Bel w W → Calls Try.prog f args W fun e W' => e = .returned v ∧ Below W.heap.size W W')
    (h : LW Try.prog ops w.heap.size Q ks (a.put o.dst v) (Bel w)) : LW Try.prog ops w.heap.size Q (k :: ks) a (Bel w) :=
  ⟨⟨o, v, Bel w, ho, hw, fun _ o h => h.alloc o, fun W hW => .inr ⟨f, args, hv W hW, (hc W hW).mono fun e W' ⟨h1, h2⟩ => ⟨h1, hW.step h2, hW.keeps h2⟩⟩, h.out⟩⟩
theorem aw_val (i : Nat) (v : Value) {W' : World} (hr : Region.ready .any ops listed = [i]) (ho : ops[i]? = some o) (hw : Region.wanted o (yielded ops a.tmps) = true)
    (hv : (execOp a.eval o).run Try.prog W = .ok (.value v) W') (h : AW Try.prog ops Q' fuel (listed.setIfInBounds i true) (a.put o.dst v) W') : AW Try.prog ops Q' (fuel + 1) listed a W := by
  refine ⟨wpAny_all (rs := [i]) hr (by simp) fun j hj => ?_⟩
  obtain rfl : j = i := by simpa using hj
  unfold wpOp
  rw [ho]
  simp only [hw, if_true]
  refine .inl ?_
  unfold Oper.wp
  rw [hv, Oper.upon_value]
  exact h.out
theorem aw_done (hr : Region.ready .any ops listed = []) (h : Q' .normal a W) : AW Try.prog ops Q' fuel listed a W := ⟨wpAny_done hr h _⟩

theorem lwv0 (v : Value) (ho : ops[k]? = some o) (hw : Region.wanted o (yielded ops a.tmps) = true) 
    (hv : ∀ ev : Operand → Value, (∀ v, ev (.const v) = v) → (∀ f, ev (.func f) = .func (.func f) #[] #[]) → ∀ W, Bel w W → (execOp ev o).run Try.prog W = .ok (.value v) W)
    (h : LW Try.prog ops w.heap.size Q ks (a.put o.dst v) (Bel w)) : LW Try.prog ops w.heap.size Q (k :: ks) a (Bel w) :=
  lw_val v ho hw (fun W hW => hv a.eval (fun _ => rfl) (fun _ => rfl)  W hW) h
theorem lwc0 (f : FuncId) (args : Array Value) (v : Value) (ho : ops[k]? = some o) (hw : Region.wanted o (yielded ops a.tmps) = true) 
    (hv : ∀ ev : Operand → Value, (∀ v, ev (.const v) = v) → (∀ f, ev (.func f) = .func (.func f) #[] #[]) → ∀ W, Bel w W → (execOp ev o).run Try.prog W = .ok (.enter f args) W)
    (hc : ∀ W, Bel w W → Calls Try.prog f args W fun e W' => e = .returned v ∧ Below W.heap.size W W')
    (h : LW Try.prog ops w.heap.size Q ks (a.put o.dst v) (Bel w)) : LW Try.prog ops w.heap.size Q (k :: ks) a (Bel w) :=
  lw_call f args v ho hw (fun W hW => hv a.eval (fun _ => rfl) (fun _ => rfl)  W hW) hc h
theorem awv0 (i : Nat) (v : Value) {W' : World} (hr : Region.ready .any ops listed = [i]) (ho : ops[i]? = some o) (hw : Region.wanted o (yielded ops a.tmps) = true) 
    (hv : ∀ ev : Operand → Value, (∀ v, ev (.const v) = v) → (∀ f, ev (.func f) = .func (.func f) #[] #[]) → (execOp ev o).run Try.prog W = .ok (.value v) W')
    (h : AW Try.prog ops Q' fuel (listed.setIfInBounds i true) (a.put o.dst v) W') : AW Try.prog ops Q' (fuel + 1) listed a W :=
  aw_val i v hr ho hw (hv a.eval (fun _ => rfl) (fun _ => rfl) ) h

theorem lwv1 (n0 : Nat) {x0 : Value} (v : Value) (ho : ops[k]? = some o) (hw : Region.wanted o (yielded ops a.tmps) = true) (h0 : a.tmps.toList[n0]? = some x0)
    (hv : ∀ ev : Operand → Value, (∀ v, ev (.const v) = v) → (∀ f, ev (.func f) = .func (.func f) #[] #[]) → ev (.tmp n0) = x0 → ∀ W, Bel w W → (execOp ev o).run Try.prog W = .ok (.value v) W)
    (h : LW Try.prog ops w.heap.size Q ks (a.put o.dst v) (Bel w)) : LW Try.prog ops w.heap.size Q (k :: ks) a (Bel w) :=
  lw_val v ho hw (fun W hW => hv a.eval (fun _ => rfl) (fun _ => rfl) (slot_eval h0) W hW) h
theorem lwc1 (n0 : Nat) {x0 : Value} (f : FuncId) (args : Array Value) (v : Value) (ho : ops[k]? = some o) (hw : Region.wanted o (yielded ops a.tmps) = true) (h0 : a.tmps.toList[n0]? = some x0)
    (hv : ∀ ev : Operand → Value, (∀ v, ev (.const v) = v) → (∀ f, ev (.func f) = .func (.func f) #[] #[]) → ev (.tmp n0) = x0 → ∀ W, Bel w W → (execOp ev o).run Try.prog W = .ok (.enter f args) W)
    (hc : ∀ W, Bel w W → Calls Try.prog f args W fun e W' => e = .returned v ∧ Below W.heap.size W W')
    (h : LW Try.prog ops w.heap.size Q ks (a.put o.dst v) (Bel w)) : LW Try.prog ops w.heap.size Q (k :: ks) a (Bel w) :=
  lw_call f args v ho hw (fun W hW => hv a.eval (fun _ => rfl) (fun _ => rfl) (slot_eval h0) W hW) hc h
theorem awv1 (n0 : Nat) {x0 : Value} (i : Nat) (v : Value) {W' : World} (hr : Region.ready .any ops listed = [i]) (ho : ops[i]? = some o) (hw : Region.wanted o (yielded ops a.tmps) = true) (h0 : a.tmps.toList[n0]? = some x0)
    (hv : ∀ ev : Operand → Value, (∀ v, ev (.const v) = v) → (∀ f, ev (.func f) = .func (.func f) #[] #[]) → ev (.tmp n0) = x0 → (execOp ev o).run Try.prog W = .ok (.value v) W')
    (h : AW Try.prog ops Q' fuel (listed.setIfInBounds i true) (a.put o.dst v) W') : AW Try.prog ops Q' (fuel + 1) listed a W :=
  aw_val i v hr ho hw (hv a.eval (fun _ => rfl) (fun _ => rfl) (slot_eval h0)) h

theorem lwv2 (n0 n1 : Nat) {x0 x1 : Value} (v : Value) (ho : ops[k]? = some o) (hw : Region.wanted o (yielded ops a.tmps) = true) (h0 : a.tmps.toList[n0]? = some x0) (h1 : a.tmps.toList[n1]? = some x1)
    (hv : ∀ ev : Operand → Value, (∀ v, ev (.const v) = v) → (∀ f, ev (.func f) = .func (.func f) #[] #[]) → ev (.tmp n0) = x0 → ev (.tmp n1) = x1 → ∀ W, Bel w W → (execOp ev o).run Try.prog W = .ok (.value v) W)
    (h : LW Try.prog ops w.heap.size Q ks (a.put o.dst v) (Bel w)) : LW Try.prog ops w.heap.size Q (k :: ks) a (Bel w) :=
  lw_val v ho hw (fun W hW => hv a.eval (fun _ => rfl) (fun _ => rfl) (slot_eval h0) (slot_eval h1) W hW) h
theorem lwc2 (n0 n1 : Nat) {x0 x1 : Value} (f : FuncId) (args : Array Value) (v : Value) (ho : ops[k]? = some o) (hw : Region.wanted o (yielded ops a.tmps) = true) (h0 : a.tmps.toList[n0]? = some x0) (h1 : a.tmps.toList[n1]? = some x1)
    (hv : ∀ ev : Operand → Value, (∀ v, ev (.const v) = v) → (∀ f, ev (.func f) = .func (.func f) #[] #[]) → ev (.tmp n0) = x0 → ev (.tmp n1) = x1 → ∀ W, Bel w W → (execOp ev o).run Try.prog W = .ok (.enter f args) W)
    (hc : ∀ W, Bel w W → Calls Try.prog f args W fun e W' => e = .returned v ∧ Below W.heap.size W W')
    (h : LW Try.prog ops w.heap.size Q ks (a.put o.dst v) (Bel w)) : LW Try.prog ops w.heap.size Q (k :: ks) a (Bel w) :=
  lw_call f args v ho hw (fun W hW => hv a.eval (fun _ => rfl) (fun _ => rfl) (slot_eval h0) (slot_eval h1) W hW) hc h
theorem awv2 (n0 n1 : Nat) {x0 x1 : Value} (i : Nat) (v : Value) {W' : World} (hr : Region.ready .any ops listed = [i]) (ho : ops[i]? = some o) (hw : Region.wanted o (yielded ops a.tmps) = true) (h0 : a.tmps.toList[n0]? = some x0) (h1 : a.tmps.toList[n1]? = some x1)
    (hv : ∀ ev : Operand → Value, (∀ v, ev (.const v) = v) → (∀ f, ev (.func f) = .func (.func f) #[] #[]) → ev (.tmp n0) = x0 → ev (.tmp n1) = x1 → (execOp ev o).run Try.prog W = .ok (.value v) W')
    (h : AW Try.prog ops Q' fuel (listed.setIfInBounds i true) (a.put o.dst v) W') : AW Try.prog ops Q' (fuel + 1) listed a W :=
  aw_val i v hr ho hw (hv a.eval (fun _ => rfl) (fun _ => rfl) (slot_eval h0) (slot_eval h1)) h

theorem lwv3 (n0 n1 n2 : Nat) {x0 x1 x2 : Value} (v : Value) (ho : ops[k]? = some o) (hw : Region.wanted o (yielded ops a.tmps) = true) (h0 : a.tmps.toList[n0]? = some x0) (h1 : a.tmps.toList[n1]? = some x1) (h2 : a.tmps.toList[n2]? = some x2)
    (hv : ∀ ev : Operand → Value, (∀ v, ev (.const v) = v) → (∀ f, ev (.func f) = .func (.func f) #[] #[]) → ev (.tmp n0) = x0 → ev (.tmp n1) = x1 → ev (.tmp n2) = x2 → ∀ W, Bel w W → (execOp ev o).run Try.prog W = .ok (.value v) W)
    (h : LW Try.prog ops w.heap.size Q ks (a.put o.dst v) (Bel w)) : LW Try.prog ops w.heap.size Q (k :: ks) a (Bel w) :=
  lw_val v ho hw (fun W hW => hv a.eval (fun _ => rfl) (fun _ => rfl) (slot_eval h0) (slot_eval h1) (slot_eval h2) W hW) h
theorem lwc3 (n0 n1 n2 : Nat) {x0 x1 x2 : Value} (f : FuncId) (args : Array Value) (v : Value) (ho : ops[k]? = some o) (hw : Region.wanted o (yielded ops a.tmps) = true) (h0 : a.tmps.toList[n0]? = some x0) (h1 : a.tmps.toList[n1]? = some x1) (h2 : a.tmps.toList[n2]? = some x2)
    (hv : ∀ ev : Operand → Value, (∀ v, ev (.const v) = v) → (∀ f, ev (.func f) = .func (.func f) #[] #[]) → ev (.tmp n0) = x0 → ev (.tmp n1) = x1 → ev (.tmp n2) = x2 → ∀ W, Bel w W → (execOp ev o).run Try.prog W = .ok (.enter f args) W)
    (hc : ∀ W, Bel w W → Calls Try.prog f args W fun e W' => e = .returned v ∧ Below W.heap.size W W')
    (h : LW Try.prog ops w.heap.size Q ks (a.put o.dst v) (Bel w)) : LW Try.prog ops w.heap.size Q (k :: ks) a (Bel w) :=
  lw_call f args v ho hw (fun W hW => hv a.eval (fun _ => rfl) (fun _ => rfl) (slot_eval h0) (slot_eval h1) (slot_eval h2) W hW) hc h
theorem awv3 (n0 n1 n2 : Nat) {x0 x1 x2 : Value} (i : Nat) (v : Value) {W' : World} (hr : Region.ready .any ops listed = [i]) (ho : ops[i]? = some o) (hw : Region.wanted o (yielded ops a.tmps) = true) (h0 : a.tmps.toList[n0]? = some x0) (h1 : a.tmps.toList[n1]? = some x1) (h2 : a.tmps.toList[n2]? = some x2)
    (hv : ∀ ev : Operand → Value, (∀ v, ev (.const v) = v) → (∀ f, ev (.func f) = .func (.func f) #[] #[]) → ev (.tmp n0) = x0 → ev (.tmp n1) = x1 → ev (.tmp n2) = x2 → (execOp ev o).run Try.prog W = .ok (.value v) W')
    (h : AW Try.prog ops Q' fuel (listed.setIfInBounds i true) (a.put o.dst v) W') : AW Try.prog ops Q' (fuel + 1) listed a W :=
  aw_val i v hr ho hw (hv a.eval (fun _ => rfl) (fun _ => rfl) (slot_eval h0) (slot_eval h1) (slot_eval h2)) h

/-- A region that draws its order: a chain that only makes memory, a free alloc, a tail. -/
theorem wp_free {id : Nat} (j : Nat) (t : Tmp) (ks : List Nat) (m : Nat) {oj : Oper} {obj : Obj} {l : List Oper}
    (hns : Region.noSelect l.toArray = true) (hj : l.toArray[j]? = some oj) (hjd : oj.dst = some t) (hjg : oj.guard = none)
    (hja : ∀ ev : Operand → Value, ∀ W, (execOp ev oj).run Try.prog W = .ok (.value (.pointer (some ⟨W.heap.size, 0, none⟩))) (W.alloc obj))
    (hsz : m + ks.length + 1 = l.toArray.size) (hB : lateB l.toArray j t ks (Array.replicate l.toArray.size false) = true)
    (h : LW Try.prog l.toArray w.heap.size (fun a I => ∀ g, w.heap.size ≤ g → ∀ W, I W → W.heap[g]? = some obj → AW Try.prog l.toArray Q' m (listedEnd ks ((Array.replicate l.toArray.size false).setIfInBounds j true)) (a.put (some t) (.pointer (some ⟨g, 0, none⟩))) W) ks a (Bel w)) :
    (Code.region id l.toArray true).wp Try.prog Q' a w :=
  wp_late j t ks m (Bel w) (by kernel_rfl) hns hj hjd hjg (fun a W => hja a.eval W) (fun _ o h => h.alloc o) ((Bel.refl w).drew) hsz hB (fun a I h => h) h
end



/-- What is ready, one after another. -/
structure AR (ops : Array Oper) (Q : Exit → Act → World → Prop) (fuel : Nat) (listed : Array Bool) (a : Act) (w : World) (rs : List Nat) : Prop where
  out : ∀ i ∈ rs, wpOp Try.prog ops Q i (wpAny Try.prog .any ops Q fuel (listed.setIfInBounds i true)) a w
section
variable {ops : Array Oper} {Q' : Exit → Act → World → Prop} {a : Act} {o : Oper} {i : Nat} {w W : World} {listed : Array Bool} {fuel : Nat} {rs : List Nat}
theorem ar_nil : AR ops Q' fuel listed a W [] := ⟨fun _ h => by cases h⟩
theorem ar_cons (h : wpOp Try.prog ops Q' i (wpAny Try.prog .any ops Q' fuel (listed.setIfInBounds i true)) a W) (hs : AR ops Q' fuel listed a W rs) : AR ops Q' fuel listed a W (i :: rs) :=
  ⟨fun j hj => by
    rcases List.mem_cons.1 hj with rfl | hj
    · exact h
    · exact hs.out j hj⟩
theorem aw_all (rs : List Nat) (hr : Region.ready .any ops listed = rs) (hne : rs ≠ []) (h : AR ops Q' fuel listed a W rs) : AW Try.prog ops Q' (fuel + 1) listed a W := ⟨wpAny_all hr hne h.out⟩
theorem wp_aw (n : Nat) (L : Array Bool) {id : Nat} {l : List Oper} (hn : l.length = n) (hL : Array.replicate n false = L) (h : AW Try.prog l.toArray Q' n L a w.drew) : (Code.region id l.toArray true).wp Try.prog Q' a w := by
  subst hn hL
  exact wp_region_any (by kernel_rfl) (by simpa using h.out)
theorem ar_val (v : Value) {W' : World} (ho : ops[i]? = some o) (hw : Region.wanted o (yielded ops a.tmps) = true) (hv : (execOp a.eval o).run Try.prog W = .ok (.value v) W')
    (h : AW Try.prog ops Q' fuel (listed.setIfInBounds i true) (a.put o.dst v) W') (hs : AR ops Q' fuel listed a W rs) : AR ops Q' fuel listed a W (i :: rs) :=
  ar_cons (by
    unfold wpOp
    rw [ho]
    simp only [hw, if_true]
    refine .inl ?_
    unfold Oper.wp
    rw [hv, Oper.upon_value]
    exact h.out) hs
theorem ar_skip {W' : World} (ho : ops[i]? = some o) (hw : Region.wanted o (yielded ops a.tmps) = true) (hv : (execOp a.eval o).run Try.prog W = .ok .skip W')
    (h : AW Try.prog ops Q' fuel (listed.setIfInBounds i true) (a.put o.dst undef) W') (hs : AR ops Q' fuel listed a W rs) : AR ops Q' fuel listed a W (i :: rs) :=
  ar_cons (by
    unfold wpOp
    rw [ho]
    simp only [hw, if_true]
    refine .inl ?_
    unfold Oper.wp
    rw [hv, Oper.upon_skip]
    exact h.out) hs
theorem ar_call (f : FuncId) (args : Array Value) (v : Value) {R : World → Prop} (ho : ops[i]? = some o) (hw : Region.wanted o (yielded ops a.tmps) = true) (hv : (execOp a.eval o).run Try.prog W = .ok (.enter f args) W)
    (hc : Calls Try.prog f args W fun e W' => e = .returned v ∧ R W')
    (h : ∀ W', R W' → AW Try.prog ops Q' fuel (listed.setIfInBounds i true) (a.put o.dst v) W') (hs : AR ops Q' fuel listed a W rs) : AR ops Q' fuel listed a W (i :: rs) :=
  ar_cons (by
    unfold wpOp
    rw [ho]
    simp only [hw, if_true]
    refine .inl ?_
    unfold Oper.wp
    rw [hv, Oper.upon_enter]
    exact hc.mono fun e w'' ⟨h1, h2⟩ => by subst h1; exact (h _ h2).out) hs
/-- An alloc: from here on only that a new block g has the zero value is known. -/
theorem ar_alloc {obj : Obj} (ho : ops[i]? = some o) (hw : Region.wanted o (yielded ops a.tmps) = true) (hv : ∀ ev : Operand → Value, (execOp ev o).run Try.prog W = .ok (.value (.pointer (some ⟨W.heap.size, 0, none⟩))) (W.alloc obj))
    (hW : Bel w W) (h : ∀ g W', w.heap.size ≤ g → Bel w W' → W'.heap[g]? = some obj → AW Try.prog ops Q' fuel (listed.setIfInBounds i true) (a.put o.dst (.pointer (some ⟨g, 0, none⟩))) W')
    (hs : AR ops Q' fuel listed a W rs) : AR ops Q' fuel listed a W (i :: rs) :=
  ar_val _ ho hw (hv a.eval) (h _ _ hW.size (hW.alloc _) (by show (W.heap.push _)[W.heap.size]? = _; simp)) hs
/-- Several ways to one state, its frame the same. -/
theorem aw_join (m : Nat) (L : Array Bool) (F : Act) (W0 : World) {n : Nat} {L0 : Array Bool} (h1 : AW Try.prog ops Q' m L F W0 → AW Try.prog ops Q' n L0 a w) (h2 : AW Try.prog ops Q' m L F W0) : AW Try.prog ops Q' n L0 a w := h1 h2
/-- Several ways to one state. -/
theorem aw_meet (m : Nat) (L : Array Bool) (F : Nat → Act) {C : Nat → World → Prop} {n : Nat} {L0 : Array Bool} (h1 : (∀ g W, C g W → AW Try.prog ops Q' m L (F g) W) → AW Try.prog ops Q' n L0 a w) (h2 : ∀ g W, C g W → AW Try.prog ops Q' m L (F g) W) : AW Try.prog ops Q' n L0 a w := h1 h2

theorem arv0 (v : Value) {W' : World} (ho : ops[i]? = some o) (hw : Region.wanted o (yielded ops a.tmps) = true) 
    (hv : ∀ ev : Operand → Value, (∀ v, ev (.const v) = v) → (∀ f, ev (.func f) = .func (.func f) #[] #[]) → (execOp ev o).run Try.prog W = .ok (.value v) W')
    (h : AW Try.prog ops Q' fuel (listed.setIfInBounds i true) (a.put o.dst v) W') (hs : AR ops Q' fuel listed a W rs) : AR ops Q' fuel listed a W (i :: rs) :=
  ar_val v ho hw (hv a.eval (fun _ => rfl) (fun _ => rfl) ) h hs
theorem ars0 {W' : World} (ho : ops[i]? = some o) (hw : Region.wanted o (yielded ops a.tmps) = true) 
    (hv : ∀ ev : Operand → Value, (∀ v, ev (.const v) = v) → (∀ f, ev (.func f) = .func (.func f) #[] #[]) → (execOp ev o).run Try.prog W = .ok .skip W')
    (h : AW Try.prog ops Q' fuel (listed.setIfInBounds i true) (a.put o.dst undef) W') (hs : AR ops Q' fuel listed a W rs) : AR ops Q' fuel listed a W (i :: rs) :=
  ar_skip ho hw (hv a.eval (fun _ => rfl) (fun _ => rfl) ) h hs
theorem arc0 (f : FuncId) (args : Array Value) (v : Value) {R : World → Prop} (ho : ops[i]? = some o) (hw : Region.wanted o (yielded ops a.tmps) = true) 
    (hv : ∀ ev : Operand → Value, (∀ v, ev (.const v) = v) → (∀ f, ev (.func f) = .func (.func f) #[] #[]) → (execOp ev o).run Try.prog W = .ok (.enter f args) W)
    (hc : Calls Try.prog f args W fun e W' => e = .returned v ∧ R W')
    (h : ∀ W', R W' → AW Try.prog ops Q' fuel (listed.setIfInBounds i true) (a.put o.dst v) W') (hs : AR ops Q' fuel listed a W rs) : AR ops Q' fuel listed a W (i :: rs) :=
  ar_call f args v ho hw (hv a.eval (fun _ => rfl) (fun _ => rfl) ) hc h hs
theorem awt0 (i : Nat) (v : Value) (ho : ops[i]? = some o) (hns : Region.noSelect ops = true) (hf : Region.free .any ops listed i = true) (hr : (Region.ready .any ops listed).contains i = true)
    (hQ : ∀ c a w, Q' (.panic c) (a.put o.dst v) w → Q' (.panic c) a w) (hw : Region.wanted o (yielded ops a.tmps) = true) 
    (hv : ∀ ev : Operand → Value, (∀ v, ev (.const v) = v) → (∀ f, ev (.func f) = .func (.func f) #[] #[]) → ∀ W, (execOp ev o).run Try.prog W = .ok (.value v) W)
    (h : AW Try.prog ops Q' fuel (listed.setIfInBounds i true) (a.put o.dst v) W) : AW Try.prog ops Q' (fuel + 1) listed a W :=
  ⟨wpAny_take ho hns hf hr hQ (.inl ⟨hw, hv a.eval (fun _ => rfl) (fun _ => rfl) ⟩) h.out⟩

theorem arv1 (n0 : Nat) {x0 : Value} (v : Value) {W' : World} (ho : ops[i]? = some o) (hw : Region.wanted o (yielded ops a.tmps) = true) (h0 : a.tmps.toList[n0]? = some x0)
    (hv : ∀ ev : Operand → Value, (∀ v, ev (.const v) = v) → (∀ f, ev (.func f) = .func (.func f) #[] #[]) → ev (.tmp n0) = x0 → (execOp ev o).run Try.prog W = .ok (.value v) W')
    (h : AW Try.prog ops Q' fuel (listed.setIfInBounds i true) (a.put o.dst v) W') (hs : AR ops Q' fuel listed a W rs) : AR ops Q' fuel listed a W (i :: rs) :=
  ar_val v ho hw (hv a.eval (fun _ => rfl) (fun _ => rfl) (slot_eval h0)) h hs
theorem ars1 (n0 : Nat) {x0 : Value} {W' : World} (ho : ops[i]? = some o) (hw : Region.wanted o (yielded ops a.tmps) = true) (h0 : a.tmps.toList[n0]? = some x0)
    (hv : ∀ ev : Operand → Value, (∀ v, ev (.const v) = v) → (∀ f, ev (.func f) = .func (.func f) #[] #[]) → ev (.tmp n0) = x0 → (execOp ev o).run Try.prog W = .ok .skip W')
    (h : AW Try.prog ops Q' fuel (listed.setIfInBounds i true) (a.put o.dst undef) W') (hs : AR ops Q' fuel listed a W rs) : AR ops Q' fuel listed a W (i :: rs) :=
  ar_skip ho hw (hv a.eval (fun _ => rfl) (fun _ => rfl) (slot_eval h0)) h hs
theorem arc1 (n0 : Nat) {x0 : Value} (f : FuncId) (args : Array Value) (v : Value) {R : World → Prop} (ho : ops[i]? = some o) (hw : Region.wanted o (yielded ops a.tmps) = true) (h0 : a.tmps.toList[n0]? = some x0)
    (hv : ∀ ev : Operand → Value, (∀ v, ev (.const v) = v) → (∀ f, ev (.func f) = .func (.func f) #[] #[]) → ev (.tmp n0) = x0 → (execOp ev o).run Try.prog W = .ok (.enter f args) W)
    (hc : Calls Try.prog f args W fun e W' => e = .returned v ∧ R W')
    (h : ∀ W', R W' → AW Try.prog ops Q' fuel (listed.setIfInBounds i true) (a.put o.dst v) W') (hs : AR ops Q' fuel listed a W rs) : AR ops Q' fuel listed a W (i :: rs) :=
  ar_call f args v ho hw (hv a.eval (fun _ => rfl) (fun _ => rfl) (slot_eval h0)) hc h hs
theorem awt1 (i : Nat) (n0 : Nat) {x0 : Value} (v : Value) (ho : ops[i]? = some o) (hns : Region.noSelect ops = true) (hf : Region.free .any ops listed i = true) (hr : (Region.ready .any ops listed).contains i = true)
    (hQ : ∀ c a w, Q' (.panic c) (a.put o.dst v) w → Q' (.panic c) a w) (hw : Region.wanted o (yielded ops a.tmps) = true) (h0 : a.tmps.toList[n0]? = some x0)
    (hv : ∀ ev : Operand → Value, (∀ v, ev (.const v) = v) → (∀ f, ev (.func f) = .func (.func f) #[] #[]) → ev (.tmp n0) = x0 → ∀ W, (execOp ev o).run Try.prog W = .ok (.value v) W)
    (h : AW Try.prog ops Q' fuel (listed.setIfInBounds i true) (a.put o.dst v) W) : AW Try.prog ops Q' (fuel + 1) listed a W :=
  ⟨wpAny_take ho hns hf hr hQ (.inl ⟨hw, hv a.eval (fun _ => rfl) (fun _ => rfl) (slot_eval h0)⟩) h.out⟩

theorem arv2 (n0 n1 : Nat) {x0 x1 : Value} (v : Value) {W' : World} (ho : ops[i]? = some o) (hw : Region.wanted o (yielded ops a.tmps) = true) (h0 : a.tmps.toList[n0]? = some x0) (h1 : a.tmps.toList[n1]? = some x1)
    (hv : ∀ ev : Operand → Value, (∀ v, ev (.const v) = v) → (∀ f, ev (.func f) = .func (.func f) #[] #[]) → ev (.tmp n0) = x0 → ev (.tmp n1) = x1 → (execOp ev o).run Try.prog W = .ok (.value v) W')
    (h : AW Try.prog ops Q' fuel (listed.setIfInBounds i true) (a.put o.dst v) W') (hs : AR ops Q' fuel listed a W rs) : AR ops Q' fuel listed a W (i :: rs) :=
  ar_val v ho hw (hv a.eval (fun _ => rfl) (fun _ => rfl) (slot_eval h0) (slot_eval h1)) h hs
theorem ars2 (n0 n1 : Nat) {x0 x1 : Value} {W' : World} (ho : ops[i]? = some o) (hw : Region.wanted o (yielded ops a.tmps) = true) (h0 : a.tmps.toList[n0]? = some x0) (h1 : a.tmps.toList[n1]? = some x1)
    (hv : ∀ ev : Operand → Value, (∀ v, ev (.const v) = v) → (∀ f, ev (.func f) = .func (.func f) #[] #[]) → ev (.tmp n0) = x0 → ev (.tmp n1) = x1 → (execOp ev o).run Try.prog W = .ok .skip W')
    (h : AW Try.prog ops Q' fuel (listed.setIfInBounds i true) (a.put o.dst undef) W') (hs : AR ops Q' fuel listed a W rs) : AR ops Q' fuel listed a W (i :: rs) :=
  ar_skip ho hw (hv a.eval (fun _ => rfl) (fun _ => rfl) (slot_eval h0) (slot_eval h1)) h hs
theorem arc2 (n0 n1 : Nat) {x0 x1 : Value} (f : FuncId) (args : Array Value) (v : Value) {R : World → Prop} (ho : ops[i]? = some o) (hw : Region.wanted o (yielded ops a.tmps) = true) (h0 : a.tmps.toList[n0]? = some x0) (h1 : a.tmps.toList[n1]? = some x1)
    (hv : ∀ ev : Operand → Value, (∀ v, ev (.const v) = v) → (∀ f, ev (.func f) = .func (.func f) #[] #[]) → ev (.tmp n0) = x0 → ev (.tmp n1) = x1 → (execOp ev o).run Try.prog W = .ok (.enter f args) W)
    (hc : Calls Try.prog f args W fun e W' => e = .returned v ∧ R W')
    (h : ∀ W', R W' → AW Try.prog ops Q' fuel (listed.setIfInBounds i true) (a.put o.dst v) W') (hs : AR ops Q' fuel listed a W rs) : AR ops Q' fuel listed a W (i :: rs) :=
  ar_call f args v ho hw (hv a.eval (fun _ => rfl) (fun _ => rfl) (slot_eval h0) (slot_eval h1)) hc h hs
theorem awt2 (i : Nat) (n0 n1 : Nat) {x0 x1 : Value} (v : Value) (ho : ops[i]? = some o) (hns : Region.noSelect ops = true) (hf : Region.free .any ops listed i = true) (hr : (Region.ready .any ops listed).contains i = true)
    (hQ : ∀ c a w, Q' (.panic c) (a.put o.dst v) w → Q' (.panic c) a w) (hw : Region.wanted o (yielded ops a.tmps) = true) (h0 : a.tmps.toList[n0]? = some x0) (h1 : a.tmps.toList[n1]? = some x1)
    (hv : ∀ ev : Operand → Value, (∀ v, ev (.const v) = v) → (∀ f, ev (.func f) = .func (.func f) #[] #[]) → ev (.tmp n0) = x0 → ev (.tmp n1) = x1 → ∀ W, (execOp ev o).run Try.prog W = .ok (.value v) W)
    (h : AW Try.prog ops Q' fuel (listed.setIfInBounds i true) (a.put o.dst v) W) : AW Try.prog ops Q' (fuel + 1) listed a W :=
  ⟨wpAny_take ho hns hf hr hQ (.inl ⟨hw, hv a.eval (fun _ => rfl) (fun _ => rfl) (slot_eval h0) (slot_eval h1)⟩) h.out⟩

theorem arv3 (n0 n1 n2 : Nat) {x0 x1 x2 : Value} (v : Value) {W' : World} (ho : ops[i]? = some o) (hw : Region.wanted o (yielded ops a.tmps) = true) (h0 : a.tmps.toList[n0]? = some x0) (h1 : a.tmps.toList[n1]? = some x1) (h2 : a.tmps.toList[n2]? = some x2)
    (hv : ∀ ev : Operand → Value, (∀ v, ev (.const v) = v) → (∀ f, ev (.func f) = .func (.func f) #[] #[]) → ev (.tmp n0) = x0 → ev (.tmp n1) = x1 → ev (.tmp n2) = x2 → (execOp ev o).run Try.prog W = .ok (.value v) W')
    (h : AW Try.prog ops Q' fuel (listed.setIfInBounds i true) (a.put o.dst v) W') (hs : AR ops Q' fuel listed a W rs) : AR ops Q' fuel listed a W (i :: rs) :=
  ar_val v ho hw (hv a.eval (fun _ => rfl) (fun _ => rfl) (slot_eval h0) (slot_eval h1) (slot_eval h2)) h hs
theorem ars3 (n0 n1 n2 : Nat) {x0 x1 x2 : Value} {W' : World} (ho : ops[i]? = some o) (hw : Region.wanted o (yielded ops a.tmps) = true) (h0 : a.tmps.toList[n0]? = some x0) (h1 : a.tmps.toList[n1]? = some x1) (h2 : a.tmps.toList[n2]? = some x2)
    (hv : ∀ ev : Operand → Value, (∀ v, ev (.const v) = v) → (∀ f, ev (.func f) = .func (.func f) #[] #[]) → ev (.tmp n0) = x0 → ev (.tmp n1) = x1 → ev (.tmp n2) = x2 → (execOp ev o).run Try.prog W = .ok .skip W')
    (h : AW Try.prog ops Q' fuel (listed.setIfInBounds i true) (a.put o.dst undef) W') (hs : AR ops Q' fuel listed a W rs) : AR ops Q' fuel listed a W (i :: rs) :=
  ar_skip ho hw (hv a.eval (fun _ => rfl) (fun _ => rfl) (slot_eval h0) (slot_eval h1) (slot_eval h2)) h hs
theorem arc3 (n0 n1 n2 : Nat) {x0 x1 x2 : Value} (f : FuncId) (args : Array Value) (v : Value) {R : World → Prop} (ho : ops[i]? = some o) (hw : Region.wanted o (yielded ops a.tmps) = true) (h0 : a.tmps.toList[n0]? = some x0) (h1 : a.tmps.toList[n1]? = some x1) (h2 : a.tmps.toList[n2]? = some x2)
    (hv : ∀ ev : Operand → Value, (∀ v, ev (.const v) = v) → (∀ f, ev (.func f) = .func (.func f) #[] #[]) → ev (.tmp n0) = x0 → ev (.tmp n1) = x1 → ev (.tmp n2) = x2 → (execOp ev o).run Try.prog W = .ok (.enter f args) W)
    (hc : Calls Try.prog f args W fun e W' => e = .returned v ∧ R W')
    (h : ∀ W', R W' → AW Try.prog ops Q' fuel (listed.setIfInBounds i true) (a.put o.dst v) W') (hs : AR ops Q' fuel listed a W rs) : AR ops Q' fuel listed a W (i :: rs) :=
  ar_call f args v ho hw (hv a.eval (fun _ => rfl) (fun _ => rfl) (slot_eval h0) (slot_eval h1) (slot_eval h2)) hc h hs
theorem awt3 (i : Nat) (n0 n1 n2 : Nat) {x0 x1 x2 : Value} (v : Value) (ho : ops[i]? = some o) (hns : Region.noSelect ops = true) (hf : Region.free .any ops listed i = true) (hr : (Region.ready .any ops listed).contains i = true)
    (hQ : ∀ c a w, Q' (.panic c) (a.put o.dst v) w → Q' (.panic c) a w) (hw : Region.wanted o (yielded ops a.tmps) = true) (h0 : a.tmps.toList[n0]? = some x0) (h1 : a.tmps.toList[n1]? = some x1) (h2 : a.tmps.toList[n2]? = some x2)
    (hv : ∀ ev : Operand → Value, (∀ v, ev (.const v) = v) → (∀ f, ev (.func f) = .func (.func f) #[] #[]) → ev (.tmp n0) = x0 → ev (.tmp n1) = x1 → ev (.tmp n2) = x2 → ∀ W, (execOp ev o).run Try.prog W = .ok (.value v) W)
    (h : AW Try.prog ops Q' fuel (listed.setIfInBounds i true) (a.put o.dst v) W) : AW Try.prog ops Q' (fuel + 1) listed a W :=
  ⟨wpAny_take ho hns hf hr hQ (.inl ⟨hw, hv a.eval (fun _ => rfl) (fun _ => rfl) (slot_eval h0) (slot_eval h1) (slot_eval h2)⟩) h.out⟩

end


end Go.Proofs.Ytbobbekbliichaa
