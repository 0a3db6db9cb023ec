import Derived.Test.YtlgljcfkoakogaaA8
import Derived.Laws.StructEq
import Derived.Deep.Quiet
namespace Go.Proofs.Ytlgljcfkoakogaa
open Go.RowKit
set_option linter.unusedSimpArgs false
set_option linter.unusedVariables false


section
variable {P : Program} {ops : Array Oper} {C : World → Prop} {Q : Act → Prop} {a : Act} {o : Oper} {rest : List Oper}
/-- An operation that yields one value in every world of the class. -/
theorem q_val (v : Value) (hw : Region.wanted o (yielded ops a.tmps) = true) (hv : ∀ W, C W → (execOp a.eval o).run P W = .ok (.value v) W)
    (h : wpQuiet P ops C Q rest (a.put o.dst v)) : wpQuiet P ops C Q (o :: rest) a := by
  unfold wpQuiet
  rw [if_pos hw]
  refine ⟨v, fun W hW => ?_, h⟩
  unfold Oper.quietAt
  rw [hv W hW]
  exact ⟨rfl, rfl⟩
/-- A call that hands back one value in every world of the class, and stays in the class. -/
theorem q_call (f : FuncId) (args : Array Value) (v : Value) (hw : Region.wanted o (yielded ops a.tmps) = true) (hv : ∀ W, C W → (execOp a.eval o).run P W = .ok (.enter f args) W)
    (hc : ∀ W, C W → Calls P f args W fun e W' => e = .returned v ∧ C W')
    (h : wpQuiet P ops C Q rest (a.put o.dst v)) : wpQuiet P ops C Q (o :: rest) a := by
  unfold wpQuiet
  rw [if_pos hw]
  refine ⟨v, fun W hW => ?_, h⟩
  unfold Oper.quietAt
  rw [hv W hW]
  exact ⟨rfl, hc W hW⟩
/-- An operation that its guard leaves out. -/
theorem q_skip (hw : Region.wanted o (yielded ops a.tmps) = false) (h : wpQuiet P ops C Q rest (a.put o.dst undef)) : wpQuiet P ops C Q (o :: rest) a := by
  unfold wpQuiet
  rw [if_neg (by rw [hw]; exact Bool.false_ne_true)]
  exact h
end
/-- The class: what lay when the region began lies there still. -/
def Bel (w W : World) : Prop := Below w.heap.size w W
theorem Bel.step {w W W' : World} (h : Bel w W) (hb : Below W.heap.size W W') : Bel w W' := Below.trans h (hb.mono h.size)
theorem Bel.refl (w : World) : Bel w w := Below.refl _ _
theorem q_calls {f : FuncId} {args : Array Value} {v : Value} {w W : World} (h : Bel w W) (hc : Calls Try.prog f args W fun e W' => e = .returned v ∧ Below W.heap.size W W') :
    Calls Try.prog f args W fun e W' => e = .returned v ∧ Bel w W' := hc.mono fun _ _ ⟨h1, h2⟩ => ⟨h1, h.step h2⟩
theorem q_calls_same {f : FuncId} {args : Array Value} {v : Value} {w W : World} (h : Bel w W) (hc : Calls Try.prog f args W fun e W' => e = .returned v ∧ W = W') :
    Calls Try.prog f args W fun e W' => e = .returned v ∧ Bel w W' := hc.mono fun _ _ ⟨h1, h2⟩ => ⟨h1, h2 ▸ h⟩
/-- A region that draws its order, of loads, reckonings and calls that only make memory: one walk in the order of the text. -/
theorem wp_bel {id : Nat} {Q : Exit → Act → World → Prop} {a : Act} {w : World} {l : List Oper} (hB : Region.lexB .any l.toArray = true)
    (h : wpQuiet Try.prog l.toArray (Bel w) (fun a' => ∀ w', Bel w w' → Q .normal a' w') l a) : (Code.region id l.toArray true).wp Try.prog Q a w :=
  wp_region_quiet (C := Bel w) (by kernel_rfl) hB (Below.refl _ w).drew (by simpa using h)
theorem Bel.cell {w W : World} (h : Bel w W) {b o : Nat} {v : Value} (hc : w.cell? ⟨b, o, none⟩ = some v) : W.cell? ⟨b, o, none⟩ = some v :=
  (Below.cell h (p := ⟨b, o, none⟩) (World.block_lt_of_cell? w _ hc)).trans hc

theorem wpList_of_quiet {P : Program} {ops : Array Oper} {C : World → Prop} {Q : Act → Prop} {Q' : Exit → Act → World → Prop} (hQ : ∀ a w, C w → Q a → Q' .normal a w) :
    ∀ (l : List Oper) (a : Act) (w : World), C w → wpQuiet P ops C Q l a → wpList P ops Q' l a w
  | [], _, _, hw, h => hQ _ _ hw h
  | o :: l, a, w, hw, h => by
    unfold wpQuiet at h
    unfold wpList
    by_cases hg : Region.wanted o (yielded ops a.tmps) = true
    · rw [if_pos hg] at h ⊢
      exact .inl (Oper.wp_of_quiet hw (fun a' w' hw' h' => wpList_of_quiet hQ l a' w' hw' h') h)
    · rw [if_neg hg] at h ⊢
      exact wpList_of_quiet hQ l _ w hw h
/-- The rest of a plain region, from the operation that writes slot N on: the same walk. -/
theorem wpList_bel (N : Nat) {ops : Array Oper} {l : List Oper} {o : Oper} {Q : Exit → Act → World → Prop} {a : Act} {w : World} (_hN : o.dst = some N)
    (h : wpQuiet Try.prog ops (Bel w) (fun a' => ∀ w', Bel w w' → Q .normal a' w') (o :: l) a) : wpList Try.prog ops Q (o :: l) a w :=
  wpList_of_quiet (fun _ w' hw' h' => h' w' hw') _ _ _ (Bel.refl w) h

end Go.Proofs.Ytlgljcfkoakogaa
