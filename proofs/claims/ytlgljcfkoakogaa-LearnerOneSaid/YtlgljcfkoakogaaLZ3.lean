import Derived.Test.YtlgljcfkoakogaaD3
import Derived.Test.YtlgljcfkoakogaaLZ1
import Derived.Test.YtlgljcfkoakogaaLZ2
namespace Go.Proofs.Ytlgljcfkoakogaa
open Go.RowKit
set_option linter.unusedSimpArgs false
set_option linter.unusedVariables false


section
variable {ops : Array Oper} {Q' : Exit → Act → World → Prop} {a : Act} {o : Oper} {i : Nat} {w W : World} {listed : Array Bool} {fuel : Nat} {rs : List Nat}
theorem ar_callx (f : FuncId) (args : Array Value) {R : Value → World → Prop} (ho : ops[i]? = some o) (hw : Region.wanted o (yielded ops a.tmps) = true) (hv : (execOp a.eval o).run Try.prog W = .ok (.enter f args) W)
    (hc : Calls Try.prog f args W fun e W' => ∃ v, e = .returned v ∧ R v W')
    (h : ∀ v W', R v W' → AW Try.prog ops Q' fuel (listed.setIfInBounds i true) (a.put o.dst v) W') (hs : AR ops Q' fuel listed a W rs) : AR ops Q' fuel listed a W (i :: rs) :=
  ar_cons (by
    unfold wpOp
    rw [ho]
    simp only [hw, if_true]
    refine .inl ?_
    unfold Oper.wp
    rw [hv, Oper.upon_enter]
    exact hc.mono fun e w'' ⟨v, h1, h2⟩ => by subst h1; exact (h _ _ h2).out) hs
theorem arcx1 (n0 : Nat) {x0 : Value} (f : FuncId) (args : Array Value) {R : Value → World → Prop} (ho : ops[i]? = some o) (hw : Region.wanted o (yielded ops a.tmps) = true) (h0 : a.tmps.toList[n0]? = some x0)
    (hv : ∀ ev : Operand → Value, (∀ v, ev (.const v) = v) → (∀ f, ev (.func f) = .func (.func f) #[] #[]) → ev (.tmp n0) = x0 → (execOp ev o).run Try.prog W = .ok (.enter f args) W)
    (hc : Calls Try.prog f args W fun e W' => ∃ v, e = .returned v ∧ R v W')
    (h : ∀ v W', R v W' → AW Try.prog ops Q' fuel (listed.setIfInBounds i true) (a.put o.dst v) W') (hs : AR ops Q' fuel listed a W rs) : AR ops Q' fuel listed a W (i :: rs) :=
  ar_callx f args ho hw (hv a.eval (fun _ => rfl) (fun _ => rfl) (slot_eval h0)) hc h hs
theorem arcx2 (n0 n1 : Nat) {x0 x1 : Value} (f : FuncId) (args : Array Value) {R : Value → World → Prop} (ho : ops[i]? = some o) (hw : Region.wanted o (yielded ops a.tmps) = true) (h0 : a.tmps.toList[n0]? = some x0) (h1 : a.tmps.toList[n1]? = some x1)
    (hv : ∀ ev : Operand → Value, (∀ v, ev (.const v) = v) → (∀ f, ev (.func f) = .func (.func f) #[] #[]) → ev (.tmp n0) = x0 → ev (.tmp n1) = x1 → (execOp ev o).run Try.prog W = .ok (.enter f args) W)
    (hc : Calls Try.prog f args W fun e W' => ∃ v, e = .returned v ∧ R v W')
    (h : ∀ v W', R v W' → AW Try.prog ops Q' fuel (listed.setIfInBounds i true) (a.put o.dst v) W') (hs : AR ops Q' fuel listed a W rs) : AR ops Q' fuel listed a W (i :: rs) :=
  ar_callx f args ho hw (hv a.eval (fun _ => rfl) (fun _ => rfl) (slot_eval h0) (slot_eval h1)) hc h hs
theorem arcx3 (n0 n1 n2 : Nat) {x0 x1 x2 : Value} (f : FuncId) (args : Array Value) {R : Value → World → Prop} (ho : ops[i]? = some o) (hw : Region.wanted o (yielded ops a.tmps) = true) (h0 : a.tmps.toList[n0]? = some x0) (h1 : a.tmps.toList[n1]? = some x1) (h2 : a.tmps.toList[n2]? = some x2)
    (hv : ∀ ev : Operand → Value, (∀ v, ev (.const v) = v) → (∀ f, ev (.func f) = .func (.func f) #[] #[]) → ev (.tmp n0) = x0 → ev (.tmp n1) = x1 → ev (.tmp n2) = x2 → (execOp ev o).run Try.prog W = .ok (.enter f args) W)
    (hc : Calls Try.prog f args W fun e W' => ∃ v, e = .returned v ∧ R v W')
    (h : ∀ v W', R v W' → AW Try.prog ops Q' fuel (listed.setIfInBounds i true) (a.put o.dst v) W') (hs : AR ops Q' fuel listed a W rs) : AR ops Q' fuel listed a W (i :: rs) :=
  ar_callx f args ho hw (hv a.eval (fun _ => rfl) (fun _ => rfl) (slot_eval h0) (slot_eval h1) (slot_eval h2)) hc h hs
end

end Go.Proofs.Ytlgljcfkoakogaa

namespace Go.Proofs.Ytlgljcfkoakogaa
open Go.RowKit
set_option linter.unusedSimpArgs false
set_option linter.unusedVariables false


section
variable {ops : Array Oper} {Q' : Exit → Act → World → Prop} {a : Act} {o : Oper} {i : Nat} {w W : World} {listed : Array Bool} {fuel : Nat} {rs : List Nat}
theorem arc4 (n0 n1 n2 n3 : Nat) {x0 x1 x2 x3 : Value} (f : FuncId) (args : Array Value) (v : Value) {R : World → Prop} (ho : ops[i]? = some o) (hw : Region.wanted o (yielded ops a.tmps) = true) (h0 : a.tmps.toList[n0]? = some x0) (h1 : a.tmps.toList[n1]? = some x1) (h2 : a.tmps.toList[n2]? = some x2) (h3 : a.tmps.toList[n3]? = some x3)
    (hv : ∀ ev : Operand → Value, (∀ v, ev (.const v) = v) → (∀ f, ev (.func f) = .func (.func f) #[] #[]) → ev (.tmp n0) = x0 → ev (.tmp n1) = x1 → ev (.tmp n2) = x2 → ev (.tmp n3) = x3 → (execOp ev o).run Try.prog W = .ok (.enter f args) W)
    (hc : Calls Try.prog f args W fun e W' => e = .returned v ∧ R W')
    (h : ∀ W', R W' → AW Try.prog ops Q' fuel (listed.setIfInBounds i true) (a.put o.dst v) W') (hs : AR ops Q' fuel listed a W rs) : AR ops Q' fuel listed a W (i :: rs) :=
  ar_call f args v ho hw (hv a.eval (fun _ => rfl) (fun _ => rfl) (slot_eval h0) (slot_eval h1) (slot_eval h2) (slot_eval h3)) hc h hs
theorem arcx4 (n0 n1 n2 n3 : Nat) {x0 x1 x2 x3 : Value} (f : FuncId) (args : Array Value) {R : Value → World → Prop} (ho : ops[i]? = some o) (hw : Region.wanted o (yielded ops a.tmps) = true) (h0 : a.tmps.toList[n0]? = some x0) (h1 : a.tmps.toList[n1]? = some x1) (h2 : a.tmps.toList[n2]? = some x2) (h3 : a.tmps.toList[n3]? = some x3)
    (hv : ∀ ev : Operand → Value, (∀ v, ev (.const v) = v) → (∀ f, ev (.func f) = .func (.func f) #[] #[]) → ev (.tmp n0) = x0 → ev (.tmp n1) = x1 → ev (.tmp n2) = x2 → ev (.tmp n3) = x3 → (execOp ev o).run Try.prog W = .ok (.enter f args) W)
    (hc : Calls Try.prog f args W fun e W' => ∃ v, e = .returned v ∧ R v W')
    (h : ∀ v W', R v W' → AW Try.prog ops Q' fuel (listed.setIfInBounds i true) (a.put o.dst v) W') (hs : AR ops Q' fuel listed a W rs) : AR ops Q' fuel listed a W (i :: rs) :=
  ar_callx f args ho hw (hv a.eval (fun _ => rfl) (fun _ => rfl) (slot_eval h0) (slot_eval h1) (slot_eval h2) (slot_eval h3)) hc h hs
end

end Go.Proofs.Ytlgljcfkoakogaa

namespace Go.Proofs.Ytlgljcfkoakogaa
open Go.RowKit
set_option linter.unusedSimpArgs false
set_option linter.unusedVariables false


open Go.Maps Go.Shelf
/-- Whose a block is. -/
inductive Col where
  | acc (j : Nat)
  | lrn (j : Nat)
  | prp (p : Nat)
  | nodes
  | hear
  | all
  | pool
  | none
/-- Where a proposer lies. -/
structure PAt where
  g : Nat
  pm : Nat
  am : Nat
  s : Value
def ptrs (N : Nat) (g : Nat → Nat) : List Value := (List.range N).map fun j => .pointer (some ⟨g j, 0, none⟩)
def RowOf (col : Nat → Col) (c : Col) (v : Value) : Prop := ∀ k, v.ownBlock = some k → col k = c
/-- Where everything lies, each thing in blocks of its own colour. -/
structure Mem (W : World) (col : Nat → Col) (S : Sys) (gA gL mL : Nat → Nat) (pp : Nat → PAt) (sn sh sa : Value) : Prop where
  acc : ∀ j, j < S.N → Bk W (gA j) (S.ac j).cells 116 ∧ col (gA j) = .acc j
  lrn : ∀ j, j < S.N → LrnAt W (gL j) (mL j) (S.ln j) ∧ col (gL j) = .lrn j ∧ col (mL j) = .lrn j
  prp : ∀ p P, S.ps[p]? = some P → PropAt W (pp p).g (pp p).pm (pp p).am (pp p).s P ∧ col (pp p).g = .prp p ∧ col (pp p).pm = .prp p ∧ col (pp p).am = .prp p ∧ RowOf col (.prp p) (pp p).s
  nodes : W.ownsRow 0 44 1 sn S.N (ptrs S.N gA) ∧ RowOf col .nodes sn
  hear : W.ownsRow 0 67 1 sh S.N (ptrs S.N gL) ∧ RowOf col .hear sh
  all : W.ownsRow 0 86 1 sa S.ps.length (ptrs S.ps.length fun p => (pp p).g) ∧ RowOf col .all sa
/-- New blocks are the colour of who acts. -/
def fresh (col : Nat → Col) (B : Nat) (c : Col) : Nat → Col := fun k => if k < B then col k else c
theorem fresh_old {col : Nat → Col} {B k : Nat} {c : Col} (h : k < B) : fresh col B c k = col k := by unfold fresh; rw [if_pos h]
theorem fresh_new {col : Nat → Col} {B k : Nat} {c : Col} (h : B ≤ k) : fresh col B c k = c := by unfold fresh; rw [if_neg (by omega)]
section
variable {W W' : World} {col : Nat → Col} {S : Sys} {gA gL mL : Nat → Nat} {pp : Nat → PAt} {sn sh sa : Value}
/-- Only blocks of colour c have turned. -/
def Only (col : Nat → Col) (c : Col) (W W' : World) : Prop := Kept (fun k => col k = c) W W'
theorem row_only {c c' : Col} {base size n : Nat} {e : TypeId} {v : Value} {xs : List Value} (h : W.ownsRow base e size v n xs) (hr : RowOf col c' v) (k : Only col c W W') (hc : c' ≠ c) : W'.ownsRow base e size v n xs :=
  row_keptF h fun b hb hl => k.block b hl (fun e => hc ((hr b hb).symm.trans e))
theorem acc_only {c : Col} {g : Nat} {cs : Array Value} {t : TypeId} {c' : Col} (h : Bk W g cs t) (hg : col g = c') (k : Only col c W W') (hc : c' ≠ c) : Bk W' g cs t := (k.block _ h.lt (fun e => hc (hg.symm.trans e))).trans h
theorem lrn_only {c c' : Col} {g m : Nat} {L : Lrn} (h : LrnAt W g m L) (hg : col g = c') (hm : col m = c') (k : Only col c W W') (hc : c' ≠ c) : LrnAt W' g m L :=
  ⟨acc_only h.bk hg k hc, h.said.kept (k.block _ h.said.lt (fun e => hc (hm.symm.trans e))), h.pos, h.few, h.keys⟩
theorem prp_only {c c' : Col} {p : PAt} {P : Prp} (h : PropAt W p.g p.pm p.am p.s P) (hg : col p.g = c') (hp : col p.pm = c') (ha : col p.am = c') (hs : RowOf col c' p.s) (k : Only col c W W') (hc : c' ≠ c) : PropAt W' p.g p.pm p.am p.s P :=
  h.kept k (fun e => hc (hg.symm.trans e)) (fun e => hc (hp.symm.trans e)) (fun e => hc (ha.symm.trans e)) (fun b hb e => hc ((hs b hb).symm.trans e))
theorem Mem.keep (h : Mem W col S gA gL mL pp sn sh sa) (hb : Bel W W') : Mem W' col S gA gL mL pp sn sh sa :=
  ⟨fun j hj => ⟨(h.acc j hj).1.bel hb, (h.acc j hj).2⟩, fun j hj => ⟨(h.lrn j hj).1.keep hb, (h.lrn j hj).2⟩, fun p P hP => ⟨(h.prp p P hP).1.keep hb, (h.prp p P hP).2⟩, ⟨row_bel h.nodes.1 hb, h.nodes.2⟩, ⟨row_bel h.hear.1 hb, h.hear.2⟩, ⟨row_bel h.all.1 hb, h.all.2⟩⟩
/-- An acceptor turns. -/
theorem Mem.acc_turn (h : Mem W col S gA gL mL pp sn sh sa) {j : Nat} (hj : j < S.N) (a : Acc) (hB : Bk W' (gA j) a.cells 116) (k : Only col (.acc j) W W') : Mem W' col { S with ac := setA S.ac j a } gA gL mL pp sn sh sa := by
  refine ⟨fun i hi => ?_, fun i hi => ?_, fun p P hP => ?_, ⟨row_only h.nodes.1 h.nodes.2 k (by simp), h.nodes.2⟩, ⟨row_only h.hear.1 h.hear.2 k (by simp), h.hear.2⟩, ⟨row_only h.all.1 h.all.2 k (by simp), h.all.2⟩⟩
  · refine ⟨?_, (h.acc i hi).2⟩
    show Bk W' (gA i) (setA S.ac j a i).cells 116
    unfold setA
    by_cases e : i = j
    · rw [if_pos e, e]; exact hB
    · rw [if_neg e]; exact acc_only (h.acc i hi).1 (h.acc i hi).2 k (by simp [e])
  · obtain ⟨h1, h2, h3⟩ := h.lrn i hi
    exact ⟨lrn_only h1 h2 h3 k (by simp), h2, h3⟩
  · obtain ⟨h1, h2, h3, h4, h5⟩ := h.prp p P hP
    exact ⟨prp_only h1 h2 h3 h4 h5 k (by simp), h2, h3, h4, h5⟩
/-- A learner turns. -/
theorem Mem.lrn_turn (h : Mem W col S gA gL mL pp sn sh sa) {j : Nat} (hj : j < S.N) (L : Lrn) (hL : LrnAt W' (gL j) (mL j) L) (k : Only col (.lrn j) W W') : Mem W' col (S.hear j L) gA gL mL pp sn sh sa := by
  refine ⟨fun i hi => ?_, fun i hi => ?_, fun p P hP => ?_, ⟨row_only h.nodes.1 h.nodes.2 k (by simp), h.nodes.2⟩, ⟨row_only h.hear.1 h.hear.2 k (by simp), h.hear.2⟩, ⟨row_only h.all.1 h.all.2 k (by simp), h.all.2⟩⟩
  · exact ⟨acc_only (h.acc i hi).1 (h.acc i hi).2 k (by simp), (h.acc i hi).2⟩
  · obtain ⟨h1, h2, h3⟩ := h.lrn i hi
    refine ⟨?_, h2, h3⟩
    show LrnAt W' (gL i) (mL i) (if i = j then L else S.ln i)
    by_cases e : i = j
    · rw [if_pos e, e]; exact hL
    · rw [if_neg e]; exact lrn_only h1 h2 h3 k (by simp [e])
  · obtain ⟨h1, h2, h3, h4, h5⟩ := h.prp p P hP
    exact ⟨prp_only h1 h2 h3 h4 h5 k (by simp), h2, h3, h4, h5⟩
def setP (pp : Nat → PAt) (p : Nat) (a : PAt) : Nat → PAt := fun q => if q = p then a else pp q
theorem RowOf.fresh {c c' : Col} {v : Value} {B : Nat} (h : RowOf col c v) (hB : ∀ k, v.ownBlock = some k → k < B) : RowOf (fresh col B c') c v := fun k hk => by
  rw [fresh_old (hB k hk)]
  exact h k hk
/-- A proposer turns; its row may be a new one. -/
theorem Mem.prp_turn (h : Mem W col S gA gL mL pp sn sh sa) {p : Nat} {P P' : Prp} (hP : S.ps[p]? = some P) {s' : Value} (n : PropNext W W' (pp p).g (pp p).pm (pp p).am (pp p).s s' P') :
    Mem W' (fresh col W.heap.size (.prp p)) (S.turn p P') gA gL mL (setP pp p ⟨(pp p).g, (pp p).pm, (pp p).am, s'⟩) sn sh sa ∧ Only col (.prp p) W W' := by
  obtain ⟨q1, q2, q3, q4, q5⟩ := h.prp p P hP
  have hpp := hP
  have k : Only col (.prp p) W W' := ⟨n.kept.os, n.kept.tape, n.kept.output, n.kept.size, fun b hb hn => n.kept.block b hb (fun hf => hn (by
    rcases hf with rfl | rfl | rfl | hf
    · exact q2
    · exact q3
    · exact q4
    · exact q5 b hf))⟩
  refine ⟨⟨fun i hi => ?_, fun i hi => ?_, fun q Q hQ => ?_, ?_, ?_, ?_⟩, k⟩
  · obtain ⟨h1, h2⟩ := h.acc i hi
    exact ⟨acc_only h1 h2 k (by simp), by rw [fresh_old h1.lt]; exact h2⟩
  · obtain ⟨h1, h2, h3⟩ := h.lrn i hi
    exact ⟨lrn_only h1 h2 h3 k (by simp), by rw [fresh_old h1.bk.lt]; exact h2, by rw [fresh_old h1.said.lt]; exact h3⟩
  · rw [turn_get hP] at hQ
    unfold setP
    by_cases e : q = p
    · rw [if_pos e] at hQ ⊢
      injection hQ with hQ
      subst hQ e
      refine ⟨n.at', by rw [fresh_old q1.bk.lt]; exact q2, by rw [fresh_old q1.pr.lt]; exact q3, by rw [fresh_old q1.ac.lt]; exact q4, fun b hb => ?_⟩
      rcases Nat.lt_or_ge b W.heap.size with hl | hl
      · rw [fresh_old hl]
        rcases n.grow b hb with h1 | h1
        · exact q5 b h1
        · omega
      · exact fresh_new hl
    · rw [if_neg e] at hQ ⊢
      obtain ⟨h1, h2, h3, h4, h5⟩ := h.prp q Q hQ
      exact ⟨prp_only h1 h2 h3 h4 h5 k (by simp [e]), by rw [fresh_old h1.bk.lt]; exact h2, by rw [fresh_old h1.pr.lt]; exact h3, by rw [fresh_old h1.ac.lt]; exact h4, h5.fresh (fun b hb => (h1.row.lt b hb).2)⟩
  · exact ⟨row_only h.nodes.1 h.nodes.2 k (by simp), h.nodes.2.fresh (fun b hb => (h.nodes.1.lt b hb).2)⟩
  · exact ⟨row_only h.hear.1 h.hear.2 k (by simp), h.hear.2.fresh (fun b hb => (h.hear.1.lt b hb).2)⟩
  · have hl : (S.turn p P').ps.length = S.ps.length := List.length_set
    rw [hl]
    have hg : (fun q => (setP pp p ⟨(pp p).g, (pp p).pm, (pp p).am, s'⟩ q).g) = fun q => (pp q).g := by
      funext q
      unfold setP
      by_cases e : q = p
      · rw [if_pos e, e]
      · rw [if_neg e]
    rw [hg]
    exact ⟨row_only h.all.1 h.all.2 k (by simp), h.all.2.fresh (fun b hb => (h.all.1.lt b hb).2)⟩
theorem ptrs_at {N j : Nat} (g : Nat → Nat) (hj : j < N) : (ptrs N g)[j]? = some (.pointer (some ⟨g j, 0, none⟩)) := by
  unfold ptrs
  rw [List.getElem?_map, List.getElem?_range hj]
  rfl
/-- A row of pointers, read at an index. -/
theorem ptr_cell {e : TypeId} {v : Value} {N : Nat} {g : Nat → Nat} (h : W.ownsRow 0 e 1 v N (ptrs N g)) {j : Nat} (hj : j < N) : ∃ b c, v = .slice (some ⟨b, 0, none⟩) N c ∧ W.cell? ⟨b, j, none⟩ = some (.pointer (some ⟨g j, 0, none⟩)) := by
  rcases h.2 with ⟨_, h0⟩ | ⟨q, cap, cur, rfl, _⟩
  · omega
  · exact ⟨q, cap, rfl, (h.cellAt j (by omega)).trans (ptrs_at g hj)⟩
end

end Go.Proofs.Ytlgljcfkoakogaa
