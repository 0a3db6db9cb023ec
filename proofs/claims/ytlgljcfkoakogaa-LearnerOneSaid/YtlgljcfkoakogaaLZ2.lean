import Derived.Test.YtlgljcfkoakogaaPO1
import Derived.Test.YtlgljcfkoakogaaP8
import Derived.Test.YtlgljcfkoakogaaD3
import Derived.Deep.DeepCutAuto
import Derived.OwnWalk
import Derived.OpenShut
namespace Go.Proofs.Ytlgljcfkoakogaa
open Go.RowKit
set_option linter.unusedSimpArgs false
set_option linter.unusedVariables false


open Go.Maps Go.Shelf
/-- A slice of texts. -/
def StrsAt (w : World) (A : Option Addr) (l : List ByteArray) : Prop :=
  l = [] ∨ ∃ b o, A = some ⟨b, o, none⟩ ∧ ∀ j v, l[j]? = some v → w.cell? ⟨b, o + j, none⟩ = some (.string v)
def U16At (w : World) (A : Option Addr) (zs : List Int) : Prop :=
  zs = [] ∨ ∃ b o, A = some ⟨b, o, none⟩ ∧ ∀ j, j < zs.length → w.cell? ⟨b, o + j, none⟩ = some (.int .u16 (zs.getD j 0))
def sizes (l : List ByteArray) : Nat := (l.map ByteArray.size).sum
theorem sizes_snoc (l : List ByteArray) (v : ByteArray) : sizes (l ++ [v]) = sizes l + v.size := by simp [sizes]
theorem sizes_le {l : List ByteArray} {v : ByteArray} (h : v ∈ l) : v.size ≤ sizes l := by
  unfold sizes
  induction l with
  | nil => cases h
  | cons x t ih =>
    rcases List.mem_cons.1 h with rfl | h
    · simp
    · have := ih h
      simp at this ⊢
      omega
theorem sizes_bound {l : List ByteArray} {m : Nat} (h : ∀ v ∈ l, v.size ≤ m) : sizes l ≤ l.length * m := by
  unfold sizes
  induction l with
  | nil => simp
  | cons x t ih =>
    have h1 := ih (fun v hv => h v (List.mem_cons_of_mem _ hv))
    have h2 := h x List.mem_cons_self
    simp only [List.map_cons, List.sum_cons, List.length_cons]
    rw [Nat.add_mul]
    omega
/-- The acceptors: in blocks B, B + 1, ..; block q holds their pointers. -/
structure NodesAt (w : World) (N q B : Nat) (ac : Nat → Acc) : Prop where
  row : ∀ j : Nat, j < N → w.cell? ⟨q, j, none⟩ = some (.pointer (some ⟨B + j, 0, none⟩))
  node : ∀ j : Nat, j < N → Bk w (B + j) (ac j).cells 116
  low : q < B
  top : B + N ≤ w.heap.size
theorem NodesAt.of {w w' : World} {N q B : Nat} {ac : Nat → Acc} (h : NodesAt w N q B ac) (hk : ∀ k, k < B + N → w'.heap[k]? = w.heap[k]?) (hs : w.heap.size ≤ w'.heap.size) : NodesAt w' N q B ac :=
  ⟨fun j hj => by
    have := h.row j hj
    have hq := h.low
    have e : w'.heap[q]? = w.heap[q]? := hk q (by omega)
    simp only [World.cell?, e] at this ⊢
    exact this, fun j hj => (hk _ (by omega)).trans (h.node j hj), h.low, Nat.le_trans h.top hs⟩
theorem NodesAt.keep {w w' : World} {N q B : Nat} {ac : Nat → Acc} (h : NodesAt w N q B ac) (hb : Bel w w') : NodesAt w' N q B ac := h.of (fun k hk => hb.block k (by have := h.top; omega)) hb.size
theorem NodesAt.low' {w w' : World} {N q B m : Nat} {ac : Nat → Acc} (h : NodesAt w N q B ac) (hb : Below m w w') (hm : B + N ≤ m) : NodesAt w' N q B ac := h.of (fun k hk => hb.block k (by omega)) hb.size
/-- One of the acceptors has turned. -/
theorem NodesAt.turn {w w' : World} {N q B : Nat} {ac : Nat → Acc} (h : NodesAt w N q B ac) (j : Nat) (hj : j < N) (a : Acc) (hB : Bk w' (B + j) a.cells 116) (hk : ∀ k, k < B + N → k ≠ B + j → w'.heap[k]? = w.heap[k]?) (hs : w.heap.size ≤ w'.heap.size) : NodesAt w' N q B (setA ac j a) := by
  have hq := h.low
  refine ⟨fun i hi => ?_, fun i hi => ?_, h.low, Nat.le_trans h.top hs⟩
  · have := h.row i hi
    have e : w'.heap[q]? = w.heap[q]? := hk q (by omega) (by omega)
    simp only [World.cell?, e] at this ⊢
    exact this
  · unfold setA
    by_cases e : i = j
    · subst e; rw [if_pos rfl]; exact hB
    · rw [if_neg e]
      exact (hk _ (by omega) (by omega)).trans (h.node i hi)
theorem Try.info44 : (Try.prog.info? 44).map (fun i => (i.zero, i.size, i.bytes)) = some (some (.pointer none), 1, 8) := by kernel_rfl
set_option maxRecDepth 100000
set_option maxHeartbeats 6400000
theorem pone_guard (nn : Int) (A C : Option Addr) (la ca lc cc : Nat) (w : World) (h : nn < 1 ∨ 7 < nn ∨ 12 < la ∨ 100 < lc) :
    Calls Try.prog 15 #[.int .i64 nn, .slice A la ca, .slice C lc cc] w fun e w' => e = .returned (.bool true) ∧ Below w.heap.size w w' := by
  by_cases h1 : nn < 1
  · clear h
    go_enter Try.func15, Try.ntmps15
    go_wp2_with (go_at_call 53; refine (works13_any _).mono ?_; rintro e w' ⟨rfl, hbw⟩)
    go_ret
    exact ⟨rfl, hbw⟩
  · by_cases h2 : 7 < nn
    · clear h
      go_enter Try.func15, Try.ntmps15
      go_wp2_with (go_at_call 53; refine (works13_any _).mono ?_; rintro e w' ⟨rfl, hbw⟩)
      go_ret
      exact ⟨rfl, hbw⟩
    · by_cases h3 : 12 < la
      · have h3' : (12 : Int) < (la : Int) := by omega
        clear h
        go_enter Try.func15, Try.ntmps15
        go_wp2_with (go_at_call 53; refine (works13_any _).mono ?_; rintro e w' ⟨rfl, hbw⟩)
        go_ret
        exact ⟨rfl, hbw⟩
      · have h3' : ¬ (12 : Int) < (la : Int) := by omega
        have h4' : (100 : Int) < (lc : Int) := by omega
        clear h
        go_enter Try.func15, Try.ntmps15
        go_wp2_with (go_at_call 53; refine (works13_any _).mono ?_; rintro e w' ⟨rfl, hbw⟩)
        go_ret
        exact ⟨rfl, hbw⟩

end Go.Proofs.Ytlgljcfkoakogaa

namespace Go.Proofs.Ytlgljcfkoakogaa
open Go.RowKit
set_option linter.unusedSimpArgs false
set_option linter.unusedVariables false


theorem row_keptF {w w' : World} {base size n : Nat} {e : TypeId} {v : Value} {xs : List Value} (h : w.ownsRow base e size v n xs) (hk : ∀ b, v.ownBlock = some b → b < w.heap.size → w'.heap[b]? = w.heap[b]?) : w'.ownsRow base e size v n xs := by
  have hl := h.lt
  rcases h with ⟨h1, h2⟩
  refine ⟨h1, ?_⟩
  rcases h2 with h2 | ⟨g, cap, cur, rfl, h4, h5, h6⟩
  · exact .inl h2
  · exact .inr ⟨g, cap, cur, rfl, h4, (hk g rfl (hl g rfl).2).trans h5, h6⟩
theorem PropAt.kept {F : Nat → Prop} {W W' : World} {g pm am : Nat} {s : Value} {P : Prp} (h : PropAt W g pm am s P) (k : Kept F W W') (hg : ¬ F g) (hp : ¬ F pm) (ha : ¬ F am) (hs : ∀ b, s.ownBlock = some b → ¬ F b) : PropAt W' g pm am s P :=
  ⟨(k.block _ h.bk.lt hg).trans h.bk, row_keptF h.row (fun b hb hl => k.block b hl (hs b hb)), h.pr.kept (k.block _ h.pr.lt hp), h.ac.kept (k.block _ h.ac.lt ha), h.gp, h.ga, h.pa, h.pos, h.few, h.keys, h.ord, h.nd, h.akeys, h.aor, h.and, h.cnt, h.ole, h.ale⟩
theorem Kept.setNew {F : Nat → Prop} {a b : World} (h : Kept F a b) {p : Addr} (hp : a.heap.size ≤ p.block) (v : Value) : Kept F a (b.setCell p v) :=
  ⟨h.os, h.tape, h.output, by simpa [World.setCell] using h.size, fun k hk hn => (Below.heap_setCell b p v k (by omega)).trans (h.block k hk hn)⟩
theorem PropNext.kept9 {B : Nat} {W W' : World} {g pm am : Nat} {s s' : Value} {P' : Prp} (h : PropNext W W' g pm am s s' P') (hg : B ≤ g) (hp : B ≤ pm) (ha : B ≤ am) (hs : ∀ k, s.ownBlock = some k → B ≤ k) (hB : B ≤ W.heap.size) : Below B W W' ∧ (∀ k, s'.ownBlock = some k → B ≤ k) :=
  h.low (Below.refl B W) hg hp ha hs hB
/-- Among the prepares of one round, before node j is asked. -/
structure InPrep (N : Nat) (R n0 : Int) (v : ByteArray) (j : Nat) (ac : Nat → Acc) (ch : ByteArray) (hz : Bool) (P : Prp) : Prop where
  good : Good N R ac ch hz
  prom : PromOk N ac P
  r : P.r = R
  n : P.n = n0
  own : P.own = v
  ord : ∀ y ∈ P.order, y < (j : Int)
  below : ∀ y, y < N → (ac y).has = true → (ac y).vr < R
  eqn : ∀ y, y < N → (ac y).pr = R → (ac y).pn = n0
  acc0 : P.aord = []
  nn : P.nn ≤ j
theorem prep_start {N : Nat} {i : Nat} {n0 : Int} {v : ByteArray} {ac : Nat → Acc} {ch : ByteArray} {hz : Bool} (h : Good N i ac ch hz) : InPrep N ((i : Int) + 1) n0 v 0 ac ch hz (prpNew ((i : Int) + 1) n0 N v) :=
  ⟨h.up (by omega), ⟨rfl, (fun y c hc => by cases hc)⟩, rfl, rfl, rfl, (fun y hy => by cases hy), (fun y hy hh => by have := h.vote y hy hh; omega), (fun y hy hh => by have := h.pr y hy; omega), rfl, Nat.le_refl _⟩
theorem InPrep.skip {N j : Nat} {R n0 : Int} {v : ByteArray} {ac : Nat → Acc} {ch : ByteArray} {hz : Bool} {P : Prp} (h : InPrep N R n0 v j ac ch hz P) : InPrep N R n0 v (j + 1) ac ch hz P :=
  ⟨h.good, h.prom, h.r, h.n, h.own, fun y hy => by have := h.ord y hy; omega, h.below, h.eqn, h.acc0, Nat.le_succ_of_le h.nn⟩
theorem vtOf_set (ac : Nat → Acc) (j : Nat) (R n0 : Int) (i : Nat) : vtOf (setA ac j ((ac j).promise R n0) i) = vtOf (ac i) := by
  unfold setA Acc.promise vtOf
  split
  · rename_i e; subst e; rfl
  · rfl
theorem InPrep.step {N j : Nat} {R n0 : Int} {v : ByteArray} {ac : Nat → Acc} {ch : ByteArray} {hz : Bool} {P : Prp} (h : InPrep N R n0 v j ac ch hz P) (hR : 0 ≤ R) : InPrep N R n0 v (j + 1) (setA ac j ((ac j).promise R n0)) ch hz (pProm P j (vtOf (ac j))).2 := by
  have e : ∀ i, (setA ac j ((ac j).promise R n0) i).has = (ac i).has ∧ (setA ac j ((ac j).promise R n0) i).vr = (ac i).vr := fun i => by
    have := vtOf_set ac j R n0 i
    exact ⟨congrArg Vt.has this, congrArg Vt.r this⟩
  have hx : P.prom j = none ∨ (pProm P j (vtOf (ac j))).2 = P := by
    unfold pProm
    cases hp : P.prom j with
    | none => exact .inl rfl
    | some c => exact .inr (by rw [if_pos (by simp)])
  have hP : (pProm P j (vtOf (ac j))).2 = P ∨ (pProm P j (vtOf (ac j))).2 = { P with prom := fun y => if y = j then some (vtOf (ac j)) else P.prom y, order := P.order ++ [(j : Int)], nn := P.nn + 1 } := by
    unfold pProm
    split
    · exact .inl rfl
    · split
      · exact .inl rfl
      · exact .inr rfl
  have hg := h.good.promise j n0 hR
  have hb : ∀ y, y < N → (setA ac j ((ac j).promise R n0) y).has = true → (setA ac j ((ac j).promise R n0) y).vr < R := fun y hy hh => by
    rw [(e y).1] at hh
    rw [(e y).2]
    exact h.below y hy hh
  have hq : ∀ y, y < N → (setA ac j ((ac j).promise R n0) y).pr = R → (setA ac j ((ac j).promise R n0) y).pn = n0 := fun y hy hh => by
    unfold setA Acc.promise at hh ⊢
    split
    · rfl
    · rename_i e; rw [if_neg e] at hh; exact h.eqn y hy hh
  rcases hP with hP | hP
  · rw [hP]
    exact ⟨hg, ⟨h.prom.hN, fun y c hc => by rw [vtOf_set]; exact h.prom.said y c hc⟩, h.r, h.n, h.own, fun y hy => by have := h.ord y hy; omega, hb, hq, h.acc0, Nat.le_succ_of_le h.nn⟩
  · rw [hP]
    refine ⟨hg, ⟨h.prom.hN, fun y c hc => ?_⟩, h.r, h.n, h.own, fun y hy => ?_, hb, hq, h.acc0, Nat.succ_le_succ h.nn⟩
    · rw [vtOf_set]
      have hc' : (if y = (j : Int) then some (vtOf (ac j)) else P.prom y) = some c := hc
      split at hc'
      · rename_i e
        injection hc' with hc'
        rw [← hc', e, Int.toNat_natCast]
      · exact h.prom.said y c hc'
    · have hy' : y ∈ P.order ++ [(j : Int)] := hy
      rcases List.mem_append.1 hy' with h1 | h1
      · have := h.ord y h1; omega
      · simp at h1; omega
theorem prep_ok {N j : Nat} {R n0 : Int} {v : ByteArray} {ac : Nat → Acc} {ch : ByteArray} {hz : Bool} {P : Prp} (h : InPrep N R n0 v j ac ch hz P) (hj : j < N) (hn : namedB R n0 = true) : prep (ac j) R n0 = (true, ac j, 0, (ac j).promise R n0) := by
  have hp := h.good.pr j hj
  have hv := cmpB_vals R n0 (ac j).pr (ac j).pn
  unfold prep
  rw [if_pos hn, if_neg ?_]
  intro hlt
  rcases hv with ⟨_, h1⟩ | ⟨h0, _⟩ | ⟨h0, _⟩
  · rcases h1 with h1 | ⟨h1, h2⟩
    · omega
    · have := h.eqn j hj h1.symm
      omega
  · omega
  · omega
theorem may_ok {N j : Nat} {R n0 : Int} {v : ByteArray} {ac : Nat → Acc} {ch : ByteArray} {hz : Bool} {P : Prp} (h : InPrep N R n0 v j ac ch hz P) (hj : j < N) : pMayB P.r P.n (vtOf (ac j)) = true := by
  rw [h.r, h.n]
  unfold pMayB
  cases hh : (ac j).has with
  | true =>
    have hv := h.good.vote j hj hh
    have hb := h.below j hj hh
    rw [if_pos (show (vtOf (ac j)).has = true from hh)]
    show (namedB (ac j).vr (ac j).vn && (decide (((ac j).val.size : Int) ≤ 8192) && decide (cmpB (ac j).vr (ac j).vn R n0 < 0))) = true
    have hc := cmpB_vals (ac j).vr (ac j).vn R n0
    rw [hv.1, decide_eq_true hv.2.2.2, decide_eq_true (show cmpB (ac j).vr (ac j).vn R n0 < 0 by rcases hc with ⟨h0, _⟩ | ⟨_, h1, _⟩ | ⟨_, h1⟩ <;> omega)]
    rfl
  | false =>
    rw [if_neg (by rw [show (vtOf (ac j)).has = false from hh]; simp)]
    exact decide_eq_true (h.good.no j hj hh)
/-- Among the accepts of one round, before node j is asked. -/
structure InAcc (N : Nat) (R n0 : Int) (u : ByteArray) (j : Nat) (ac : Nat → Acc) (ch : ByteArray) (hz : Bool) (P : Prp) : Prop where
  good : Good N R ac ch hz
  hv : hz = true → u = ch
  val : ∀ y, y < N → (ac y).has = true → R ≤ (ac y).vr → (ac y).val = u
  hN : P.N = N
  r : P.r = R
  n : P.n = n0
  pok : enB N P.order.length = true
  pv : pValue P = (u, true)
  eqn : ∀ y, y < N → (ac y).pr = R → (ac y).pn = n0
  aord : ∀ y ∈ P.aord, (0 ≤ y ∧ y < N) ∧ (ac y.toNat).has = true ∧ R ≤ (ac y.toNat).vr
  nn : P.nn ≤ N + j
  usz : (u.size : Int) ≤ 8192
theorem acc_start {N : Nat} {R n0 : Int} {v : ByteArray} {ac : Nat → Acc} {ch : ByteArray} {hz : Bool} {P : Prp} (h : InPrep N R n0 v N ac ch hz P) (hord : ∀ y, y ∈ P.order ↔ (P.prom y).isSome = true) (hnd : P.order.Nodup) (hk : ∀ y ∈ P.order, 0 ≤ y ∧ y < N) (hen : enB N P.order.length = true) (hown : (v.size : Int) ≤ 8192) :
    InAcc N R n0 (pValue P).1 0 ac ch hz P := by
  refine ⟨h.good, fun hh => ?_, fun y hy hh hr => ?_, h.prom.hN, h.r, h.n, hen, ?_, h.eqn, fun y hy => ?_, by have := h.nn; omega, value_size h.good h.prom hord hk (by rw [h.own]; exact hown)⟩
  · subst hh
    rw [value_chosen h.good h.prom hord hnd hk hen]
  · have := h.below y hy hh
    omega
  · unfold pValue
    rw [h.prom.hN, if_pos hen]
  · rw [h.acc0] at hy
    cases hy
theorem InAcc.skip {N j : Nat} {R n0 : Int} {u : ByteArray} {ac : Nat → Acc} {ch : ByteArray} {hz : Bool} {P : Prp} (h : InAcc N R n0 u j ac ch hz P) : InAcc N R n0 u (j + 1) ac ch hz P :=
  ⟨h.good, h.hv, h.val, h.hN, h.r, h.n, h.pok, h.pv, h.eqn, h.aord, by have := h.nn; omega, h.usz⟩
theorem InAcc.step {N j : Nat} {R n0 : Int} {u : ByteArray} {ac : Nat → Acc} {ch : ByteArray} {hz : Bool} {P : Prp} (h : InAcc N R n0 u j ac ch hz P) (hj : j < N) (hR : 1 ≤ R) (hn : namedB R n0 = true) : InAcc N R n0 u (j + 1) (setA ac j (Acc.accept R n0 u)) ch hz (pAcc P j).2 := by
  refine ⟨h.good.accept j n0 u hR hn h.usz h.hv, h.hv, fun y hy hh hr => ?_, h.hN, h.r, h.n, h.pok, h.pv, fun y hy hh => ?_, fun y hy => ?_, ?_, h.usz⟩
  · unfold setA Acc.accept at hh hr ⊢
    split
    · rfl
    · rename_i e; rw [if_neg e] at hh hr; exact h.val y hy hh hr
  · unfold setA Acc.accept at hh ⊢
    split
    · rfl
    · rename_i e; rw [if_neg e] at hh; exact h.eqn y hy hh
  · have hy' : y ∈ (if (P.acc j).isSome = true then P.aord else P.aord ++ [(j : Int)]) := hy
    have key : y ∈ P.aord ∨ y = j := by
      split at hy'
      · exact .inl hy'
      · rcases List.mem_append.1 hy' with h1 | h1
        · exact .inl h1
        · simp at h1; exact .inr h1
    unfold setA Acc.accept
    by_cases e : y.toNat = j
    · rw [if_pos e]
      rcases key with k | k
      · exact ⟨(h.aord y k).1, rfl, Int.le_refl _⟩
      · exact ⟨by omega, rfl, Int.le_refl _⟩
    · rw [if_neg e]
      rcases key with k | k
      · exact h.aord y k
      · subst k; simp at e
  · show P.nn + 1 ≤ N + (j + 1)
    have := h.nn
    omega
theorem acpt_ok {N j : Nat} {R n0 : Int} {u : ByteArray} {ac : Nat → Acc} {ch : ByteArray} {hz : Bool} {P : Prp} (h : InAcc N R n0 u j ac ch hz P) (hj : j < N) (hn : namedB R n0 = true) : acpt (ac j) R n0 u = (true, 0, Acc.accept R n0 u) := by
  have hp := h.good.pr j hj
  have hv := cmpB_vals R n0 (ac j).pr (ac j).pn
  have hs := h.usz
  unfold acpt
  rw [if_pos hn, if_neg (by omega), if_neg ?_]
  intro hlt
  rcases hv with ⟨_, h1⟩ | ⟨h0, _⟩ | ⟨h0, _⟩
  · rcases h1 with h1 | ⟨h1, h2⟩
    · omega
    · have := h.eqn j hj h1.symm
      omega
  · omega
  · omega
/-- A majority has accepted: the value is chosen. -/
theorem InAcc.chosen {N : Nat} {R n0 : Int} {u : ByteArray} {j : Nat} {ac : Nat → Acc} {ch : ByteArray} {hz : Bool} {P : Prp} (h : InAcc N R n0 u j ac ch hz P) (hnd : P.aord.Nodup) (hen : enB N P.aord.length = true) : Good N R ac u true :=
  ⟨h.good.pr, h.good.no, h.good.vote, fun _ => ⟨R, h.val, P.aord, hnd, h.aord, hen⟩⟩
theorem InAcc.chose {N : Nat} {R n0 : Int} {u : ByteArray} {j : Nat} {ac : Nat → Acc} {ch : ByteArray} {hz : Bool} {P : Prp} (h : InAcc N R n0 u j ac ch hz P) : pChosen P = if enB N P.aord.length = true then (u, true) else (⟨#[]⟩, false) := by
  unfold pChosen
  rw [h.hN, h.pv]

end Go.Proofs.Ytlgljcfkoakogaa
