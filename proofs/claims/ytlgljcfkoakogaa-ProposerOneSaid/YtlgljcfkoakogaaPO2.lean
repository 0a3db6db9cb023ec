import Derived.Test.YtlgljcfkoakogaaPO1
import Derived.Test.YtlgljcfkoakogaaP8
import Derived.Test.YtlgljcfkoakogaaD3
import Derived.Deep.DeepCutAuto
import Derived.OwnWalk
import Derived.OpenShut
namespace Go.Proofs.Ytlgljcfkoakogaa
open Go.RowKit
set_option linter.unusedSimpArgs false
set_option linter.unusedVariables false


open Go.Maps Go.Shelf
/-- A slice of texts. -/
def StrsAt (w : World) (A : Option Addr) (l : List ByteArray) : Prop :=
  l = [] ∨ ∃ b o, A = some ⟨b, o, none⟩ ∧ ∀ j v, l[j]? = some v → w.cell? ⟨b, o + j, none⟩ = some (.string v)
def U16At (w : World) (A : Option Addr) (zs : List Int) : Prop :=
  zs = [] ∨ ∃ b o, A = some ⟨b, o, none⟩ ∧ ∀ j, j < zs.length → w.cell? ⟨b, o + j, none⟩ = some (.int .u16 (zs.getD j 0))
def sizes (l : List ByteArray) : Nat := (l.map ByteArray.size).sum
theorem sizes_snoc (l : List ByteArray) (v : ByteArray) : sizes (l ++ [v]) = sizes l + v.size := by simp [sizes]
theorem sizes_le {l : List ByteArray} {v : ByteArray} (h : v ∈ l) : v.size ≤ sizes l := by
  unfold sizes
  induction l with
  | nil => cases h
  | cons x t ih =>
    rcases List.mem_cons.1 h with rfl | h
    · simp
    · have := ih h
      simp at this ⊢
      omega
theorem sizes_bound {l : List ByteArray} {m : Nat} (h : ∀ v ∈ l, v.size ≤ m) : sizes l ≤ l.length * m := by
  unfold sizes
  induction l with
  | nil => simp
  | cons x t ih =>
    have h1 := ih (fun v hv => h v (List.mem_cons_of_mem _ hv))
    have h2 := h x List.mem_cons_self
    simp only [List.map_cons, List.sum_cons, List.length_cons]
    rw [Nat.add_mul]
    omega
/-- The acceptors: in blocks B, B + 1, ..; block q holds their pointers. -/
structure NodesAt (w : World) (N q B : Nat) (ac : Nat → Acc) : Prop where
  row : ∀ j : Nat, j < N → w.cell? ⟨q, j, none⟩ = some (.pointer (some ⟨B + j, 0, none⟩))
  node : ∀ j : Nat, j < N → Bk w (B + j) (ac j).cells 116
  low : q < B
  top : B + N ≤ w.heap.size
theorem NodesAt.of {w w' : World} {N q B : Nat} {ac : Nat → Acc} (h : NodesAt w N q B ac) (hk : ∀ k, k < B + N → w'.heap[k]? = w.heap[k]?) (hs : w.heap.size ≤ w'.heap.size) : NodesAt w' N q B ac :=
  ⟨fun j hj => by
    have := h.row j hj
    have hq := h.low
    have e : w'.heap[q]? = w.heap[q]? := hk q (by omega)
    simp only [World.cell?, e] at this ⊢
    exact this, fun j hj => (hk _ (by omega)).trans (h.node j hj), h.low, Nat.le_trans h.top hs⟩
theorem NodesAt.keep {w w' : World} {N q B : Nat} {ac : Nat → Acc} (h : NodesAt w N q B ac) (hb : Bel w w') : NodesAt w' N q B ac := h.of (fun k hk => hb.block k (by have := h.top; omega)) hb.size
theorem NodesAt.low' {w w' : World} {N q B m : Nat} {ac : Nat → Acc} (h : NodesAt w N q B ac) (hb : Below m w w') (hm : B + N ≤ m) : NodesAt w' N q B ac := h.of (fun k hk => hb.block k (by omega)) hb.size
/-- One of the acceptors has turned. -/
theorem NodesAt.turn {w w' : World} {N q B : Nat} {ac : Nat → Acc} (h : NodesAt w N q B ac) (j : Nat) (hj : j < N) (a : Acc) (hB : Bk w' (B + j) a.cells 116) (hk : ∀ k, k < B + N → k ≠ B + j → w'.heap[k]? = w.heap[k]?) (hs : w.heap.size ≤ w'.heap.size) : NodesAt w' N q B (setA ac j a) := by
  have hq := h.low
  refine ⟨fun i hi => ?_, fun i hi => ?_, h.low, Nat.le_trans h.top hs⟩
  · have := h.row i hi
    have e : w'.heap[q]? = w.heap[q]? := hk q (by omega) (by omega)
    simp only [World.cell?, e] at this ⊢
    exact this
  · unfold setA
    by_cases e : i = j
    · subst e; rw [if_pos rfl]; exact hB
    · rw [if_neg e]
      exact (hk _ (by omega) (by omega)).trans (h.node i hi)
theorem Try.info44 : (Try.prog.info? 44).map (fun i => (i.zero, i.size, i.bytes)) = some (some (.pointer none), 1, 8) := by kernel_rfl
set_option maxRecDepth 100000
set_option maxHeartbeats 6400000
theorem pone_guard (nn : Int) (A C : Option Addr) (la ca lc cc : Nat) (w : World) (h : nn < 1 ∨ 7 < nn ∨ 12 < la ∨ 100 < lc) :
    Calls Try.prog 15 #[.int .i64 nn, .slice A la ca, .slice C lc cc] w fun e w' => e = .returned (.bool true) ∧ Below w.heap.size w w' := by
  by_cases h1 : nn < 1
  · clear h
    go_enter Try.func15, Try.ntmps15
    go_wp2_with (go_at_call 53; refine (works13_any _).mono ?_; rintro e w' ⟨rfl, hbw⟩)
    go_ret
    exact ⟨rfl, hbw⟩
  · by_cases h2 : 7 < nn
    · clear h
      go_enter Try.func15, Try.ntmps15
      go_wp2_with (go_at_call 53; refine (works13_any _).mono ?_; rintro e w' ⟨rfl, hbw⟩)
      go_ret
      exact ⟨rfl, hbw⟩
    · by_cases h3 : 12 < la
      · have h3' : (12 : Int) < (la : Int) := by omega
        clear h
        go_enter Try.func15, Try.ntmps15
        go_wp2_with (go_at_call 53; refine (works13_any _).mono ?_; rintro e w' ⟨rfl, hbw⟩)
        go_ret
        exact ⟨rfl, hbw⟩
      · have h3' : ¬ (12 : Int) < (la : Int) := by omega
        have h4' : (100 : Int) < (lc : Int) := by omega
        clear h
        go_enter Try.func15, Try.ntmps15
        go_wp2_with (go_at_call 53; refine (works13_any _).mono ?_; rintro e w' ⟨rfl, hbw⟩)
        go_ret
        exact ⟨rfl, hbw⟩

end Go.Proofs.Ytlgljcfkoakogaa
