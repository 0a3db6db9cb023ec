import Derived.Test.YtlgljcfkoakogaaB5
import Derived.Deep.Slices
import Derived.ChangeArms
import Derived.OpenShut
namespace Go.Proofs.Ytlgljcfkoakogaa
open Go.RowKit
set_option linter.unusedSimpArgs false
set_option linter.unusedVariables false


theorem list_of {α : Type} {p : Nat → α → Prop} : ∀ n, (∀ i, i < n → ∃ x, p i x) → ∃ l : List α, l.length = n ∧ ∀ i x, l[i]? = some x → p i x
  | 0, _ => ⟨[], rfl, fun i x h => by simp at h⟩
  | n + 1, h => by
    obtain ⟨l, hl, hp⟩ := list_of n (fun i hi => h i (by omega))
    obtain ⟨x, hx⟩ := h n (by omega)
    refine ⟨l ++ [x], by simp [hl], fun i y hy => ?_⟩
    rcases Nat.lt_or_ge i l.length with hi | hi
    · rw [List.getElem?_append_left hi] at hy; exact hp i y hy
    · rw [List.getElem?_append_right hi] at hy
      have : i = l.length := by
        rcases Nat.lt_or_ge (i - l.length) 1 with h1 | h1
        · omega
        · rw [List.getElem?_eq_none (by simpa using h1)] at hy; cases hy
      subst this
      simp at hy
      subst hy
      rw [hl]; exact hx

/-- A step of the acceptor's script. -/
structure Stp where
  r : Int
  n : Int
  acc : Bool
  val : ByteArray
def Stp.ok (s : Stp) : Prop := 0 ≤ s.r ∧ s.val.size ≤ 9223372036854775807
def StepAt (w : World) (b o : Nat) (s : Stp) : Prop :=
  w.cell? ⟨b, o, none⟩ = some (.int .u64 s.r) ∧ w.cell? ⟨b, o + 1, none⟩ = some (.int .i64 s.n) ∧ w.cell? ⟨b, o + 2, none⟩ = some (.bool s.acc) ∧ w.cell? ⟨b, o + 3, none⟩ = some (.string s.val)
def StepsAt (w : World) (A : Option Addr) (l : List Stp) : Prop :=
  l = [] ∨ ∃ b o, A = some ⟨b, o, none⟩ ∧ ∀ j s, l[j]? = some s → StepAt w b (o + j * 4) s
theorem StepAt.bel {w w' : World} {b o : Nat} {s : Stp} (h : StepAt w b o s) (hb : Below w.heap.size w w') : StepAt w' b o s := by
  have k : ∀ {o : Nat} {v : Value}, w.cell? ⟨b, o, none⟩ = some v → w'.cell? ⟨b, o, none⟩ = some v := fun {o v} h => (hb.cell (p := ⟨b, o, none⟩) (World.block_lt_of_cell? w _ h)).trans h
  exact ⟨k h.1, k h.2.1, k h.2.2.1, k h.2.2.2⟩
theorem StepsAt.bel {w w' : World} {A : Option Addr} {l : List Stp} (h : StepsAt w A l) (hb : Below w.heap.size w w') : StepsAt w' A l := by
  rcases h with h | ⟨b, o, e, h⟩
  · exact .inl h
  · exact .inr ⟨b, o, e, fun j s hj => (h j s hj).bel hb⟩

theorem wfU0 {n : Int} (h : (Lit.int .u64 n).wf = true) : 0 ≤ n := by
  simp [Lit.wf, IntKind.min, IntKind.max, IntKind.signed, IntKind.bits] at h
  omega

theorem Try.cells57 : Try.prog.cellsOf 57 = 4 := by kernel_rfl
theorem Try.cells24 : Try.prog.cellsOf 24 = 2 := by kernel_rfl
theorem Try.cells22 : Try.prog.cellsOf 22 = 1 := by kernel_rfl
theorem Try.cells3 : Try.prog.cellsOf 3 = 1 := by kernel_rfl
theorem Try.cells4 : Try.prog.cellsOf 4 = 1 := by kernel_rfl
theorem Try.cells9 : Try.prog.cellsOf 9 = 1 := by kernel_rfl

section
variable {H : Type} {enc : TypeId × Value → H} {w : World} {base : Nat} {spare : Nat → Bool} {held : Bool}
set_option maxRecDepth 100000 in
/-- A ballot's two cells. -/
theorem trod_ballot {fuel : Nat} {cs : List Value} {x : DataW H × List MemPlace} (h : DataW.trod enc Try.prog w base spare held fuel 24 cs = some x) :
    ∃ r n, cs = [.int .u64 r, .int .i64 n] ∧ 0 ≤ r := by
  obtain ⟨xs, n, _, _, hl, hlen, hf⟩ := DataW.trod_struct Try.underlying24 h
  rw [Try.cells24] at hl
  match cs, hl with
  | [c0, c1], _ =>
    have h0 : DataW.trod enc Try.prog w base spare held n 22 (([c0, c1].drop 0).take (Try.prog.cellsOf 22)) = xs[0]? := hf 0 _ rfl
    have h1 : DataW.trod enc Try.prog w base spare held n 3 (([c0, c1].drop 1).take (Try.prog.cellsOf 3)) = xs[1]? := hf 1 _ rfl
    rw [Try.cells22] at h0
    rw [Try.cells3] at h1
    match xs, hlen with
    | [x0, x1], _ =>
      obtain ⟨r, e0, _, w0⟩ := DataW.trod_int Try.underlying22 (by simpa using h0)
      obtain ⟨n', e1, _, _⟩ := DataW.trod_int Try.underlying3 (by simpa using h1)
      simp at e0 e1
      subst e0 e1
      exact ⟨r, n', rfl, wfU0 w0⟩
set_option maxRecDepth 100000 in
theorem trod_step {fuel : Nat} {cs : List Value} {x : DataW H × List MemPlace} (h : DataW.trod enc Try.prog w base spare held fuel 57 cs = some x) :
    ∃ s : Stp, s.ok ∧ cs = [.int .u64 s.r, .int .i64 s.n, .bool s.acc, .string s.val] := by
  obtain ⟨xs, n, _, _, hl, hlen, hf⟩ := DataW.trod_struct Try.underlying57 h
  rw [Try.cells57] at hl
  match cs, hl with
  | [c0, c1, c2, c3], _ =>
    have h0 : DataW.trod enc Try.prog w base spare held n 24 (([c0, c1, c2, c3].drop 0).take (Try.prog.cellsOf 24)) = xs[0]? := hf 0 _ rfl
    have h1 : DataW.trod enc Try.prog w base spare held n 4 (([c0, c1, c2, c3].drop 2).take (Try.prog.cellsOf 4)) = xs[1]? := hf 1 _ rfl
    have h2 : DataW.trod enc Try.prog w base spare held n 9 (([c0, c1, c2, c3].drop 3).take (Try.prog.cellsOf 9)) = xs[2]? := hf 2 _ rfl
    rw [Try.cells24] at h0
    rw [Try.cells4] at h1
    rw [Try.cells9] at h2
    match xs, hlen with
    | [x0, x1, x2], _ =>
      obtain ⟨r, n', e0, w0⟩ := trod_ballot (x := x0) (by simpa using h0)
      obtain ⟨b, e1, _⟩ := DataW.trod_bool Try.underlying4 (x := x1) (by simpa using h1)
      obtain ⟨s, e2, _, w2⟩ := DataW.trod_string Try.underlying9 (x := x2) (by simpa using h2)
      simp at e0 e1 e2
      obtain ⟨rfl, rfl⟩ := e0
      subst e1 e2
      exact ⟨⟨r, n', b, s⟩, ⟨w0, by simpa [maxLen] using w2⟩, rfl⟩
theorem open_steps {fuel : Nat} {cs : List Value} {x : DataW H × List MemPlace} (h : DataW.trod enc Try.prog w base spare held fuel 53 cs = some x) :
    ∃ A len cap, cs = [.slice A len cap] ∧ len ≤ 9223372036854775807 ∧ ∃ l : List Stp, l.length = len ∧ (∀ s ∈ l, s.ok) ∧ StepsAt w A l := by
  rcases Go.Deep.open_slice Try.underlying53 h with ⟨rfl, _⟩ | ⟨a, len, cap, m, n, D, Pl, rfl, _, hl, hm, hmm, _, hi⟩
  · exact ⟨none, 0, 0, rfl, by omega, [], rfl, by simp, .inl rfl⟩
  · refine ⟨some a, len, cap, rfl, by unfold maxLen at hm; omega, ?_⟩
    have hlm : len ≤ m := by rw [hmm]; split <;> omega
    rw [Try.cells57] at hi
    obtain ⟨l, hlen, hp⟩ := list_of (p := fun i (s : Stp) => s.ok ∧ ∀ j, j < 4 → w.cell? ((a.add (i * 4)).add j) = [Value.int .u64 s.r, .int .i64 s.n, .bool s.acc, .string s.val][j]?) len (fun i hil => by
      obtain ⟨cs', h1, h2⟩ := hi i (by omega)
      obtain ⟨_, _, h3⟩ := World.cells?_some h1
      obtain ⟨s, hs, rfl⟩ := trod_step h2
      exact ⟨s, hs, h3⟩)
    refine ⟨l, hlen, fun s hs => ?_, ?_⟩
    · obtain ⟨i, hi', rfl⟩ := List.getElem_of_mem hs
      exact (hp i _ (List.getElem?_eq_getElem hi')).1
    · by_cases h0 : len = 0
      · exact .inl (List.eq_nil_of_length_eq_zero (by omega))
      · right
        have hx := (hp 0 _ (List.getElem?_eq_getElem (by omega))).2 0 (by omega)
        obtain ⟨b, off, spot⟩ := a
        have hspot : spot = none := by simpa [Addr.add] using World.cell?_spot hx
        subst hspot
        refine ⟨b, off, rfl, fun j s hj => ?_⟩
        have hc := (hp j s hj).2
        have e : ∀ i, i < 4 → w.cell? ⟨b, off + j * 4 + i, none⟩ = [Value.int .u64 s.r, .int .i64 s.n, .bool s.acc, .string s.val][i]? := fun i hi => by
          have := hc i hi
          rw [Go.WideShapes.add_plain, Go.WideShapes.add_plain] at this
          exact this
        exact ⟨e 0 (by omega), e 1 (by omega), e 2 (by omega), e 3 (by omega)⟩
end

/-- Some answer, and nothing turned. -/
def SomeBool (w : World) (e : Ending) (w' : World) : Prop := ∃ b, e = .returned (.bool b) ∧ w = w'

set_option maxRecDepth 100000 in
set_option maxHeartbeats 1600000 in
theorem heavy12_any (A : Option Addr) (cap : Nat) (l : List Stp) (w : World) (hx : StepsAt w A l) (hl : l.length ≤ 9223372036854775807) :
    Calls Try.prog 33 #[.slice A l.length cap] w (SomeBool w) := by
  have HX := Lib.hid hx
  clear hx
  go_enter Try.func33, Try.ntmps33
  go_wp2
  go_loop [3, 4] (fun c i => ∃ (k : Nat) (x : Int), k ≤ l.length ∧ i = .int .i64 k ∧ c = .int .i64 x) (fun _ i => l.length - (intOf i).toNat)
  case atStart => exact ⟨0, 0, by omega, rfl, rfl⟩
  case round =>
    obtain ⟨k, x, hk, rfl, rfl⟩ := hrel
    by_cases hlt : k < l.length
    · by_cases h3 : (k : Int) < 300
      · obtain ⟨s, hs⟩ : ∃ s, l[k]? = some s := ⟨_, List.getElem?_eq_getElem hlt⟩
        obtain ⟨b, o, rfl, c0, c1, c2, c3⟩ : ∃ b o, A = some ⟨b, o, none⟩ ∧ StepAt w b (o + k * 4) s := by
          rcases HX.out with h0 | ⟨b, o, e, h⟩
          · rw [h0] at hlt; simp at hlt
          · exact ⟨b, o, e, h k s hs⟩
        clear hs
        go_wp2
        go_round
        case rel =>
          refine ⟨k + 1, ?_, by omega, by go_num, ?_⟩
          rotate_left
          · rfl
        case measure => simp [intOf]; omega
      · go_wp2
        all_goals go_ret
        all_goals exact ⟨_, rfl, rfl⟩
    · go_wp2
      all_goals go_ret
      all_goals exact ⟨_, rfl, rfl⟩

end Go.Proofs.Ytlgljcfkoakogaa
