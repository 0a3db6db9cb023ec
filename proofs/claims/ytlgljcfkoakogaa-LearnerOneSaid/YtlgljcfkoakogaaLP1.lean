import Derived.Test.YtlgljcfkoakogaaB6
import Derived.Deep.Slices
import Derived.ChangeArms
import Derived.OpenShut
namespace Go.Proofs.Ytlgljcfkoakogaa
open Go.RowKit
set_option linter.unusedSimpArgs false
set_option linter.unusedVariables false


/-- A step of the learner's script. -/
structure St4 where
  x : Int
  r : Int
  n : Int
  val : ByteArray
  told : Bool
def St4.ok (s : St4) : Prop := 0 ≤ s.r
def St4At (w : World) (b o : Nat) (s : St4) : Prop :=
  w.cell? ⟨b, o, none⟩ = some (.int .i64 s.x) ∧ w.cell? ⟨b, o + 1, none⟩ = some (.int .u64 s.r) ∧ w.cell? ⟨b, o + 2, none⟩ = some (.int .i64 s.n) ∧ w.cell? ⟨b, o + 3, none⟩ = some (.string s.val) ∧ w.cell? ⟨b, o + 4, none⟩ = some (.bool s.told)
def St4sAt (w : World) (A : Option Addr) (l : List St4) : Prop :=
  l = [] ∨ ∃ b o, A = some ⟨b, o, none⟩ ∧ ∀ j s, l[j]? = some s → St4At w b (o + j * 5) s
theorem St4At.bel {w w' : World} {b o : Nat} {s : St4} (h : St4At w b o s) (hb : Below w.heap.size w w') : St4At w' b o s := by
  have k : ∀ {o : Nat} {v : Value}, w.cell? ⟨b, o, none⟩ = some v → w'.cell? ⟨b, o, none⟩ = some v := fun {o v} h => (hb.cell (p := ⟨b, o, none⟩) (World.block_lt_of_cell? w _ h)).trans h
  exact ⟨k h.1, k h.2.1, k h.2.2.1, k h.2.2.2.1, k h.2.2.2.2⟩
theorem St4sAt.bel {w w' : World} {A : Option Addr} {l : List St4} (h : St4sAt w A l) (hb : Below w.heap.size w w') : St4sAt w' A l := by
  rcases h with h | ⟨b, o, e, h⟩
  · exact .inl h
  · exact .inr ⟨b, o, e, fun j s hj => (h j s hj).bel hb⟩
theorem Try.cells73 : Try.prog.cellsOf 73 = 5 := by kernel_rfl
section
variable {H : Type} {enc : TypeId × Value → H} {w : World} {base : Nat} {spare : Nat → Bool} {held : Bool}
set_option maxRecDepth 100000 in
theorem trod_st4 {fuel : Nat} {cs : List Value} {x : DataW H × List MemPlace} (h : DataW.trod enc Try.prog w base spare held fuel 73 cs = some x) :
    ∃ s : St4, s.ok ∧ cs = [.int .i64 s.x, .int .u64 s.r, .int .i64 s.n, .string s.val, .bool s.told] := by
  obtain ⟨xs, n, _, _, hl, hlen, hf⟩ := DataW.trod_struct Try.underlying73 h
  rw [Try.cells73] at hl
  match cs, hl with
  | [c0, c1, c2, c3, c4], _ =>
    have h0 : DataW.trod enc Try.prog w base spare held n 3 (([c0, c1, c2, c3, c4].drop 0).take (Try.prog.cellsOf 3)) = xs[0]? := hf 0 _ rfl
    have h1 : DataW.trod enc Try.prog w base spare held n 24 (([c0, c1, c2, c3, c4].drop 1).take (Try.prog.cellsOf 24)) = xs[1]? := hf 1 _ rfl
    have h2 : DataW.trod enc Try.prog w base spare held n 9 (([c0, c1, c2, c3, c4].drop 3).take (Try.prog.cellsOf 9)) = xs[2]? := hf 2 _ rfl
    have h3 : DataW.trod enc Try.prog w base spare held n 4 (([c0, c1, c2, c3, c4].drop 4).take (Try.prog.cellsOf 4)) = xs[3]? := hf 3 _ rfl
    rw [Try.cells3] at h0
    rw [Try.cells24] at h1
    rw [Try.cells9] at h2
    rw [Try.cells4] at h3
    match xs, hlen with
    | [x0, x1, x2, x3], _ =>
      obtain ⟨x', e0, _, _⟩ := DataW.trod_int Try.underlying3 (x := x0) (by simpa using h0)
      obtain ⟨r, n', e1, w1⟩ := trod_ballot (x := x1) (by simpa using h1)
      obtain ⟨s, e2, _, w2⟩ := DataW.trod_string Try.underlying9 (x := x2) (by simpa using h2)
      obtain ⟨b, e3, _⟩ := DataW.trod_bool Try.underlying4 (x := x3) (by simpa using h3)
      simp at e0 e1 e2 e3
      obtain ⟨rfl, rfl⟩ := e1
      subst e0 e2 e3
      exact ⟨⟨x', r, n', s, b⟩, w1, rfl⟩
theorem open_st4s {fuel : Nat} {cs : List Value} {x : DataW H × List MemPlace} (h : DataW.trod enc Try.prog w base spare held fuel 65 cs = some x) :
    ∃ A len cap, cs = [.slice A len cap] ∧ len ≤ 9223372036854775807 ∧ ∃ l : List St4, l.length = len ∧ (∀ s ∈ l, s.ok) ∧ St4sAt w A l := by
  rcases Go.Deep.open_slice Try.underlying65 h with ⟨rfl, _⟩ | ⟨a, len, cap, m, n, D, Pl, rfl, _, hl, hm, hmm, _, hi⟩
  · exact ⟨none, 0, 0, rfl, by omega, [], rfl, by simp, .inl rfl⟩
  · refine ⟨some a, len, cap, rfl, by unfold maxLen at hm; omega, ?_⟩
    have hlm : len ≤ m := by rw [hmm]; split <;> omega
    rw [Try.cells73] at hi
    obtain ⟨l, hlen, hp⟩ := list_of (p := fun i (s : St4) => s.ok ∧ ∀ j, j < 5 → w.cell? ((a.add (i * 5)).add j) = [Value.int .i64 s.x, .int .u64 s.r, .int .i64 s.n, .string s.val, .bool s.told][j]?) len (fun i hil => by
      obtain ⟨cs', h1, h2⟩ := hi i (by omega)
      obtain ⟨_, _, h3⟩ := World.cells?_some h1
      obtain ⟨s, hs, rfl⟩ := trod_st4 h2
      exact ⟨s, hs, h3⟩)
    refine ⟨l, hlen, fun s hs => ?_, ?_⟩
    · obtain ⟨i, hi', rfl⟩ := List.getElem_of_mem hs
      exact (hp i _ (List.getElem?_eq_getElem hi')).1
    · by_cases h0 : len = 0
      · exact .inl (List.eq_nil_of_length_eq_zero (by omega))
      · right
        have hx := (hp 0 _ (List.getElem?_eq_getElem (by omega))).2 0 (by omega)
        obtain ⟨b, off, spot⟩ := a
        have hspot : spot = none := by simpa [Addr.add] using World.cell?_spot hx
        subst hspot
        refine ⟨b, off, rfl, fun j s hj => ?_⟩
        have hc := (hp j s hj).2
        have e : ∀ i, i < 5 → w.cell? ⟨b, off + j * 5 + i, none⟩ = [Value.int .i64 s.x, .int .u64 s.r, .int .i64 s.n, .string s.val, .bool s.told][i]? := fun i hi => by
          have := hc i hi
          rw [Go.WideShapes.add_plain, Go.WideShapes.add_plain] at this
          exact this
        exact ⟨e 0 (by omega), e 1 (by omega), e 2 (by omega), e 3 (by omega), e 4 (by omega)⟩
end
def Hv14 (l : List St4) (w : World) (e : Ending) (w' : World) : Prop := ∃ b, e = .returned (.bool b) ∧ (b = false → l.length ≤ 200) ∧ w = w'
set_option maxRecDepth 100000 in
set_option maxHeartbeats 1600000 in
theorem heavy14_any (A : Option Addr) (cap : Nat) (l : List St4) (w : World) (hx : St4sAt w A l) (hl : l.length ≤ 9223372036854775807) :
    Calls Try.prog 39 #[.slice A l.length cap] w (Hv14 l w) := by
  have HX := Lib.hid hx
  clear hx
  go_enter Try.func39, Try.ntmps39
  go_wp2
  go_loop [3, 4] (fun c i => ∃ (k : Nat) (x : Int), k ≤ l.length ∧ i = .int .i64 k ∧ c = .int .i64 x) (fun _ i => l.length - (intOf i).toNat)
  case atStart => exact ⟨0, 0, by omega, rfl, rfl⟩
  case round =>
    obtain ⟨k, x, hk, rfl, rfl⟩ := hrel
    have HK := Lib.hid hk
    by_cases hlt : k < l.length ∧ (k : Int) < 300
    · obtain ⟨hlt, h3⟩ := hlt
      obtain ⟨s, hs⟩ : ∃ s, l[k]? = some s := ⟨_, List.getElem?_eq_getElem hlt⟩
      obtain ⟨b, o, rfl, c0, c1, c2, c3, c4⟩ : ∃ b o, A = some ⟨b, o, none⟩ ∧ St4At w b (o + k * 5) s := by
        rcases HX.out with h0 | ⟨b, o, e, h⟩
        · rw [h0] at hlt; simp at hlt
        · exact ⟨b, o, e, h k s hs⟩
      clear hs
      go_wp2
      go_round
      case rel =>
        refine ⟨k + 1, ?_, by omega, by go_num, ?_⟩
        rotate_left
        · rfl
      case measure => simp [intOf]; omega
    · by_cases h2 : (200 : Int) < (l.length : Int)
      · go_wp2
        all_goals go_ret
        all_goals exact ⟨_, rfl, fun e => by simp at e, rfl⟩
      · go_wp2
        all_goals go_ret
        all_goals exact ⟨_, rfl, fun _ => by omega, rfl⟩

end Go.Proofs.Ytlgljcfkoakogaa
