import Derived.Test.YtbobbekbliichaaE12
import Derived.Deep.Slices
import Derived.ChangeArms
import Derived.OpenShut
import Derived.Laws.AppendOwnNone
import Derived.ChangeSlices
namespace Go.Proofs.Ytbobbekbliichaa
open Go.RowKit
set_option linter.unusedSimpArgs false
set_option linter.unusedVariables false

theorem list_of {α : Type} {p : Nat → α → Prop} : ∀ n, (∀ i, i < n → ∃ x, p i x) → ∃ l : List α, l.length = n ∧ ∀ i x, l[i]? = some x → p i x
  | 0, _ => ⟨[], rfl, fun i x h => by simp at h⟩
  | n + 1, h => by
    obtain ⟨l, hl, hp⟩ := list_of n (fun i hi => h i (by omega))
    obtain ⟨x, hx⟩ := h n (by omega)
    refine ⟨l ++ [x], by simp [hl], fun i y hy => ?_⟩
    rcases Nat.lt_or_ge i l.length with hi | hi
    · rw [List.getElem?_append_left hi] at hy; exact hp i y hy
    · rw [List.getElem?_append_right hi] at hy
      have : i = l.length := by
        rcases Nat.lt_or_ge (i - l.length) 1 with h1 | h1
        · omega
        · rw [List.getElem?_eq_none (by simpa using h1)] at hy; cases hy
      subst this
      simp at hy
      subst hy
      rw [hl]; exact hx


/-- A step of the disk's script: what is done, the block, the byte, how many more; the picks. -/
structure Stp where
  act : Int
  b : Int
  c : Int
  odd : Int
  A : Option Addr
  cap : Nat
  ps : List Int
def Stp.ok (s : Stp) : Prop := 0 ≤ s.act ∧ s.act ≤ 255 ∧ -9223372036854775808 ≤ s.b ∧ s.b ≤ 9223372036854775807 ∧ 0 ≤ s.c ∧ s.c ≤ 255 ∧ 0 ≤ s.odd ∧ s.odd ≤ 255 ∧ s.ps.length ≤ 9223372036854775807 ∧ s.ps.length ≤ s.cap ∧ s.cap ≤ maxLen
/-- These ints lie there. -/
def IntsAt (w : World) (A : Option Addr) (ps : List Int) : Prop := ps = [] ∨ ∃ b o, A = some ⟨b, o, none⟩ ∧ ∀ i p, ps[i]? = some p → w.cell? ⟨b, o + i, none⟩ = some (.int .i64 p)
def StepAt (w : World) (b o : Nat) (s : Stp) : Prop :=
  w.cell? ⟨b, o, none⟩ = some (.int .u8 s.act) ∧ w.cell? ⟨b, o + 1, none⟩ = some (.int .i64 s.b) ∧ w.cell? ⟨b, o + 2, none⟩ = some (.int .u8 s.c) ∧ w.cell? ⟨b, o + 3, none⟩ = some (.int .u8 s.odd) ∧
    w.cell? ⟨b, o + 4, none⟩ = some (.slice s.A s.ps.length s.cap) ∧ IntsAt w s.A s.ps
def StepsAt (w : World) (A : Option Addr) (l : List Stp) : Prop :=
  l = [] ∨ ∃ b o, A = some ⟨b, o, none⟩ ∧ ∀ j s, l[j]? = some s → StepAt w b (o + j * 5) s
theorem IntsAt.bel {w w' : World} {A : Option Addr} {ps : List Int} (h : IntsAt w A ps) (hb : Below w.heap.size w w') : IntsAt w' A ps := by
  rcases h with h | ⟨b, o, e, h⟩
  · exact .inl h
  · exact .inr ⟨b, o, e, fun i p hp => Bel.cell (show Bel w w' from hb) (h i p hp)⟩
theorem StepAt.bel {w w' : World} {b o : Nat} {s : Stp} (h : StepAt w b o s) (hb : Below w.heap.size w w') : StepAt w' b o s := by
  have k : ∀ {o : Nat} {v : Value}, w.cell? ⟨b, o, none⟩ = some v → w'.cell? ⟨b, o, none⟩ = some v := fun {o v} h => (hb.cell (p := ⟨b, o, none⟩) (World.block_lt_of_cell? w _ h)).trans h
  exact ⟨k h.1, k h.2.1, k h.2.2.1, k h.2.2.2.1, k h.2.2.2.2.1, h.2.2.2.2.2.bel hb⟩
theorem StepsAt.bel {w w' : World} {A : Option Addr} {l : List Stp} (h : StepsAt w A l) (hb : Below w.heap.size w w') : StepsAt w' A l := by
  rcases h with h | ⟨b, o, e, h⟩
  · exact .inl h
  · exact .inr ⟨b, o, e, fun j s hj => (h j s hj).bel hb⟩
theorem wf8 {n : Int} (h : (Lit.int .u8 n).wf = true) : 0 ≤ n ∧ n ≤ 255 := by
  simp [Lit.wf, IntKind.min, IntKind.max, IntKind.signed, IntKind.bits] at h
  omega
theorem wf64 {n : Int} (h : (Lit.int .i64 n).wf = true) : -9223372036854775808 ≤ n ∧ n ≤ 9223372036854775807 := by
  simp [Lit.wf, IntKind.min, IntKind.max, IntKind.signed, IntKind.bits] at h
  omega
theorem Try.cells35 : Try.prog.cellsOf 35 = 5 := by kernel_rfl
theorem Try.cells5 : Try.prog.cellsOf 5 = 1 := by kernel_rfl
theorem Try.cells3 : Try.prog.cellsOf 3 = 1 := by kernel_rfl
theorem Try.cells33 : Try.prog.cellsOf 33 = 1 := by kernel_rfl
section
variable {H : Type} {enc : TypeId × Value → H} {w : World} {base : Nat} {spare : Nat → Bool} {held : Bool}
theorem trod_picks {fuel : Nat} {cs : List Value} {x : DataW H × List MemPlace} (h : DataW.trod enc Try.prog w base spare held fuel 33 cs = some x) :
    ∃ A cap ps, cs = [.slice A ps.length cap] ∧ List.length ps ≤ 9223372036854775807 ∧ List.length ps ≤ cap ∧ cap ≤ maxLen ∧ IntsAt w A ps := by
  rcases Go.ChangeShapes.open_ints Try.underlying33 Try.underlying3 (by kernel_rfl) h with ⟨hcs, hd0⟩ | ⟨a, l, c, zs, hcs, _, hl, hm, hz, hd0, hcell, hwz⟩
  · exact ⟨none, 0, [], hcs, by simp, by simp, by simp [maxLen], .inl rfl⟩
  · have hz2 : l ≤ zs.length := by rw [hz]; split <;> omega
    have hlen : (zs.take l).length = l := by rw [List.length_take]; omega
    refine ⟨some a, c, zs.take l, by rw [hlen]; exact hcs, by rw [hlen]; unfold maxLen at hm; omega, by rw [hlen]; exact hl, hm, ?_⟩
    by_cases h0 : l = 0
    · left; rw [h0]; rfl
    · right
      obtain ⟨b, off, spot⟩ := a
      have hx := hcell 0 (by omega)
      have hspot : spot = none := by simpa [Addr.add] using World.cell?_spot hx
      subst hspot
      refine ⟨b, off, rfl, fun i p hp => ?_⟩
      have hi : i < l := by have := (List.getElem?_eq_some_iff.1 hp).1; omega
      have := hcell i (by omega)
      rw [Go.WideShapes.add_plain] at this
      rw [List.getElem?_take_of_lt hi] at hp
      simpa [List.getD_eq_getElem?_getD, hp] using this
set_option maxRecDepth 100000 in
theorem trod_step {fuel : Nat} {cs : List Value} {x : DataW H × List MemPlace} (h : DataW.trod enc Try.prog w base spare held fuel 35 cs = some x) :
    ∃ s : Stp, s.ok ∧ cs = [.int .u8 s.act, .int .i64 s.b, .int .u8 s.c, .int .u8 s.odd, .slice s.A s.ps.length s.cap] ∧ IntsAt w s.A s.ps := by
  obtain ⟨xs, n, _, _, hl, hlen, hf⟩ := DataW.trod_struct Try.underlying35 h
  rw [Try.cells35] at hl
  match cs, hl with
  | [c0, c1, c2, c3, c4], _ =>
    have h0 : DataW.trod enc Try.prog w base spare held n 5 (([c0, c1, c2, c3, c4].drop 0).take (Try.prog.cellsOf 5)) = xs[0]? := hf 0 _ rfl
    have h1 : DataW.trod enc Try.prog w base spare held n 3 (([c0, c1, c2, c3, c4].drop 1).take (Try.prog.cellsOf 3)) = xs[1]? := hf 1 _ rfl
    have h2 : DataW.trod enc Try.prog w base spare held n 5 (([c0, c1, c2, c3, c4].drop 2).take (Try.prog.cellsOf 5)) = xs[2]? := hf 2 _ rfl
    have h3 : DataW.trod enc Try.prog w base spare held n 5 (([c0, c1, c2, c3, c4].drop 3).take (Try.prog.cellsOf 5)) = xs[3]? := hf 3 _ rfl
    have h4 : DataW.trod enc Try.prog w base spare held n 33 (([c0, c1, c2, c3, c4].drop 4).take (Try.prog.cellsOf 33)) = xs[4]? := hf 4 _ rfl
    rw [Try.cells5] at h0 h2 h3
    rw [Try.cells3] at h1
    rw [Try.cells33] at h4
    match xs, hlen with
    | [x0, x1, x2, x3, x4], _ =>
      obtain ⟨a0, e0, _, w0⟩ := DataW.trod_int Try.underlying5 (x := x0) (by simpa using h0)
      obtain ⟨a1, e1, _, w1⟩ := DataW.trod_int Try.underlying3 (x := x1) (by simpa using h1)
      obtain ⟨a2, e2, _, w2⟩ := DataW.trod_int Try.underlying5 (x := x2) (by simpa using h2)
      obtain ⟨a3, e3, _, w3⟩ := DataW.trod_int Try.underlying5 (x := x3) (by simpa using h3)
      obtain ⟨A, cap, ps, e4, hp, hp2, hp3, hi⟩ := trod_picks (x := x4) (by simpa using h4)
      simp at e0 e1 e2 e3 e4
      subst e0 e1 e2 e3 e4
      exact ⟨⟨a0, a1, a2, a3, A, cap, ps⟩, ⟨(wf8 w0).1, (wf8 w0).2, (wf64 w1).1, (wf64 w1).2, (wf8 w2).1, (wf8 w2).2, (wf8 w3).1, (wf8 w3).2, hp, hp2, hp3⟩, rfl, hi⟩
theorem open_steps {fuel : Nat} {cs : List Value} {x : DataW H × List MemPlace} (h : DataW.trod enc Try.prog w base spare held fuel 22 cs = some x) :
    ∃ A len cap, cs = [.slice A len cap] ∧ (len = 0 ∨ ∃ E S, x.1 = .slice E S ∧ E.length = len) ∧ ∃ l : List Stp, l.length = len ∧ (∀ s ∈ l, s.ok) ∧ StepsAt w A l := by
  rcases Go.Deep.open_slice Try.underlying22 h with ⟨rfl, _⟩ | ⟨a, len, cap, m, n, D, Pl, rfl, _, hl, hm, hmm, hx, hi⟩
  · exact ⟨none, 0, 0, rfl, .inl rfl, [], rfl, by simp, .inl rfl⟩
  · refine ⟨some a, len, cap, rfl, .inr ⟨_, _, by rw [hx], by simp⟩, ?_⟩
    have hlm : len ≤ m := by rw [hmm]; split <;> omega
    rw [Try.cells35] at hi
    obtain ⟨l, hlen, hp⟩ := list_of (p := fun i (s : Stp) => s.ok ∧ IntsAt w s.A s.ps ∧ ∀ j, j < 5 → w.cell? ((a.add (i * 5)).add j) = [Value.int .u8 s.act, .int .i64 s.b, .int .u8 s.c, .int .u8 s.odd, .slice s.A s.ps.length s.cap][j]?) len (fun i hil => by
      obtain ⟨cs', h1, h2⟩ := hi i (by omega)
      obtain ⟨_, _, h3⟩ := World.cells?_some h1
      obtain ⟨s, hs, rfl, hi⟩ := trod_step h2
      exact ⟨s, hs, hi, h3⟩)
    refine ⟨l, hlen, fun s hs => ?_, ?_⟩
    · obtain ⟨i, hi', rfl⟩ := List.getElem_of_mem hs
      exact (hp i _ (List.getElem?_eq_getElem hi')).1
    · by_cases h0 : len = 0
      · exact .inl (List.eq_nil_of_length_eq_zero (by omega))
      · right
        have hx := (hp 0 _ (List.getElem?_eq_getElem (by omega))).2.2 0 (by omega)
        obtain ⟨b, off, spot⟩ := a
        have hspot : spot = none := by simpa [Addr.add] using World.cell?_spot hx
        subst hspot
        refine ⟨b, off, rfl, fun j s hj => ?_⟩
        have hc := (hp j s hj).2.2
        have e : ∀ i, i < 5 → w.cell? ⟨b, off + j * 5 + i, none⟩ = [Value.int .u8 s.act, .int .i64 s.b, .int .u8 s.c, .int .u8 s.odd, .slice s.A s.ps.length s.cap][i]? := fun i hi => by
          have := hc i hi
          rw [Go.WideShapes.add_plain, Go.WideShapes.add_plain] at this
          exact this
        exact ⟨e 0 (by omega), e 1 (by omega), e 2 (by omega), e 3 (by omega), e 4 (by omega), (hp j s hj).2.1⟩
end

end Go.Proofs.Ytbobbekbliichaa
