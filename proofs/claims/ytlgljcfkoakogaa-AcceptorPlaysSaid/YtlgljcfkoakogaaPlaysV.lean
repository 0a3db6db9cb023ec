import Derived.Test.YtlgljcfkoakogaaPlays
namespace Go.Proofs.Ytlgljcfkoakogaa
open Go.RowKit
set_option linter.unusedSimpArgs false
set_option linter.unusedVariables false


theorem Try.cells46 : Try.prog.cellsOf 46 = 4 := by kernel_rfl
section
variable {H : Type} {enc : TypeId × Value → H} {w : World} {base : Nat} {spare : Nat → Bool} {held : Bool}
set_option maxRecDepth 100000 in
/-- A vote's four cells. -/
theorem trod_vote {fuel : Nat} {cs : List Value} {x : DataW H × List MemPlace} (h : DataW.trod enc Try.prog w base spare held fuel 46 cs = some x) :
    ∃ has vr vn val, cs = [.bool has, .int .u64 vr, .int .i64 vn, .string val] ∧ ByteArray.size val ≤ 9223372036854775807 := by
  obtain ⟨xs, n, _, _, hl, hlen, hf⟩ := DataW.trod_struct Try.underlying46 h
  rw [Try.cells46] at hl
  match cs, hl with
  | [c0, c1, c2, c3], _ =>
    have h0 : DataW.trod enc Try.prog w base spare held n 4 (([c0, c1, c2, c3].drop 0).take (Try.prog.cellsOf 4)) = xs[0]? := hf 0 _ rfl
    have h1 : DataW.trod enc Try.prog w base spare held n 24 (([c0, c1, c2, c3].drop 1).take (Try.prog.cellsOf 24)) = xs[1]? := hf 1 _ rfl
    have h2 : DataW.trod enc Try.prog w base spare held n 9 (([c0, c1, c2, c3].drop 3).take (Try.prog.cellsOf 9)) = xs[2]? := hf 2 _ rfl
    rw [Try.cells4] at h0
    rw [Try.cells24] at h1
    rw [Try.cells9] at h2
    match xs, hlen with
    | [x0, x1, x2], _ =>
      obtain ⟨b, e0, _⟩ := DataW.trod_bool Try.underlying4 (x := x0) (by simpa using h0)
      obtain ⟨r, n', e1, w1⟩ := trod_ballot (x := x1) (by simpa using h1)
      obtain ⟨s, e2, _, w2⟩ := DataW.trod_string Try.underlying9 (x := x2) (by simpa using h2)
      simp at e0 e1 e2
      obtain ⟨rfl, rfl⟩ := e1
      subst e0 e2
      exact ⟨b, r, n', s, rfl, by simpa [maxLen] using w2⟩
end

end Go.Proofs.Ytlgljcfkoakogaa
