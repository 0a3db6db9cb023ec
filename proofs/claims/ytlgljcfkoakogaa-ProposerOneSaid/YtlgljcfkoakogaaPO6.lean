import Derived.Test.YtlgljcfkoakogaaPO4
import Derived.Deep.Slices
import Derived.ChangeArms
import Derived.OpenShut
import Derived.SizedLaws
namespace Go.Proofs.Ytlgljcfkoakogaa
open Go.RowKit
set_option linter.unusedSimpArgs false
set_option linter.unusedVariables false


theorem weightsAll_mem {H : Type} {P : Program} {e : TypeId} : ∀ {l : List (DataW H)} {d : DataW H}, d ∈ l → ∀ n ∈ d.weights P e, n ∈ DataW.weightsAll P e l
  | x :: t, d, h, n, hn => by
    simp only [DataW.weightsAll, List.mem_append]
    rcases List.mem_cons.1 h with rfl | h
    · exact .inl hn
    · exact .inr (weightsAll_mem h n hn)
theorem weights_elem {H : Type} {P : Program} {t e : TypeId} {E S : List (DataW H)} {d : DataW H} (hu : P.underlying t = some (.slice e)) (hd : d ∈ E) (n : Nat) (hn : n ∈ d.weights P e) : n ∈ (DataW.slice E S).weights P t := by
  simp only [DataW.weights, hu, List.mem_cons, List.mem_append]
  exact .inr (.inl (weightsAll_mem hd n hn))
section
variable {H : Type} {enc : TypeId × Value → H} {w : World} {base : Nat} {spare : Nat → Bool} {held : Bool}
theorem open_strs {fuel : Nat} {cs : List Value} {x : DataW H × List MemPlace} (h : DataW.trod enc Try.prog w base spare held fuel 90 cs = some x) (hwt : ∀ n ∈ x.1.weights Try.prog 90, n ≤ reachBytes) :
    ∃ A len cap, cs = [.slice A len cap] ∧ ∃ l : List ByteArray, l.length = len ∧ (∀ v ∈ l, v.size ≤ 140737488351232) ∧ StrsAt w A l := by
  rcases Go.Deep.open_slice1 Try.underlying90 Try.cells9 h with ⟨rfl, _⟩ | ⟨a, len, cap, m, n, V, D, Pl, rfl, _, hl, hm, hmm, hx, hi⟩
  · exact ⟨none, 0, 0, rfl, [], rfl, by simp, .inl rfl⟩
  · refine ⟨some a, len, cap, rfl, ?_⟩
    have hlm : len ≤ m := by rw [hmm]; split <;> omega
    obtain ⟨l, hlen, hp⟩ := list_of (p := fun i (v : ByteArray) => v.size ≤ 140737488351232 ∧ w.cell? (a.add i) = some (.string v)) len (fun i hil => by
      obtain ⟨h1, h2⟩ := hi i (by omega)
      obtain ⟨s, e0, e1, e2⟩ := DataW.trod_string Try.underlying9 h2
      simp at e0
      refine ⟨s, ?_, by rw [h1, e0]⟩
      have h9 := hwt s.data.toList.length (by
        rw [hx]
        refine weights_elem Try.underlying90 (List.mem_map.2 ⟨i, List.mem_range.2 hil, rfl⟩) _ ?_
        injection e1 with e1 _
        rw [e1]
        simp [DataW.weights])
      simpa [reachBytes, ByteArray.toList_eq] using h9)
    refine ⟨l, hlen, fun s hs => ?_, ?_⟩
    · obtain ⟨i, hi', rfl⟩ := List.getElem_of_mem hs
      exact (hp i _ (List.getElem?_eq_getElem hi')).1
    · by_cases h0 : len = 0
      · exact .inl (List.eq_nil_of_length_eq_zero (by omega))
      · right
        have hx := (hp 0 _ (List.getElem?_eq_getElem (by omega))).2
        obtain ⟨b, off, spot⟩ := a
        have hspot : spot = none := by simpa [Addr.add] using World.cell?_spot hx
        subst hspot
        refine ⟨b, off, rfl, fun j s hj => ?_⟩
        have := (hp j s hj).2
        rw [Go.WideShapes.add_plain] at this
        exact this
end
theorem poneWalk (nn : Int) (a : Option Addr) (len cap : Nat) (l : List ByteArray) (a2 : Option Addr) (len2 cap2 : Nat) (zs : List Int) (w : World) (_ : (Lit.int .i64 nn).wf = true) (hlen : l.length = len) (hm : ∀ v ∈ l, v.size ≤ 140737488351232) (hx : StrsAt w a l)
    (h : (a2 = none ∧ len2 = 0 ∧ cap2 = 0 ∧ zs = []) ∨ ∃ x, a2 = some x ∧ len2 ≤ cap2 ∧ cap2 ≤ maxLen ∧ zs.length = cap2 ∧ (∀ i, i < zs.length → w.cell? (x.add i) = some (.int .u16 (zs.getD i 0))) ∧ ∀ n ∈ zs, (Lit.int .u16 n).wf = true) (_ : len2 * 2 ≤ 140737488351232) :
    Calls Try.prog 15 #[.int .i64 nn, .slice a len cap, .slice a2 len2 cap2] w fun e w' => e = .returned (.bool true) ∧ Below w.heap.size w w' := by
  subst hlen
  by_cases hg : nn < 1 ∨ 7 < nn ∨ 12 < l.length ∨ 100 < len2
  · exact pone_guard nn a a2 l.length cap len2 cap2 w hg
  · obtain ⟨xs, rfl, hx2, hr⟩ : ∃ xs : List Int, xs.length = len2 ∧ U16At w a2 xs ∧ ∀ z ∈ xs, 0 ≤ z ∧ z ≤ 65535 := by
      rcases h with ⟨rfl, rfl, rfl, rfl⟩ | ⟨x, rfl, hl, hm, hz, hc, hw⟩
      · exact ⟨[], rfl, .inl rfl, by simp⟩
      · refine ⟨zs.take len2, by simp; omega, ?_, fun z hz => Go.bounds_u16 (hw z (List.mem_of_mem_take hz))⟩
        by_cases h0 : len2 = 0
        · subst h0; exact .inl (by simp)
        · obtain ⟨b, off, rfl, hc2⟩ := Go.ints_at hc (by omega)
          refine .inr ⟨b, off, rfl, fun j hj => ?_⟩
          rw [List.length_take] at hj
          rw [hc2 j (by omega)]
          congr 2
          rw [List.getD_eq_getElem?_getD, List.getD_eq_getElem?_getD, List.getElem?_take, if_pos (by omega)]
    obtain ⟨N, rfl⟩ : ∃ N : Nat, nn = N := ⟨nn.toNat, by omega⟩
    exact pone_good N a a2 cap cap2 l xs w (by omega) (by omega) (by omega) (by omega) hx hm hx2 hr

end Go.Proofs.Ytlgljcfkoakogaa
