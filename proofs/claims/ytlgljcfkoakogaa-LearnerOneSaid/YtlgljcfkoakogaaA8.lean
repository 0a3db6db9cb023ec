import Derived.Test.YtlgljcfkoakogaaA7
import Derived.Laws.AppendOwnNone
import Derived.OpenShut
import Derived.BigQuiet
namespace Go.Proofs.Ytlgljcfkoakogaa
open Go.RowKit
set_option linter.unusedSimpArgs false
set_option linter.unusedVariables false

theorem Try.info3 : (Try.prog.info? 3).map (fun i => (i.zero, i.size, i.bytes)) = some (some (.int .i64 0), 1, 8) := by kernel_rfl

theorem ints_getD (xs : List Int) (j : Nat) (h : j < xs.length) : (xs.map (Value.int .i64))[j]? = some (.int .i64 (xs.getD j 0)) := by
  simp [List.getElem?_map, List.getD_eq_getElem?_getD, h]

/-- A row of the call's own reads as the list that it owns. -/
theorem intsAt_of_own {w : World} {base n cap : Nat} {A : Option Addr} {xs : List Int} (h : w.ownsRow base 3 1 (.slice A n cap) n (xs.map (Value.int .i64))) : IntsAt w A xs := by
  cases xs with
  | nil => exact .inl rfl
  | cons x t =>
    right
    rcases h.2 with ⟨he, h0⟩ | ⟨g, cap', cur, he, _, _, _⟩
    · have := h.1; simp at this; omega
    · injection he with hA _ _
      subst hA
      refine ⟨g, 0, rfl, fun j hj => ?_⟩
      have hl := h.1
      rw [Nat.zero_add, h.cellAt j (by simp at hl hj ⊢; omega)]
      exact ints_getD _ j hj

theorem own_shape {w : World} {base e size n : Nat} {v : Value} {xs : List Value} (h : w.ownsRow base e size v n xs) : ∃ A c, v = .slice A n c := by
  rcases h.2 with ⟨rfl, rfl⟩ | ⟨g, cap, cur, rfl, _⟩
  · exact ⟨none, 0, rfl⟩
  · exact ⟨_, cap, rfl⟩

/-- 'append([]int(nil), xs...)': a slice that reads as xs, whatever xs is. -/
theorem app_nil {ops : Array Oper} {rest : List Oper} {o : Oper} {a : Act} {Q : Exit → Act → World → Prop} {w : World} (hgd : o.guard = none) (s x : Operand)
    (ho : o.op = .call { callee := .builtin .append, args := #[s, x], argTypes := #[25, 25] }) (hs : a.eval s = .slice none 0 0)
    (A : Option Addr) (c : Nat) (xs : List Int) (hx : a.eval x = .slice A xs.length c) (hI : IntsAt w A xs) (hA : A = none → c = 0) (hl : xs.length * 8 ≤ 140737488351232)
    (h : ∀ A' c' w', IntsAt w' A' xs → Below w.heap.size w w' → wpList Try.prog ops Q rest (a.put o.dst (.slice A' xs.length c')) w') : wpList Try.prog ops Q (o :: rest) a w := by
  obtain ⟨i0, hi, hz0, hz1, hz2⟩ := info_parts Try.info3
  cases A with
  | none =>
    obtain rfl := hA rfl
    have hxs : xs = [] := by
      rcases hI with h0 | ⟨b, o, e, _⟩
      · exact h0
      · cases e
    subst hxs
    exact wpList_append_own_none hgd s x 25 ho w.heap.size 3 i0 1 Try.underlying25 hi (.slice none 0 0) 0 [] hs (World.ownsRow_nil _ _ _ _) hx (h none 0 w (.inl rfl) (Below.refl _ _))
  | some ad =>
    refine wpList_append_own w hgd s x 25 ho w.heap.size 3 i0 (.int .i64 0) 1 8 Try.underlying25 hi hz0 hz1 hz2 rfl (by decide) (.slice none 0 0) 0 [] hs (World.ownsRow_nil _ _ _ _) ad xs.length c (xs.map (Value.int .i64)) hx (by simp) ?_ ?_ (by unfold maxLen; omega) (by omega) (Nat.le_refl _) ?_
    · intro j u hu
      rcases hI with h0 | ⟨b, o, e, hc⟩
      · rw [h0] at hu; simp at hu
      · obtain rfl : ad = ⟨b, o, none⟩ := Option.some.inj e
        have hj : j < xs.length := by
          rcases Nat.lt_or_ge j xs.length with h | h
          · exact h
          · rw [List.getElem?_eq_none (by simpa using h)] at hu; cases hu
        rw [ints_getD _ j hj] at hu
        obtain rfl := Option.some.inj hu
        rw [Go.WideShapes.add_plain]
        exact hc j hj
    · intro u hu
      obtain ⟨n, _, rfl⟩ := List.mem_map.1 hu
      rfl
    · intro v' w' hown hg _
      rw [List.nil_append, Nat.zero_add] at hown
      obtain ⟨A', c', rfl⟩ := own_shape hown
      exact h A' c' w' (intsAt_of_own hown) ((Below.refl _ _).grown hg (Nat.le_refl _) (fun k e => by cases e))

end Go.Proofs.Ytlgljcfkoakogaa
