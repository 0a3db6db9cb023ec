import Derived.Test.YtbobbekbliichaaE15
namespace Go.Proofs.Ytbobbekbliichaa
open Go.RowKit
set_option linter.unusedSimpArgs false
set_option linter.unusedVariables false


def InRow (w : World) (a : Option Addr) (len cap : Nat) (zs : List Int) : Prop :=
  (a = none ∧ len = 0 ∧ cap = 0 ∧ zs = []) ∨ ∃ x, a = some x ∧ len ≤ cap ∧ cap ≤ maxLen ∧ zs.length = cap ∧ (∀ i, i < zs.length → w.cell? (x.add i) = some (.int .i64 (zs.getD i 0))) ∧ ∀ n ∈ zs, (Lit.int .i64 n).wf = true
theorem intsAt_arg {w : World} {a : Option Addr} {len cap : Nat} {zs : List Int} (h : InRow w a len cap zs) : ∃ xs : List Int, xs.length = len ∧ IntsAt w a xs ∧ (a = none → cap = 0) := by
  rcases h with ⟨rfl, rfl, rfl, rfl⟩ | ⟨x, rfl, hl, hm, hz, hc, _⟩
  · exact ⟨[], rfl, .inl rfl, fun _ => rfl⟩
  · refine ⟨zs.take len, by simp; omega, ?_, fun h => by cases h⟩
    by_cases h0 : len = 0
    · subst h0; exact .inl (by simp)
    · obtain ⟨b, off, spot⟩ := x
      have hx := hc 0 (by omega)
      have hspot : spot = none := by simpa [Addr.add] using World.cell?_spot hx
      subst hspot
      refine .inr ⟨b, off, rfl, fun i p hp => ?_⟩
      have hi : i < len := by have := (List.getElem?_eq_some_iff.1 hp).1; rw [List.length_take] at this; omega
      have := hc i (by omega)
      rw [Go.WideShapes.add_plain] at this
      rw [List.getElem?_take_of_lt hi] at hp
      simpa [List.getD_eq_getElem?_getD, hp] using this
set_option maxRecDepth 100000 in
theorem keeps_long (bl : Int) (A1 A2 A3 : Option Addr) (c1 c2 c3 n1 n2 n3 : Nat) (W : World) (hb : 0 ≤ bl ∧ bl ≤ 255) (y1 : n1 * 48 ≤ 140737488351232) (y2 : n2 * 48 ≤ 140737488351232) (y3 : n3 * 8 ≤ 140737488351232) (hl : 200 < n1 + n2 + n3) :
    Calls Try.prog 4 #[.int .u8 bl, .slice A1 n1 c1, .slice A2 n2 c2, .slice A3 n3 c3] W fun e W' => e = .returned (.bool true) ∧ Below W.heap.size W W' := by
  have h1 : (200 : Int) < (n1 : Int) + (n2 : Int) + (n3 : Int) := by omega
  have h2 : (n1 : Int) + (n2 : Int) + (n3 : Int) ≤ 9223372036854775807 := by omega
  have h3 : (n1 : Int) + (n2 : Int) ≤ 9223372036854775807 := by omega
  clear hl y1 y2 y3
  go_enter Try.func4, Try.ntmps4
  go_wp2_with (go_at_call 8; refine (alive_any _).mono ?_; rintro e w' ⟨rfl, hb⟩)
  go_ret
  exact ⟨rfl, hb⟩
theorem keepsWalk (bl : Int) (a1 : Option Addr) (n1 c1 : Nat) (l1 : List Stp) (a2 : Option Addr) (n2 c2 : Nat) (l2 : List Stp) (a3 : Option Addr) (n3 c3 : Nat) (zs : List Int) (W : World) (wb : (Lit.int .u8 bl).wf = true)
    (e1 : l1.length = n1) (o1 : ∀ s ∈ l1, s.ok) (s1 : StepsAt W a1 l1) (y1 : n1 * 48 ≤ 140737488351232) (e2 : l2.length = n2) (o2 : ∀ s ∈ l2, s.ok) (s2 : StepsAt W a2 l2) (y2 : n2 * 48 ≤ 140737488351232) (h : InRow W a3 n3 c3 zs) (y3 : n3 * 8 ≤ 140737488351232) :
    Calls Try.prog 4 #[.int .u8 bl, .slice a1 n1 c1, .slice a2 n2 c2, .slice a3 n3 c3] W fun e W' => e = .returned (.bool true) ∧ Below W.heap.size W W' := by
  by_cases hl : 200 < n1 + n2 + n3
  · exact keeps_long bl a1 a2 a3 c1 c2 c3 n1 n2 n3 W (wf8 wb) y1 y2 y3 hl
  · obtain ⟨xs, rfl, i0, c0⟩ := intsAt_arg h
    subst e1 e2
    exact keeps_walk bl a1 a2 a3 c1 c2 c3 l1 l2 xs W (wf8 wb) s1 s2 i0 (by omega) c0 (fun s hs => ⟨(o2 s hs).2.2.2.2.1, (o2 s hs).2.2.2.2.2.1⟩)

end Go.Proofs.Ytbobbekbliichaa
