import Derived.Test.YtbobbekbliichaaE18
namespace Go.Proofs.Ytbobbekbliichaa
open Go.RowKit
set_option linter.unusedSimpArgs false
set_option linter.unusedVariables false


set_option maxRecDepth 100000 in
theorem ends_long (bl : Int) (A1 A2 : Option Addr) (c1 c2 n1 n2 : Nat) (W : World) (hb : 0 ≤ bl ∧ bl ≤ 255) (y1 : n1 * 48 ≤ 140737488351232) (y2 : n2 * 48 ≤ 140737488351232) (hl : 200 < n1 + n2) :
    Calls Try.prog 6 #[.int .u8 bl, .slice A1 n1 c1, .slice A2 n2 c2] W fun e W' => e = .returned (.bool true) ∧ Below W.heap.size W W' := by
  have h1 : (200 : Int) < (n1 : Int) + (n2 : Int) := by omega
  have h3 : (n1 : Int) + (n2 : Int) ≤ 9223372036854775807 := by omega
  clear hl y1 y2
  go_enter Try.func6, Try.ntmps6
  go_wp2_with (go_at_call 8; refine (alive_any _).mono ?_; rintro e w' ⟨rfl, hb⟩)
  go_ret
  exact ⟨rfl, hb⟩
theorem endsWalk (bl : Int) (a1 : Option Addr) (n1 c1 : Nat) (l1 : List Stp) (a2 : Option Addr) (n2 c2 : Nat) (l2 : List Stp) (W : World) (wb : (Lit.int .u8 bl).wf = true)
    (e1 : l1.length = n1) (o1 : ∀ s ∈ l1, s.ok) (s1 : StepsAt W a1 l1) (y1 : n1 * 48 ≤ 140737488351232) (e2 : l2.length = n2) (o2 : ∀ s ∈ l2, s.ok) (s2 : StepsAt W a2 l2) (y2 : n2 * 48 ≤ 140737488351232) :
    Calls Try.prog 6 #[.int .u8 bl, .slice a1 n1 c1, .slice a2 n2 c2] W fun e W' => e = .returned (.bool true) ∧ Below W.heap.size W W' := by
  by_cases hl : 200 < n1 + n2
  · exact ends_long bl a1 a2 c1 c2 n1 n2 W (wf8 wb) y1 y2 hl
  · subst e1 e2
    exact ends_walk bl a1 a2 c1 c2 l1 l2 W (wf8 wb) s1 s2 (by omega)

end Go.Proofs.Ytbobbekbliichaa
