import Derived.Test.YtlgljcfkoakogaaC3
namespace Go.Proofs.Ytlgljcfkoakogaa
open Go.RowKit
set_option linter.unusedSimpArgs false
set_option linter.unusedVariables false


theorem ask_push (r n : Int) (v : Value) (clk : Nat) (w : World) : ∀ (es : List MapEntry) (i : Nat), NoKey r n es → (Instr.findAsking 24 (keyV r n) (es ++ [{ key := keyV r n, val := v, born := clk }]) i).run Try.prog w = .ok (some (i + es.length, v)) w
  | [], i, _ => by
    unfold Instr.findAsking
    simp [go_sem, key_equal]
  | e :: es, i, h => by
    obtain ⟨r', n', hk, hne⟩ := h e (by simp)
    have ih := ask_push r n v clk w es (i + 1) (fun x hx => h x (by simp [hx]))
    rw [List.cons_append]
    unfold Instr.findAsking
    rw [hk]
    simp [go_sem, key_equal, hne, ih]
    omega
theorem key_push (r n : Int) (v : Value) (clk : Nat) (w : World) (es : List MapEntry) (h : NoKey r n es) :
    (Instr.findKey 24 (keyV r n) (es ++ [{ key := keyV r n, val := v, born := clk }])).run Try.prog w = .ok (some (es.length, v)) w := by
  have h1 := ask_push r n v clk w es 0 h
  unfold Instr.findKey
  cases es with
  | nil =>
    simp [Instr.findNow, Instr.sameNow, go_sem, keyV] at h1 ⊢
    exact h1
  | cons e es =>
    simp [Instr.findNow, Instr.sameNow, go_sem, keyV] at h1 ⊢
    exact h1
theorem lookup_push (r n : Int) (gm : Nat) (es : Array MapEntry) (clk c : Nat) (v : Value) (w : World) (h : w.heap[gm]? = some (.map (es.push { key := keyV r n, val := v, born := c }) clk)) (hn : NoKey r n es.toList) :
    (Instr.lookup 42 (.map (some gm)) (keyV r n) false).run Try.prog w = .ok v w := by
  have h1 := key_push r n v c w es.toList hn
  have h2 := key_check (es.push { key := keyV r n, val := v, born := c }).isEmpty r n w
  have h3 := run_getMap h
  unfold Instr.lookup
  simp [go_sem] at h2
  simp [go_sem, h2, h3]
  rw [h1]
  simp [go_sem]

end Go.Proofs.Ytlgljcfkoakogaa
