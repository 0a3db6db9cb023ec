import Derived.Test.YtlgljcfkoakogaaA12
import Derived.Test.YtlgljcfkoakogaaA10
namespace Go.Proofs.Ytlgljcfkoakogaa
open Go.RowKit
set_option linter.unusedSimpArgs false
set_option linter.unusedVariables false


/-- A ballot as a map's key. -/
def keyV (r n : Int) : Value := .agg #[.int .u64 r, .int .i64 n]
theorem key_equal (r n r' n' : Int) (w : World) : (Op.equal 24 (keyV r n) (keyV r' n')).run Try.prog w = .ok (r == r' && n == n') w := by
  show (Op.equalIn (9999 + 1) 24 (.agg #[.int .u64 r, .int .i64 n]) (.agg #[.int .u64 r', .int .i64 n'])).run Try.prog w = _
  by_cases h1 : r = r' <;> by_cases h2 : n = n' <;> simp [go_sem, h1, h2]
theorem key_check (em : Bool) (r n : Int) (w : World) : (Instr.checkKey em 10000 24 (keyV r n)).run Try.prog w = .ok () w := by
  unfold keyV
  kernel_rfl
/-- No entry has the key. -/
def NoKey (r n : Int) (es : List MapEntry) : Prop := ∀ e ∈ es, ∃ r' n', e.key = keyV r' n' ∧ (r == r' && n == n') = false
theorem ask_none (r n : Int) (w : World) : ∀ (es : List MapEntry) (i : Nat), NoKey r n es → (Instr.findAsking 24 (keyV r n) es i).run Try.prog w = .ok none w
  | [], i, _ => by simp [Instr.findAsking, go_sem]
  | e :: es, i, h => by
    obtain ⟨r', n', hk, hne⟩ := h e (by simp)
    have ih := ask_none r n w es (i + 1) (fun x hx => h x (by simp [hx]))
    unfold Instr.findAsking
    rw [hk]
    simp [go_sem, key_equal, hne, ih]
theorem key_none (r n : Int) (w : World) (es : List MapEntry) (h : NoKey r n es) : (Instr.findKey 24 (keyV r n) es).run Try.prog w = .ok none w := by
  unfold Instr.findKey
  cases es with
  | nil => simp [Instr.findNow, go_sem]
  | cons e es =>
    have h1 := ask_none r n w (e :: es) 0 h
    simp [Instr.findNow, Instr.sameNow, go_sem, keyV] at h1 ⊢
    exact h1

end Go.Proofs.Ytlgljcfkoakogaa
