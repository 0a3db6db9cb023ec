import Derived.Test.YtlgljcfkoakogaaC2
namespace Go.Proofs.Ytlgljcfkoakogaa
open Go.RowKit
set_option linter.unusedSimpArgs false
set_option linter.unusedVariables false


/-- Every key of the map is a ballot that is not above this one. -/
def KeysBelow (es : Array MapEntry) (clk : Nat) (r n : Int) : Prop := ∀ e ∈ es, e.born < clk ∧ ∃ r' n', e.key = keyV r' n' ∧ cmpB r' n' r n ≤ 0
theorem KeysBelow.nil (r n : Int) : KeysBelow #[] 0 r n := fun e h => by simp at h
theorem KeysBelow.no {es : Array MapEntry} {clk : Nat} {r n x k : Int} (h : KeysBelow es clk r n) (hx : cmpB x k r n = 1) : NoKey x k es.toList := by
  intro e he
  obtain ⟨_, r', n', hk, hc⟩ := h e (Array.mem_toList_iff.1 he)
  refine ⟨r', n', hk, ?_⟩
  have h1 := cmpB_vals r' n' r n
  have h2 := cmpB_vals x k r n
  simp
  intro e1 e2
  subst e1 e2
  omega
theorem KeysBelow.fresh {es : Array MapEntry} {clk : Nat} {r n : Int} (h : KeysBelow es clk r n) : ∀ e ∈ es, e.born ≠ clk := fun e he => Nat.ne_of_lt (h e he).1
theorem KeysBelow.push {es : Array MapEntry} {clk : Nat} {r n x k : Int} {v : Value} (h : KeysBelow es clk r n) (hx : cmpB x k r n = 1) : KeysBelow (es.push { key := keyV x k, val := v, born := clk }) (clk + 1) x k := by
  intro e he
  rcases Array.mem_push.1 he with he | rfl
  · obtain ⟨h1, r', n', hk, hc⟩ := h e he
    refine ⟨by omega, r', n', hk, cmpB_trans _ _ _ _ _ _ hc ?_⟩
    have := cmpB_sym x k r n
    omega
  · refine ⟨by simp, x, k, rfl, ?_⟩
    have := cmpB_vals x k x k
    omega

end Go.Proofs.Ytlgljcfkoakogaa
