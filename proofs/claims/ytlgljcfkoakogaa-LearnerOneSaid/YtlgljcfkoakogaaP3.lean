import Derived.Test.YtlgljcfkoakogaaP2
import Derived.OwnWalk
import Derived.Maps.AppendAt
namespace Go.Proofs.Ytlgljcfkoakogaa
open Go.RowKit
set_option linter.unusedSimpArgs false
set_option linter.unusedVariables false


/-- 'append(s, x)' of a row of ints: where the new row lies. -/
theorem app_foot {w : World} {v : Value} {k : Nat} {xs : List Value} (hown : w.ownsRow 0 3 1 v k xs) (hk : k ≤ 1000000) (ty : TypeId) (a : Addr) (c : Nat) (x : Value) (hnews : ∀ j u, [x][j]? = some u → w.cell? (a.add j) = some u) (h1 : x.oneCell' = true) :
    ∃ v' w', (Builtin.append_ #[25, 25] ty #[v, .slice (some a) 1 c]).run Try.prog w = .ok v' w' ∧ w'.ownsRow 0 3 1 v' (k + 1) (xs ++ [x]) ∧ w.grownBy w' v.ownBlock ∧ (∀ j, v'.ownBlock = some j → v.ownBlock = some j ∨ w.heap.size ≤ j) := by
  obtain ⟨i0, hi, iz0, iz1, iz2⟩ := info_parts Try.info3
  obtain ⟨v', w', hr, ho, hg, _⟩ := run_append_own (P := Try.prog) w 0 25 ty 3 i0 (.int .i64 0) 1 8 Try.underlying25 hi iz0 iz1 iz2 rfl (by decide) v k xs hown a 1 c [x] rfl hnews (by simpa using h1) (by unfold maxLen; omega) (by omega) (Nat.zero_le _)
  refine ⟨v', w', hr, ho, hg, ?_⟩
  rcases hown.2 with ⟨rfl, rfl⟩ | ⟨g, cap, cur, rfl, _, hgb, hnc, hcm, hcs, htake⟩
  · have hn : w.ownsRow w.heap.size 3 1 (.slice none 0 0) 0 xs := ⟨hown.1, .inl ⟨rfl, rfl⟩⟩
    obtain ⟨v2, w2, hr2, ho2, _, _⟩ := run_append_own (P := Try.prog) w w.heap.size 25 ty 3 i0 (.int .i64 0) 1 8 Try.underlying25 hi iz0 iz1 iz2 rfl (by decide) _ 0 xs hn a 1 c [x] rfl hnews (by simpa using h1) (by unfold maxLen; omega) (by omega) (Nat.le_refl _)
    rw [hr] at hr2
    injection hr2 with e1 e2
    subst e1 e2
    intro j hj
    exact .inr (ho2.lt j hj).1
  · by_cases hroom : k + 1 ≤ cap
    · have hr2 := run_append_room (P := Try.prog) w 25 ty 3 i0 Try.underlying25 hi g k cap cur hgb a 1 c [x] (by rw [iz1]; rfl) hnews (by simpa using h1) hroom (by rw [iz1, hcs]; simp; omega)
      rw [hr] at hr2
      injection hr2 with e1 e2
      subst e1
      intro j hj
      exact .inl hj
    · have holds : ∀ j u, xs[j]? = some u → w.cell? ((⟨g, 0, none⟩ : Addr).add j) = some u := hown.cells rfl
      have hcap : cap ≤ 1000000 := by omega
      have hr2 := run_append_grow (P := Try.prog) w 25 ty 3 i0 (.int .i64 0) Try.underlying25 hi iz0 ⟨g, 0, none⟩ k cap xs (by rw [iz1]; exact hown.1) holds a 1 c [x] (by rw [iz1]; rfl) hnews (by omega) (by omega) (by
        rw [iz2]
        exact Go.growslice_fits (by omega) (by omega))
      rw [hr] at hr2
      injection hr2 with e1 e2
      subst e1
      intro j hj
      simp [Value.ownBlock] at hj
      exact .inr (by omega)
theorem wp_app_foot {ops : Array Oper} {rest : List Oper} {o : Oper} {a : Act} {Q : Exit → Act → World → Prop} {w : World} (hg : o.guard = none) (s x : Operand) (hop : o.op = Op.call { callee := Callee.builtin Builtin.append, args := #[s, x], argTypes := #[25, 25] })
    {v : Value} {k : Nat} {xs : List Value} (hs : a.eval s = v) (hown : w.ownsRow 0 3 1 v k xs) (hk : k ≤ 1000000) (ad : Addr) (c : Nat) (u : Value) (hx : a.eval x = .slice (some ad) 1 c) (hnews : ∀ j y, [u][j]? = some y → w.cell? (ad.add j) = some y) (h1 : u.oneCell' = true)
    (hK : ∀ v' w', w'.ownsRow 0 3 1 v' (k + 1) (xs ++ [u]) → w.grownBy w' v.ownBlock → (∀ j, v'.ownBlock = some j → v.ownBlock = some j ∨ w.heap.size ≤ j) → wpList Try.prog ops Q rest (a.put o.dst v') w') :
    wpList Try.prog ops Q (o :: rest) a w := by
  refine wpList_plain hg fun K hK' => ?_
  obtain ⟨v', w', hrun, r1, r2, r3⟩ := app_foot hown hk o.type ad c u hnews h1
  unfold Oper.wp
  simp [execOp, hop, resolve, invoke, builtin, hs, hx, hrun, Result.andThen]
  exact hK' _ _ (hK v' w' r1 r2 r3)

end Go.Proofs.Ytlgljcfkoakogaa
