/- The law BlockEnds answers true, whatever the number of blocks and the writes ahead of and behind the Sync are; no conditions. -/
import Derived.Test.YtbobbekbliichaaRows
import Derived.Test.YtbobbekbliichaaE19
import Derived.WalkKit
import Derived.ProofKit
import Derived.OpenShut
import Derived.ShutString
import Derived.ChangeOld
import Derived.Below
import Derived.SizedLaws
import Derived.Lib.SmallJoins
namespace Go.Proofs.Ytbobbekbliichaa.blockEnds
open Go.ChangeShapes Go.WideShapes Go.ChangeAt Go.RowKit Go.Joins
open Go.ChangeMaps (open_string shut_string)
set_option linter.unusedVariables false
set_option linter.unusedSimpArgs false
theorem own : ownKnob Try.prog.godebug = none := by kernel_rfl
theorem laidOut : laidOutB Try.prog = true := by kernel_rfl

set_option maxRecDepth 100000 in
theorem lifted (os : Os) (started : os.Started) (H : Type) (enc : TypeId × Value → H) :
    ReturnsInHanded {} Try.checked os 6 .any (Rows.blockEndsSpec.pre6 enc Try.prog Try.f6 Rows.blockEndsRow.domain false) (Rows.blockEndsSpec.post enc Try.prog Try.f6 false true false false) := by
  refine returnsInHanded_of_change_sized (C := Try.checked) own started (by kernel_rfl) Try.func6
    (ChangeSpec.witness6 (enc := enc) (C := Try.checked) false ⟨#[], #[.int .u8 0, .slice none 0 0, .slice none 0 0], []⟩ 8 (by kernel_rfl) (by kernel_rfl) (by kernel_rfl) (by kernel_rfl)) ?_
  intro W base args ds gs before hval0 hW hcnd hsz0 _
  have hsz : (DataW.weightsEach Try.prog (Try.f6.params.toList ++ Rows.blockEndsSpec.plain.varTypes Try.prog) (ds ++ gs)).all (· ≤ reachBytes) = true := hsz0
  have hval : ∀ (j : Nat) t v, Try.f6.params[j]? = some t → args[j]? = some v → Value.okWide Try.prog W .any base t v := hval0
  have hW' := hW
  obtain ⟨p, q, hA0, hV, rfl, hfz, hnd⟩ := hW
  have hA : DataW.TrodAll enc Try.prog W 0 (fun _ => true) true Try.f6.params.toList args.toList ds p := hA0
  rw [Try.params6] at hA hval hsz
  obtain ⟨v0, vs0, d0, ds0, p0, q0, hargs, rfl, rfl, h0, r0⟩ := trodAll_cons hA
  obtain ⟨v1, vs1, d1, ds1, p1, q1, rfl, rfl, rfl, h1, r1⟩ := trodAll_cons r0
  obtain ⟨v2, vs2, d2, ds2, p2, q2, rfl, rfl, rfl, h2, r2⟩ := trodAll_cons r1
  obtain ⟨rfl, rfl, rfl⟩ := trodAll_nil r2
  obtain rfl : args = #[v0, v1, v2] := by cases args; simp_all
  obtain ⟨rfl, rfl⟩ := trodVars_none hV
  have k0 := h0
  have lt0 : ∀ x ∈ p0, x.block < W.heap.size := by obtain ⟨m, hm⟩ := k0; exact DataW.trod_lt m _ _ _ hm
  obtain ⟨a0, rfl, rfl, rfl, w0⟩ := open_int Try.underlying5 (hval 0 5 v0 rfl rfl) h0
  have k1 := h1
  have lt1 : ∀ x ∈ p1, x.block < W.heap.size := by obtain ⟨m, hm⟩ := k1; exact DataW.trod_lt m _ _ _ hm
  obtain ⟨a1, len1, cap1, rfl⟩ := okWide_slice Try.underlying22 (hval 1 22 v1 rfl rfl)
  obtain ⟨l1, n1, o1, w1, y1⟩ : ∃ l : List Stp, l.length = len1 ∧ (∀ s ∈ l, s.ok) ∧ StepsAt W a1 l ∧ len1 * 48 ≤ 140737488351232 := by
    obtain ⟨fuel, hf⟩ := h1
    obtain ⟨A, len, cap, e, hD, l, hl, hok, hs⟩ := open_steps hf
    simp [Value.cells] at e
    obtain ⟨rfl, rfl, rfl⟩ := e
    refine ⟨l, hl, hok, hs, ?_⟩
    rcases hD with h0 | ⟨E, S, hD, hE⟩
    · omega
    · have hD' : d1 = .slice E S := hD
      have z := sized_slice hsz (j := 1) (t := 22) (e := 35) rfl (by rw [hD']; rfl) Try.underlying22
      rw [show Try.prog.bytesOf 35 = 48 from by kernel_rfl] at z
      simp only [reachBytes] at z
      have := Nat.mul_le_mul_right 48 (show l.length ≤ E.length + S.length by omega)
      omega
  have k2 := h2
  have lt2 : ∀ x ∈ p2, x.block < W.heap.size := by obtain ⟨m, hm⟩ := k2; exact DataW.trod_lt m _ _ _ hm
  obtain ⟨a2, len2, cap2, rfl⟩ := okWide_slice Try.underlying22 (hval 2 22 v2 rfl rfl)
  obtain ⟨l2, n2, o2, w2, y2⟩ : ∃ l : List Stp, l.length = len2 ∧ (∀ s ∈ l, s.ok) ∧ StepsAt W a2 l ∧ len2 * 48 ≤ 140737488351232 := by
    obtain ⟨fuel, hf⟩ := h2
    obtain ⟨A, len, cap, e, hD, l, hl, hok, hs⟩ := open_steps hf
    simp [Value.cells] at e
    obtain ⟨rfl, rfl, rfl⟩ := e
    refine ⟨l, hl, hok, hs, ?_⟩
    rcases hD with h0 | ⟨E, S, hD, hE⟩
    · omega
    · have hD' : d2 = .slice E S := hD
      have z := sized_slice hsz (j := 2) (t := 22) (e := 35) rfl (by rw [hD']; rfl) Try.underlying22
      rw [show Try.prog.bytesOf 35 = 48 from by kernel_rfl] at z
      simp only [reachBytes] at z
      have := Nat.mul_le_mul_right 48 (show l.length ≤ E.length + S.length by omega)
      omega
  clear hA0 hval0 hsz0 hsz
  refine (endsWalk a0 a1 len1 cap1 l1 a2 len2 cap2 l2 W w0 n1 o1 w1 y1 n2 o2 w2 y2).mono fun e W' ⟨he, bel⟩ => ?_
  subst he
  exact ⟨_, rfl, _, _, _, [], _, [], hW', trodAll_mk1 (shut_bool Try.underlying4 _), (trodAll_cons_mk (Below.trod laidOut (by kernel_rfl) (of_decide_eq_true (by kernel_rfl)) k0 bel lt0) (trodAll_cons_mk (Below.trod laidOut (by kernel_rfl) (of_decide_eq_true (by kernel_rfl)) k1 bel lt1) (trodAll_cons_mk (Below.trod laidOut (by kernel_rfl) (of_decide_eq_true (by kernel_rfl)) k2 bel lt2) trodAll_mk0))), rfl, bel.frame _, fun h => by cases h⟩

theorem over : Rows.blockEndsRow.holds Try.pinned (OpenSpec.ofChange Rows.blockEndsSpec) :=
  OpenClaim.holds_of_wide 6 Try.f6 rfl rfl rfl rfl rfl rfl rfl ⟨rfl, rfl, rfl, rfl, rfl⟩ rfl rfl rfl rfl rfl (by kernel_rfl) Try.func6 (by kernel_rfl)
    (of_decide_eq_true (by kernel_rfl)) (by unfold Func.isWrapper; first | (rw [if_pos (by decide +kernel)]; kernel_rfl) | (rw [if_neg (by decide +kernel)]; exact ⟨rfl, rfl⟩))
    (fun os started H enc _ => lifted os started H enc)
end Go.Proofs.Ytbobbekbliichaa.blockEnds
namespace Go.Proofs.Ytbobbekbliichaa
theorem blockEnds_holds : Rows.BlockEndsSaid := blockEnds.over
#print axioms blockEnds_holds
end Go.Proofs.Ytbobbekbliichaa
