import Derived.Test.YtlgljcfkoakogaaB8
import Derived.Maps.OwnIn
import Derived.Maps.OwnSet
import Derived.Maps.RangeWalk
import Derived.Sort.MapsRangeIn
import Derived.RangeFuncNested
import Derived.RangeFuncBound
import Derived.RangeFuncCalls
import Derived.RangeFuncLeaves
import Derived.RangeFuncMany
import Derived.Shelf.Abstract
import Derived.Shelf.RegionOpen
import Derived.WalkKit
import Derived.OwnWalkIn
import Derived.TacticsInMore
import Derived.RegionIn
import Derived.LoopNIn
import Derived.LoopIn
namespace Go.Proofs.Ytlgljcfkoakogaa
open Go.RowKit
set_option linter.unusedSimpArgs false
set_option linter.unusedVariables false


open Go.Maps Go.Shelf
/-- What a node is known to have accepted: a round, a node, a value. -/
abbrev Sd := Int × Int × ByteArray
def sdV (c : Sd) : Value := .agg #[.int .u64 c.1, .int .i64 c.2.1, .string c.2.2]
theorem sdV_inj {a b : Sd} (h : sdV a = sdV b) : a = b := by
  obtain ⟨a1, a2, a3⟩ := a
  obtain ⟨b1, b2, b3⟩ := b
  simp [sdV] at h
  obtain ⟨rfl, rfl, rfl⟩ := h
  rfl
open Classical in
noncomputable def sdR (v : Value) : Option (DataW Sd × List MemPlace) := if h : ∃ c, v = sdV c then some (.held h.choose, []) else none
theorem sdR_mk (c : Sd) : sdR (sdV c) = some (.held c, []) := by
  have h : ∃ c', sdV c = sdV c' := ⟨c, rfl⟩
  unfold sdR
  rw [dif_pos h, ← sdV_inj h.choose_spec]
theorem sdR_inv {v : Value} {y : DataW Sd × List MemPlace} (h : sdR v = some y) : ∃ c, v = sdV c ∧ y = (.held c, []) := by
  unfold sdR at h
  by_cases hc : ∃ c, v = sdV c
  · obtain ⟨c, rfl⟩ := hc
    have h' : ∃ c', sdV c = sdV c' := ⟨c, rfl⟩
    rw [dif_pos h', ← sdV_inj h'.choose_spec] at h
    exact ⟨c, rfl, (Option.some.inj h).symm⟩
  · rw [dif_neg hc] at h
    cases h
theorem Try.law3 : Keyed Try.prog 3 := int_keyed Try.underlying3
theorem key_of {x : Int} (h : (Lit.int .i64 x).wf = true) : keyOf Try.prog 3 (.int .i64 x) = some (.int .i64 x) := keyOf_int_mk Try.underlying3 h
/-- The map in block b holds just what f says. -/
def SaidIs (w : World) (b nn : Nat) (f : Int → Option Sd) : Prop :=
  ∃ D : DataW Sd, w.ownsMap Try.prog 3 sdR b nn D ∧ ∀ x, has D (.int .i64 x) = (f x).isSome ∧ ∀ c, f x = some c → ∀ zd, D.atKey (.int .i64 x) zd = .held c
theorem isKey_int (x : Int) : WideAt.IsKeyLit (.int .i64 x) := by
  unfold WideAt.IsKeyLit
  trivial
theorem SaidIs.made (w : World) : SaidIs (w.alloc (.map #[] 0)) w.heap.size 0 (fun _ => none) :=
  ⟨.map [], World.ownsMap_made _ _ _ _, fun x => ⟨rfl, fun c h => by cases h⟩⟩
theorem SaidIs.lt {w : World} {b nn : Nat} {f : Int → Option Sd} (h : SaidIs w b nn f) : b < w.heap.size := by
  obtain ⟨D, h, _⟩ := h
  exact h.lt
theorem SaidIs.kept {w w' : World} {b nn : Nat} {f : Int → Option Sd} (h : SaidIs w b nn f) (hk : w'.heap[b]? = w.heap[b]?) : SaidIs w' b nn f := by
  obtain ⟨D, ⟨es, clock, hb, h1⟩, h2⟩ := h
  exact ⟨D, ⟨es, clock, hk.trans hb, h1⟩, h2⟩
theorem zero122 (w : World) : (zeroValue 122).run Try.prog w = .ok (sdV (0, 0, ⟨#[]⟩)) w := by kernel_rfl
/-- 's, is := m[x]'. -/
theorem SaidIs.look {w : World} {b nn : Nat} {f : Int → Option Sd} (h : SaidIs w b nn f) {x : Int} (hx : (Lit.int .i64 x).wf = true) :
    (Instr.lookup 118 (.map (some b)) (.int .i64 x) true).run Try.prog w = .ok (.tuple #[sdV ((f x).getD (0, 0, ⟨#[]⟩)), .bool (f x).isSome]) w := by
  obtain ⟨D, h1, h2⟩ := h
  obtain ⟨v, ps, hr, hv⟩ := h1.look_ok Try.law3 Try.underlying118 (zero122 w) (sdR_mk _) (key_of hx)
  obtain ⟨c, rfl, e⟩ := sdR_inv hv
  rw [(h2 x).1] at hr
  rw [hr]
  have e1 := (Prod.mk.inj e).1
  cases hf : f x with
  | none =>
    rw [atKey_of_not_has (by rw [(h2 x).1, hf]; rfl)] at e1
    rw [← DataW.held.inj e1]
    simp
  | some c' =>
    rw [(h2 x).2 c' hf] at e1
    rw [← DataW.held.inj e1]
    simp
/-- 'm[x] = v'. -/
theorem SaidIs.put {w : World} {b nn : Nat} {f : Int → Option Sd} (h : SaidIs w b nn f) (hn : nn < 1000000) {x : Int} (hx : (Lit.int .i64 x).wf = true) (c : Sd) :
    ∃ w', (Instr.mapUpdate 118 (.map (some b)) (.int .i64 x) (sdV c)).run Try.prog w = .ok () w' ∧ SaidIs w' b (nn + 1) (fun y => if y = x then some c else f y) ∧ w.mapTurned w' b := by
  obtain ⟨D, h1, h2⟩ := h
  obtain ⟨w', hr, ho, hm⟩ := h1.store Try.law3 Try.underlying118 (by unfold maxLen; omega) (key_of hx) (sdR_mk c)
  refine ⟨w', hr, ⟨_, ho, fun y => ?_⟩, hm⟩
  have hD := h1.isMap
  by_cases e : y = x
  · subst e
    simp only [if_true]
    refine ⟨has_put_same hD (isKey_int _) _, fun c' hc zd => ?_⟩
    obtain rfl := Option.some.inj hc
    exact atKey_put_same hD (isKey_int _) _ _
  · simp only [if_neg e]
    have hne : Lit.int .i64 y ≠ Lit.int .i64 x := fun h => e (by injection h)
    refine ⟨(has_put_other hne _).trans (h2 y).1, fun c' hc zd => ?_⟩
    exact (atKey_put_other hne _ _).trans ((h2 y).2 c' hc zd)
theorem same_int (x y : Int) : (Lit.int .i64 x).sameKey (.int .i64 y) = decide (x = y) := by
  by_cases h : x = y
  · subst h; simp [WideAt.sameKey_self (isKey_int x)]
  · rw [sameKey_ne (fun e => h (by injection e))]; simp [h]
/-- What has come of a walk over the map, of the ballot (r, n) alone. -/
def Came (f : Int → Option Sd) (r n : Int) (left : Lit → Bool) (ps : List (Int × ByteArray)) : Prop :=
  (ps.map (·.1)).Nodup ∧ ∀ x v, (x, v) ∈ ps ↔ (f x = some (r, n, v) ∧ left (.int .i64 x) = false)
theorem Came.start {f : Int → Option Sd} {r n : Int} {D : DataW Sd} (h : ∀ x, has D (.int .i64 x) = (f x).isSome) : Came f r n (has D) [] := by
  refine ⟨List.nodup_nil, fun x v => ⟨fun h => by simp at h, fun ⟨h1, h2⟩ => ?_⟩⟩
  rw [h x, h1] at h2
  cases h2
theorem Came.miss {f : Int → Option Sd} {r n : Int} {left : Lit → Bool} {ps : List (Int × ByteArray)} (h : Came f r n left ps) {x0 : Int} {c : Sd} (hl : left (.int .i64 x0) = true) (hf : f x0 = some c) (hc : ¬ (c.1 = r ∧ c.2.1 = n)) :
    Came f r n (fun z => left z && !z.sameKey (.int .i64 x0)) ps := by
  refine ⟨h.1, fun x v => ?_⟩
  rw [h.2 x v]
  simp only [same_int]
  by_cases e : x = x0
  · subst e
    rw [hf]
    simp [hl]
    intro e
    exact hc (by rw [e]; exact ⟨rfl, rfl⟩)
  · simp [e]
theorem Came.hit {f : Int → Option Sd} {r n : Int} {left : Lit → Bool} {ps : List (Int × ByteArray)} (h : Came f r n left ps) {x0 : Int} {v0 : ByteArray} (hl : left (.int .i64 x0) = true) (hf : f x0 = some (r, n, v0)) :
    Came f r n (fun z => left z && !z.sameKey (.int .i64 x0)) (ps ++ [(x0, v0)]) := by
  have hn : ∀ v, (x0, v) ∉ ps := fun v hv => by rw [((h.2 x0 v).1 hv).2] at hl; cases hl
  refine ⟨?_, fun x v => ?_⟩
  · rw [List.map_append, List.nodup_append]
    refine ⟨h.1, by simp, fun a ha b hb => ?_⟩
    simp at hb
    subst hb
    rintro rfl
    obtain ⟨⟨x, v⟩, hp, rfl⟩ := List.mem_map.1 ha
    exact hn v hp
  · rw [List.mem_append, h.2 x v]
    simp only [same_int, List.mem_singleton]
    by_cases e : x = x0
    · subst e
      rw [hf]
      simp [hl]
      exact ⟨fun e => e.symm, fun e => e.symm⟩
    · simp [e]
theorem grown_of_below {W W' : World} (h : Below W.heap.size W W') : W.grownBy W' none := ⟨h.os, h.tape, h.output, h.size, fun k hk _ => h.block k hk⟩

end Go.Proofs.Ytlgljcfkoakogaa
