import Derived.Test.YtlgljcfkoakogaaL7
namespace Go.Proofs.Ytlgljcfkoakogaa
open Go.RowKit
set_option linter.unusedSimpArgs false
set_option linter.unusedVariables false


open Go.Maps Go.Shelf
section
variable {α : Type} (mk : α → Value)
open Classical in
/-- How an element is read. -/
noncomputable def elR (v : Value) : Option (DataW α × List MemPlace) := if h : ∃ c, v = mk c then some (.held h.choose, []) else none
variable {mk}
theorem elR_mk (inj : ∀ a b, mk a = mk b → a = b) (c : α) : elR mk (mk c) = some (.held c, []) := by
  have h : ∃ c', mk c = mk c' := ⟨c, rfl⟩
  unfold elR
  rw [dif_pos h, ← inj _ _ h.choose_spec]
theorem elR_inv (inj : ∀ a b, mk a = mk b → a = b) {v : Value} {y : DataW α × List MemPlace} (h : elR mk v = some y) : ∃ c, v = mk c ∧ y = (.held c, []) := by
  unfold elR at h
  by_cases hc : ∃ c, v = mk c
  · obtain ⟨c, rfl⟩ := hc
    have h' : ∃ c', mk c = mk c' := ⟨c, rfl⟩
    rw [dif_pos h', ← inj _ _ h'.choose_spec] at h
    exact ⟨c, rfl, (Option.some.inj h).symm⟩
  · rw [dif_neg hc] at h
    cases h
variable (mk)
/-- The map in block b holds just what f says; sz keys. -/
def MapIs (w : World) (b nn : Nat) (f : Int → Option α) (sz : Nat) : Prop :=
  ∃ D : DataW α, w.ownsMap Try.prog 3 (elR mk) b nn D ∧ Maps.size D = sz ∧ ∀ x, has D (.int .i64 x) = (f x).isSome ∧ ∀ c, f x = some c → ∀ zd, D.atKey (.int .i64 x) zd = .held c
variable {mk}
theorem MapIs.made (w : World) : MapIs mk (w.alloc (.map #[] 0)) w.heap.size 0 (fun _ => none) 0 :=
  ⟨.map [], World.ownsMap_made _ _ _ _, rfl, fun x => ⟨rfl, fun c h => by cases h⟩⟩
theorem MapIs.lt {w : World} {b nn sz : Nat} {f : Int → Option α} (h : MapIs mk w b nn f sz) : b < w.heap.size := by
  obtain ⟨D, h, _⟩ := h
  exact h.lt
theorem MapIs.mono {w : World} {b nn nn' sz : Nat} {f : Int → Option α} (h : MapIs mk w b nn f sz) (hn : nn ≤ nn') : MapIs mk w b nn' f sz := by
  obtain ⟨D, h, r⟩ := h
  exact ⟨D, h.mono hn, r⟩
theorem MapIs.kept {w w' : World} {b nn sz : Nat} {f : Int → Option α} (h : MapIs mk w b nn f sz) (hk : w'.heap[b]? = w.heap[b]?) : MapIs mk w' b nn f sz := by
  obtain ⟨D, ⟨es, clock, hb, h1⟩, h2⟩ := h
  exact ⟨D, ⟨es, clock, hk.trans hb, h1⟩, h2⟩
theorem MapIs.isMapBlock {w : World} {b nn sz : Nat} {f : Int → Option α} (h : MapIs mk w b nn f sz) : ∃ es clock, w.heap[b]? = some (.map es clock) := by
  obtain ⟨D, ⟨es, clock, hb, _⟩, _⟩ := h
  exact ⟨es, clock, hb⟩
theorem MapIs.look {t e : TypeId} (ht : Try.prog.underlying t = some (.map 3 e)) (inj : ∀ a b, mk a = mk b → a = b) {z : α} (hz : ∀ w, (zeroValue e).run Try.prog w = .ok (mk z) w) {w : World} {b nn sz : Nat} {f : Int → Option α} (h : MapIs mk w b nn f sz) {x : Int} (hx : (Lit.int .i64 x).wf = true) :
    (Instr.lookup t (.map (some b)) (.int .i64 x) true).run Try.prog w = .ok (.tuple #[mk ((f x).getD z), .bool (f x).isSome]) w := by
  obtain ⟨D, h1, _, h2⟩ := h
  obtain ⟨v, ps, hr, hv⟩ := h1.look_ok Try.law3 ht (hz w) (elR_mk inj _) (key_of hx)
  obtain ⟨c, rfl, e⟩ := elR_inv inj hv
  rw [(h2 x).1] at hr
  rw [hr]
  have e1 := (Prod.mk.inj e).1
  cases hf : f x with
  | none =>
    rw [atKey_of_not_has (by rw [(h2 x).1, hf]; rfl)] at e1
    rw [← DataW.held.inj e1]
    simp
  | some c' =>
    rw [(h2 x).2 c' hf] at e1
    rw [← DataW.held.inj e1]
    simp
theorem MapIs.get {t e : TypeId} (ht : Try.prog.underlying t = some (.map 3 e)) (inj : ∀ a b, mk a = mk b → a = b) {z : α} (hz : ∀ w, (zeroValue e).run Try.prog w = .ok (mk z) w) {w : World} {b nn sz : Nat} {f : Int → Option α} (h : MapIs mk w b nn f sz) {x : Int} (hx : (Lit.int .i64 x).wf = true) :
    (Instr.lookup t (.map (some b)) (.int .i64 x) false).run Try.prog w = .ok (mk ((f x).getD z)) w := by
  obtain ⟨D, h1, _, h2⟩ := h
  obtain ⟨v, ps, hr, hv⟩ := h1.lookup Try.law3 ht (hz w) (elR_mk inj _) (key_of hx)
  obtain ⟨c, rfl, e⟩ := elR_inv inj hv
  rw [hr]
  have e1 := (Prod.mk.inj e).1
  cases hf : f x with
  | none =>
    rw [atKey_of_not_has (by rw [(h2 x).1, hf]; rfl)] at e1
    rw [← DataW.held.inj e1]
    simp
  | some c' =>
    rw [(h2 x).2 c' hf] at e1
    rw [← DataW.held.inj e1]
    simp
theorem MapIs.len {t e : TypeId} (ht : Try.prog.underlying t = some (.map 3 e)) {w : World} {b nn sz : Nat} {f : Int → Option α} (h : MapIs mk w b nn f sz) (ty : TypeId) : (Builtin.len_ #[t] ty #[.map (some b)]).run Try.prog w = .ok (.int .i64 sz) w := by
  obtain ⟨D, h1, h2, _⟩ := h
  rw [h1.len ht, h2]
theorem MapIs.put {t e : TypeId} (ht : Try.prog.underlying t = some (.map 3 e)) (inj : ∀ a b, mk a = mk b → a = b) {w : World} {b nn sz : Nat} {f : Int → Option α} (h : MapIs mk w b nn f sz) (hn : nn < 1000000) {x : Int} (hx : (Lit.int .i64 x).wf = true) (c : α) :
    ∃ w', (Instr.mapUpdate t (.map (some b)) (.int .i64 x) (mk c)).run Try.prog w = .ok () w' ∧ MapIs mk w' b (nn + 1) (fun y => if y = x then some c else f y) (if (f x).isSome = true then sz else sz + 1) ∧ w.grownBy w' (some b) := by
  obtain ⟨D, h1, hs, h2⟩ := h
  obtain ⟨w', hr, ho, hm⟩ := h1.store Try.law3 ht (by unfold maxLen; omega) (key_of hx) (elR_mk inj c)
  have hD := h1.isMap
  refine ⟨w', hr, ⟨_, ho, ?_, fun y => ?_⟩, hm.grown⟩
  · rw [Maps.size_put (h1.tidy Try.law3), (h2 x).1, hs]
  · by_cases e : y = x
    · subst e
      simp only [if_true]
      refine ⟨has_put_same hD (isKey_int _) _, fun c' hc zd => ?_⟩
      obtain rfl := Option.some.inj hc
      exact atKey_put_same hD (isKey_int _) _ _
    · simp only [if_neg e]
      have hne : Lit.int .i64 y ≠ Lit.int .i64 x := fun h => e (by injection h)
      refine ⟨(has_put_other hne _).trans (h2 y).1, fun c' hc zd => ?_⟩
      exact (atKey_put_other hne _ _).trans ((h2 y).2 c' hc zd)
end
/-- A vote. -/
structure Vt where
  has : Bool
  r : Int
  n : Int
  val : ByteArray
def Vt.v (c : Vt) : Value := .agg #[.bool c.has, .int .u64 c.r, .int .i64 c.n, .string c.val]
def Vt.zero : Vt := ⟨false, 0, 0, ⟨#[]⟩⟩
theorem Vt.inj (a b : Vt) (h : a.v = b.v) : a = b := by
  obtain ⟨a1, a2, a3, a4⟩ := a
  obtain ⟨b1, b2, b3, b4⟩ := b
  simp [Vt.v] at h
  obtain ⟨rfl, rfl, rfl, rfl⟩ := h
  rfl
theorem zero46 (w : World) : (zeroValue 46).run Try.prog w = .ok (Vt.zero.v) w := by kernel_rfl
def i64V (c : Int) : Value := .int .i64 c
theorem i64V_inj (a b : Int) (h : i64V a = i64V b) : a = b := by
  unfold i64V at h
  injection h
theorem zero3 (w : World) : (zeroValue 3).run Try.prog w = .ok (i64V 0) w := by kernel_rfl

end Go.Proofs.Ytlgljcfkoakogaa
