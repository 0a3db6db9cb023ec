import Derived.Test.YtlgljcfkoakogaaA10
import Derived.Laws.Pointers
import Derived.Laws.EntriesVeiled
import Derived.Deep.DeepCutAuto
namespace Go.Proofs.Ytlgljcfkoakogaa
open Go.RowKit
set_option linter.unusedSimpArgs false
set_option linter.unusedVariables false

/-- Block g is just these cells, none of them frozen. -/
def Bk (w : World) (g : Nat) (cs : Array Value) (t : TypeId) : Prop := w.heap[g]? = some (.cells cs t (0, 0))
section
variable {w w' : World} {g : Nat} {cs : Array Value} {t : TypeId}
theorem Bk.lt (h : Bk w g cs t) : g < w.heap.size := (Array.getElem?_eq_some_iff.1 h).1
theorem Bk.cell (h : Bk w g cs t) (i : Nat) : w.cell? ⟨g, i, none⟩ = cs[i]? := by unfold Bk at h; simp [World.cell?, h]
theorem Bk.free (h : Bk w g cs t) (i : Nat) : w.frozen? ⟨g, i, none⟩ = false := by unfold Bk at h; simp [World.frozen?, h]
theorem Bk.new (w : World) (cs : Array Value) (t : TypeId) : Bk (w.alloc (.cells cs t)) w.heap.size cs t := by
  show (w.heap.push _)[w.heap.size]? = _
  simp
theorem Bk.alloc (h : Bk w g cs t) (o : Obj) : Bk (w.alloc o) g cs t := (Below.heap_alloc w o g h.lt).trans h
theorem Bk.drew (h : Bk w g cs t) : Bk w.drew g cs t := h
theorem Bk.drewN (h : Bk w g cs t) (n : Nat) : Bk (w.drewN n) g cs t := h
theorem Bk.set (h : Bk w g cs t) (i : Nat) (u : Value) : Bk (w.setCell ⟨g, i, none⟩ u) g (cs.setIfInBounds i u) t := by
  unfold Bk at h ⊢
  simp [World.setCell, Array.getElem?_modify, h]
theorem Bk.far (h : Bk w g cs t) {p : Addr} (hp : g ≠ p.block) (u : Value) : Bk (w.setCell p u) g cs t := (Below.heap_setCell w p u g hp).trans h
theorem Bk.below {B : Nat} (h : Bk w g cs t) (hb : Below B w w') (hg : g < B) : Bk w' g cs t := (hb.block g hg).trans h
theorem Bk.bel (h : Bk w g cs t) (hb : Below w.heap.size w w') : Bk w' g cs t := h.below hb h.lt
theorem Bk.grown {row : Option Nat} (h : Bk w g cs t) (hb : w.grownBy w' row) (hg : some g ≠ row) : Bk w' g cs t := (hb.block g h.lt hg).trans h
end
theorem grown_bel {w w' : World} {row : Option Nat} (h : Below w.heap.size w w') : w.grownBy w' row := ⟨h.os, h.tape, h.output, h.size, fun k hk _ => h.block k hk⟩
theorem grown_set {w w' : World} {g : Nat} (h : w.grownBy w' (some g)) (i : Nat) (u : Value) : w.grownBy (w'.setCell ⟨g, i, none⟩ u) (some g) :=
  ⟨h.os, h.tape, h.output, by simpa [World.setCell] using h.size, fun k hk hne => (Below.heap_setCell w' _ u k (fun e => hne (by rw [e]))).trans (h.block k hk hne)⟩
theorem grown_setNew {w w' : World} {row : Option Nat} (h : w.grownBy w' row) {p : Addr} (hp : w.heap.size ≤ p.block) (u : Value) : w.grownBy (w'.setCell p u) row :=
  ⟨h.os, h.tape, h.output, by simpa [World.setCell] using h.size, fun k hk hne => (Below.heap_setCell w' _ u k (by omega)).trans (h.block k hk hne)⟩
theorem grown_alloc {w w' : World} {row : Option Nat} (h : w.grownBy w' row) (o : Obj) : w.grownBy (w'.alloc o) row :=
  ⟨h.os, h.tape, h.output, by have := h.size; simp; omega, fun k hk hne => (Below.heap_alloc w' o k (Nat.lt_of_lt_of_le hk h.size)).trans (h.block k hk hne)⟩
theorem grown_drew {w w' : World} {row : Option Nat} (h : w.grownBy w' row) : w.grownBy w'.drew row := ⟨h.os, h.tape, h.output, h.size, h.block⟩
theorem grown_trans {w w1 w2 : World} {row : Option Nat} (h : w.grownBy w1 row) (k : w1.grownBy w2 row) : w.grownBy w2 row :=
  ⟨k.os.trans h.os, k.tape.trans h.tape, k.output.trans h.output, Nat.le_trans h.size k.size, fun i hi hne => (k.block i (Nat.lt_of_lt_of_le hi h.size) hne).trans (h.block i hi hne)⟩
theorem bel_grown {B : Nat} {w w1 w2 : World} {g : Nat} (h : Below B w w1) (k : w1.grownBy w2 (some g)) (hB : B ≤ w1.heap.size) (hg : B ≤ g) : Below B w w2 :=
  h.grown k hB (fun j e => by injection e with e; omega)

/-- An acceptor: what is promised, the vote. -/
structure Acc where
  pr : Int
  pn : Int
  has : Bool
  vr : Int
  vn : Int
  val : ByteArray
def Acc.cells (a : Acc) : Array Value := #[.int .u64 a.pr, .int .i64 a.pn, .bool a.has, .int .u64 a.vr, .int .i64 a.vn, .string a.val]
def voteV (has : Bool) (vr vn : Int) (val : ByteArray) : Value := .agg #[.bool has, .int .u64 vr, .int .i64 vn, .string val]
def Acc.zero : Acc := ⟨0, 0, false, 0, 0, ⟨#[]⟩⟩

def namedB (r n : Int) : Bool := mayB r n && !((r == 0) && (n == 0))

set_option maxHeartbeats 1600000 in
theorem named_any (r n : Int) (w : World) : Calls Try.prog 57 #[.agg #[.int .u64 r, .int .i64 n]] w fun e w' => e = .returned (.bool (namedB r n)) ∧ Below w.heap.size w w' := by
  go_enter Try.func57, Try.ntmps57
  go_wp2_with fail
  refine (may_any _ _ _).mono ?_; rintro e w1 ⟨rfl, hb1⟩
  obtain ⟨hc1, hf1⟩ := bcell hb1; (try simp only [World.size_alloc, World.size_setCell] at hc1 hf1)
  have z1_0 : w.heap.size < w1.heap.size := (by have := hb1.size; (try simp at this); omega)
  have HB1 : Below w.heap.size w w1 := ((Below.refl _ _).alloc (Nat.le_refl _) _).trans (hb1.mono (by simp))
  cases hm : mayB r n
  · have hE : namedB r n = false := by simp [namedB, hm]
    have HE := Lib.hid hE
    clear hE
    go_wp2
    go_ret
    exact ⟨by rw [HE.out]; rfl, HB1⟩
  · by_cases hr : r = 0
    · by_cases hn : n = 0
      · have hE : namedB r n = false := by simp [namedB, hr, hn]
        subst hr hn
        have HE := Lib.hid hE
        clear hE
        go_wp2
        go_ret
        exact ⟨by rw [HE.out]; rfl, HB1⟩
      · have hE : namedB r n = true := by simp [namedB, hm, hn]
        have h2 : (n == 0) = false := by simpa using hn
        subst hr
        have HE := Lib.hid hE
        clear hE hn
        go_wp2
        go_ret
        exact ⟨by rw [HE.out]; rfl, HB1⟩
    · have hE : namedB r n = true := by simp [namedB, hm, hr]
      have h2 : (r == 0) = false := by simpa using hr
      have HE := Lib.hid hE
      clear hE hr
      go_wp2
      go_ret
      exact ⟨by rw [HE.out]; rfl, HB1⟩

end Go.Proofs.Ytlgljcfkoakogaa
