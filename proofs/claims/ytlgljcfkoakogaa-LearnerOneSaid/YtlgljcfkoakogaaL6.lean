import Derived.Test.YtlgljcfkoakogaaL5
import Derived.Maps.AppendAt
namespace Go.Proofs.Ytlgljcfkoakogaa
open Go.RowKit
set_option linter.unusedSimpArgs false
set_option linter.unusedVariables false


open Go.Maps Go.Shelf
attribute [local go_sem] Oper.semAt_some
theorem bk_own {β : Type} (B : Nat) (cs : Array Value) (t : TypeId) : Own (fun (_ : β) W => Bk W B cs t) := by
  intro s X Y row hv hg hrow
  refine hv.grown hg (fun e => ?_)
  obtain ⟨o, ho, hc⟩ := hrow B e.symm
  rw [show X.heap[B]? = _ from hv] at ho
  cases ho
  cases hc
theorem bk_not_row {W : World} {B : Nat} {cs : Array Value} {t e : TypeId} (h : Bk W B cs t) (hte : t ≠ e) {base size k : Nat} {v : Value} {xs : List Value} (hr : W.ownsRow base e size v k xs) : some B ≠ v.ownBlock := by
  rcases hr.2 with ⟨rfl, _⟩ | ⟨g, cap, cur, rfl, _, hgb, _⟩
  · simp [Value.ownBlock]
  · intro e'
    obtain rfl : B = g := by simpa [Value.ownBlock] using e'
    have := (show W.heap[B]? = _ from h).symm.trans hgb
    simp at this
    exact hte this.2
theorem KpB.t {Bb : Nat} {A B C : World} (h : KpB Bb A B) (k : KpB Bb B C) : KpB Bb A C :=
  ⟨h.1.trans k.1, fun hb => (k.2 (Nat.lt_of_lt_of_le hb h.1.size)).trans (h.2 hb)⟩
theorem KpB.b {w : World} {Bb : Nat} (hBb : Bb < w.heap.size) (W : World) (l : Nat) (o o' : Obj) (hl : w.heap.size ≤ l) (h : W.heap[l]? = some o) (_ : o.isCells = false) (hw : o.isWalk = false) : KpB Bb W (W.putObj l o') :=
  ⟨KeepsWalks.putObj _ h hw, fun _ => World.putObj_heap_other (by omega)⟩
theorem by_stops (n Bl Bb g mb nn : Nat) (hn : 1 ≤ n) (f : Int → Option Sd) (r nd : Int) (w : World) (hl : w.cell? ⟨Bl, 0, none⟩ = some (.pointer (some ⟨g, 0, none⟩))) (hm : w.cell? ⟨g, 1, none⟩ = some (.map (some mb)))
    (hb : Bk w Bb #[.int .u64 r, .int .i64 nd] 24) (hown : SaidIs w mb nn f) :
    SeqStopsK Fence.wide n Try.prog 72 #[.pointer (some ⟨Bl, 0, none⟩), .pointer (some ⟨Bb, 0, none⟩)] (fun x : Int × ByteArray => #[.int .i64 x.1, .string x.2]) (KpB Bb) (Came f r nd (fun _ => false)) (fun pre => ∀ x v, (x, v) ∈ pre → f x = some (r, nd, v)) nn w := fun l J Jx W hW hJ hJx hY h0 =>
  by1_in Fence.wide n trivial rfl hn l Bl Bb g mb nn f r nd J Jx hY W hJ (Bel.cell hW hl) (Bel.cell hW hm) (hb.bel hW) (hown.kept (hW.block _ hown.lt)) h0
section
variable {W w w' : World} {r n : Int} {v : ByteArray} {m g mb : Nat} {L : Lrn}
theorem AccFr.low (h : AccFr W w r n v) (hb : Below m w w') (hm : W.heap.size + 4 ≤ m) : AccFr W w' r n v :=
  ⟨h.below.trans (hb.mono (by omega)), Nat.le_trans h.sz hb.size, h.b0.below hb (by omega), h.b1.below hb (by omega), h.b2.below hb (by omega), h.b3.below hb (by omega)⟩
theorem AccFr.res2 (h : AccFr W w r n v) (x y : Value) : ((w.setCell ⟨W.heap.size + 1 + 1, 0, none⟩ x).setCell ⟨W.heap.size + 1 + 1 + 1, 0, none⟩ y).cell? ⟨W.heap.size + 1 + 1, 0, none⟩ = some x ∧ ((w.setCell ⟨W.heap.size + 1 + 1, 0, none⟩ x).setCell ⟨W.heap.size + 1 + 1 + 1, 0, none⟩ y).cell? ⟨W.heap.size + 1 + 1 + 1, 0, none⟩ = some y := by
  have h1 := (h.b2.set 0 x).far (p := ⟨W.heap.size + 1 + 1 + 1, 0, none⟩) (by dsimp only; omega) y
  exact ⟨by simpa using h1.cell 0, (h.res x y).2⟩
theorem LrnAt.low (h : LrnAt w g mb L) (hb : Below m w w') (hg : g < m) (hm : mb < m) : LrnAt w' g mb L := ⟨h.bk.below hb hg, h.said.kept (hb.block _ hm), h.pos, h.few, h.keys⟩
end
/-- Has accepted the ballot (r, n). -/
def votesB (c : Option Sd) (r n : Int) : Bool := match c with | some c => c.1 == r && c.2.1 == n | none => false
def voters (f : Int → Option Sd) (r n : Int) : List Int := ((List.range 7).map Int.ofNat).filter fun y => votesB (f y) r n
def otherB (f : Int → Option Sd) (r n : Int) (v : ByteArray) : Bool := (List.range 7).any fun k => match f (k : Int) with | some c => decide (c.1 = r ∧ c.2.1 = n ∧ ¬ c.2.2 = v) | none => false
def oldB (c : Option Sd) (r n : Int) : Bool := match c with | some c => decide (cmpB r n c.1 c.2.1 ≤ 0) | none => false
def putF (f : Int → Option Sd) (x : Int) (c : Sd) : Int → Option Sd := fun y => if y = x then some c else f y
/-- Accepted, of one that does not know yet and hears something new. -/
def lNew (L : Lrn) (x r n : Int) (v : ByteArray) : Bool × Int × Lrn :=
  if otherB L.f r n v = true then (false, 150, L)
  else (quoB (voters (putF L.f x (r, n, v)) r n) L.n, 0, ⟨L.n, putF L.f x (r, n, v), quoB (voters (putF L.f x (r, n, v)) r n) L.n, if quoB (voters (putF L.f x (r, n, v)) r n) L.n = true then v else L.val, L.nn + 1⟩)
/-- Accepted. -/
def lAcc (L : Lrn) (x r n : Int) (v : ByteArray) : Bool × Int × Lrn :=
  if ¬ (0 ≤ x ∧ x < L.n ∧ namedB r n = true) then (false, 2, L)
  else if 8192 < v.size then (false, 4, L)
  else if L.known = true then (false, 0, L)
  else if oldB (L.f x) r n = true then (false, 0, L)
  else lNew L x r n v
theorem votesB_iff {c : Option Sd} {r n : Int} : votesB c r n = true ↔ ∃ u, c = some (r, n, u) := by
  unfold votesB
  cases c with
  | none => simp
  | some c =>
    obtain ⟨a, b, u⟩ := c
    simp
theorem voters_mem {f : Int → Option Sd} {r n y : Int} : y ∈ voters f r n ↔ (0 ≤ y ∧ y < 7) ∧ ∃ u, f y = some (r, n, u) := by
  unfold voters
  rw [List.mem_filter, votesB_iff]
  refine and_congr_left fun _ => ?_
  rw [List.mem_map]
  constructor
  · rintro ⟨k, hk, rfl⟩
    have := List.mem_range.1 hk
    simp
    omega
  · rintro ⟨h0, h1⟩
    exact ⟨y.toNat, List.mem_range.2 (by omega), by simp; omega⟩
theorem otherB_iff {f : Int → Option Sd} {r n : Int} {v : ByteArray} : otherB f r n v = true ↔ ∃ y u, (0 ≤ y ∧ y < 7) ∧ f y = some (r, n, u) ∧ ¬ u = v := by
  unfold otherB
  rw [List.any_eq_true]
  constructor
  · rintro ⟨k, hk, h⟩
    have := List.mem_range.1 hk
    cases hf : f (k : Int) with
    | none => rw [hf] at h; cases h
    | some c =>
      obtain ⟨a, b, u⟩ := c
      rw [hf] at h
      simp at h
      obtain ⟨rfl, rfl, hu⟩ := h
      exact ⟨k, u, by omega, hf, hu⟩
  · rintro ⟨y, u, ⟨h0, h1⟩, hf, hu⟩
    refine ⟨y.toNat, List.mem_range.2 (by omega), ?_⟩
    rw [show ((y.toNat : Nat) : Int) = y by omega, hf]
    simp [hu]
theorem quoB_congr {xs ys : List Int} (h : ∀ y, y ∈ xs ↔ y ∈ ys) (n : Int) : quoB xs n = quoB ys n := by
  have e : ∀ m, cnt xs m = cnt ys m := by
    intro m
    induction m with
    | zero => rfl
    | succ m ih => simp only [cnt, ih, h (m : Int)]
  unfold quoB
  rw [e]
/-- What the loop heard, with the one who speaks, are the voters. -/
theorem came_voters {f : Int → Option Sd} {r n x : Int} {v : ByteArray} {xs : List (Int × ByteArray)} (hS : Came f r n (fun _ => false) xs) (hx : 0 ≤ x ∧ x < 7) (hk : ∀ y c, f y = some c → 0 ≤ y ∧ y < 7) (y : Int) :
    y ∈ x :: xs.map (·.1) ↔ y ∈ voters (putF f x (r, n, v)) r n := by
  rw [voters_mem, List.mem_cons, List.mem_map]
  unfold putF
  by_cases e : y = x
  · subst e
    simp [hx]
  · simp only [e, false_or, if_false]
    constructor
    · rintro ⟨⟨z, u⟩, hp, rfl⟩
      have := ((hS.2 z u).1 hp).1
      exact ⟨hk _ _ this, u, this⟩
    · rintro ⟨_, u, hu⟩
      exact ⟨(y, u), (hS.2 y u).2 ⟨hu, rfl⟩, rfl⟩
theorem lNew_eq {L : Lrn} {x r n : Int} {v : ByteArray} {b : Bool} (h : ¬ otherB L.f r n v = true) (hb : quoB (voters (putF L.f x (r, n, v)) r n) L.n = b) :
    lNew L x r n v = (b, 0, ⟨L.n, putF L.f x (r, n, v), b, if b = true then v else L.val, L.nn + 1⟩) := by
  unfold lNew
  rw [if_neg h, hb]
/-- Behind the loop of Accepted. -/
structure AccEnd (W w : World) (g mb D : Nat) (L : Lrn) (z2 z3 : Value) : Prop where
  kept : Kept (fun k => k = g ∨ k = mb) W w
  lrn : LrnAt w g mb L
  b2 : Bk w (W.heap.size + 1 + 1) #[z2] 4
  b3 : Bk w (W.heap.size + 1 + 1 + 1) #[z3] 30
  d : w.heap[D]? = some (.deferred (some []))
  lo : W.heap.size + 4 ≤ D
  gl : g < W.heap.size
  ml : mb < W.heap.size
section
variable {W w : World} {g mb D : Nat} {L : Lrn} {z2 z3 : Value}
theorem AccEnd.drew (h : AccEnd W w g mb D L z2 z3) : AccEnd W w.drew g mb D L z2 z3 :=
  ⟨⟨h.kept.os, h.kept.tape, h.kept.output, h.kept.size, h.kept.block⟩, ⟨h.lrn.bk, h.lrn.said.kept rfl, h.lrn.pos, h.lrn.few, h.lrn.keys⟩, h.b2, h.b3, h.d, h.lo, h.gl, h.ml⟩
theorem far_block {w : World} {p : Addr} {k : Nat} (h : k ≠ p.block) (v : Value) : (w.setCell p v).heap[k]? = w.heap[k]? := Below.heap_setCell w p v k h
theorem AccEnd.know (h : AccEnd W w g mb D L z2 z3) (v : ByteArray) : AccEnd W ((w.setCell ⟨g, 2, none⟩ (.bool true)).setCell ⟨g, 3, none⟩ (.string v)) g mb D { L with known := true, val := v } z2 z3 := by
  have hgm := h.lrn.ne
  have hlo := h.lo
  have hgl := h.gl
  refine ⟨(h.kept.set (.inl rfl) _).set (.inl rfl) _, ⟨?_, ?_, h.lrn.pos, h.lrn.few, h.lrn.keys⟩, (h.b2.far (by dsimp only; omega) _).far (by dsimp only; omega) _, (h.b3.far (by dsimp only; omega) _).far (by dsimp only; omega) _, ?_, h.lo, h.gl, h.ml⟩
  · simpa using (h.lrn.bk.set 2 (.bool true)).set 3 (.string v)
  · exact h.lrn.said.kept ((far_block hgm.symm _).trans (far_block hgm.symm _))
  · exact ((far_block (by dsimp only; omega) _).trans (far_block (by dsimp only; omega) _)).trans h.d
theorem AccEnd.res (h : AccEnd W w g mb D L z2 z3) (x y : Value) : AccEnd W ((w.setCell ⟨W.heap.size + 1 + 1, 0, none⟩ x).setCell ⟨W.heap.size + 1 + 1 + 1, 0, none⟩ y) g mb D L x y := by
  have hlo := h.lo
  have hgl := h.gl
  have hml := h.ml
  have k1 := h.kept
  refine ⟨⟨k1.os, k1.tape, k1.output, by simpa [World.setCell] using k1.size, fun k hk hn => ((far_block (by dsimp only; omega) _).trans (far_block (by dsimp only; omega) _)).trans (k1.block k hk hn)⟩,
    ⟨(h.lrn.bk.far (by dsimp only; omega) _).far (by dsimp only; omega) _, h.lrn.said.kept ((far_block (by dsimp only; omega) _).trans (far_block (by dsimp only; omega) _)), h.lrn.pos, h.lrn.few, h.lrn.keys⟩, ?_, ?_, ((far_block (by dsimp only; omega) _).trans (far_block (by dsimp only; omega) _)).trans h.d, h.lo, h.gl, h.ml⟩
  · have := (h.b2.set 0 x).far (p := ⟨W.heap.size + 1 + 1 + 1, 0, none⟩) (by dsimp only; omega) y
    simpa using this
  · have := (h.b3.far (p := ⟨W.heap.size + 1 + 1, 0, none⟩) (by dsimp only; omega) x).set 0 y
    simpa using this
theorem AccEnd.out (h : AccEnd W w g mb D L z2 z3) (o : Obj) : (w.putObj D o).cell? ⟨W.heap.size + 1 + 1, 0, none⟩ = some z2 ∧ (w.putObj D o).cell? ⟨W.heap.size + 1 + 1 + 1, 0, none⟩ = some z3 ∧ LrnAt (w.putObj D o) g mb L ∧ Kept (fun k => k = g ∨ k = mb) W (w.putObj D o) := by
  have hlo := h.lo
  have hgl := h.gl
  have hml := h.ml
  have k1 := h.kept
  have gb := grownBy_putObj' w D o
  have c2 : Bk (w.putObj D o) _ _ _ := h.b2.grown gb (by simp; omega)
  have c3 : Bk (w.putObj D o) _ _ _ := h.b3.grown gb (by simp; omega)
  refine ⟨c2.cell 0, c3.cell 0, ⟨h.lrn.bk.grown gb (by simp; omega), h.lrn.said.kept (gb.block _ h.lrn.said.lt (by simp; omega)), h.lrn.pos, h.lrn.few, h.lrn.keys⟩, ⟨gb.os.trans k1.os, gb.tape.trans k1.tape, gb.output.trans k1.output, Nat.le_trans k1.size gb.size, fun k hk hn => (gb.block k (Nat.lt_of_lt_of_le hk k1.size) (by simp; omega)).trans (k1.block k hk hn)⟩⟩
end
/-- What the loop's assignment leaves. -/
def sdAct (a : Act) (x : Int × ByteArray) : Act := ⟨(((a.tmps.setIfInBounds 66 (.int .i64 x.1)).setIfInBounds 67 (.string x.2)).setIfInBounds 13 (.int .i64 x.1)).setIfInBounds 14 (.string x.2), []⟩
section
variable {W : World} {g mb : Nat} {L : Lrn} (x r n : Int) (v : ByteArray)
set_option maxRecDepth 100000
set_option maxHeartbeats 3200000
theorem lacc_some (h : LrnAt W g mb L) (h0 : 0 ≤ x) (h1 : x < L.n) (hn : namedB r n = true) (hl : ¬ (8192 : Int) < (v.size : Int)) (hk : L.known = false) (hnn : L.nn < 1000000) (c : Sd) (hc : L.f x = some c) (hcmp : ¬ cmpB r n c.1 c.2.1 ≤ 0) :
    Calls Try.prog 45 #[.pointer (some ⟨g, 0, none⟩), .int .i64 x, .agg #[.int .u64 r, .int .i64 n], .string v] W fun e W' =>
    e = .returned (.tuple #[.bool (lNew L x r n v).1, .int .i64 (lNew L x r n v).2.1]) ∧ LrnAt W' g mb (lNew L x r n v).2.2 ∧ Kept (fun k => k = g ∨ k = mb) W W' := by
  have X := Lib.hid h
  obtain ⟨hm, hz0⟩ := named_split hn
  clear h hn
  obtain ⟨cr, cn, cv⟩ := c
  dsimp only at hcmp
  refine (callsIn_wide (n := 10)).1 ?_
  refine callsIn_of_wp_marks Try.func45 rfl trivial ?_ rfl
  simp only [Try.ntmps45, List.size_toArray, List.length_cons, List.length_nil, Nat.reduceAdd, Nat.reduceSub, Array.replicate_succ, Array.replicate_zero, List.push_toArray, List.append_toArray, List.nil_append, List.cons_append]
  refine wpIn_wide.2 ?_
  have hk1 := Lib.hid hk
  obtain ⟨d0, d1, d2, d3, dz⟩ := (X.out.keep (W4_facts (W := W) (r := r) (n := n) (v := v)).below).cells
  unfold W4 at d0 d1 d2 d3 dz
  go_wp2_with fail
  refine (may_any r n _).mono ?_
  rintro e w1 ⟨rfl, hb1⟩
  have A1 := Lib.hid (AccFr.start (W := W) (r := r) (n := n) (v := v) hb1)
  have L1 := Lib.hid (X.out.keep A1.out.fresh)
  clear hb1 d0 d1 d2 d3 dz
  obtain ⟨c0, c1, c2, c3, c4, f3, f4, hz1⟩ := A1.out.cells
  obtain ⟨g0, g1, g2, g3, hz⟩ := L1.out.cells
  rw [hm]
  rw [hk] at g2
  clear hm hk
  have hq := eq_zero hz0
  go_upto_region 12 with fail
  have hlk := L1.out.said.look (wf_small h0 (by have := L1.out.few; omega) : (Lit.int .i64 x).wf = true)
  rw [hc] at hlk
  unfold sdV at hlk
  simp only [Option.getD_some, Option.isSome_some] at hlk
  go_upto_region 13 with fail
  have A2 := Lib.hid (A1.out.bel ((Below.refl _ w1).alloc (Nat.le_refl _) (.cells #[.int .u64 cr, .int .i64 cn, .string cv] 122)))
  have L2 := Lib.hid (L1.out.keep ((Below.refl _ w1).alloc (Nat.le_refl _) (.cells #[.int .u64 cr, .int .i64 cn, .string cv] 122)))
  have BA := Bk.new w1 #[.int .u64 cr, .int .i64 cn, .string cv] 122
  clear c0 c1 c2 c3 c4 f3 f4 g0 g1 g2 g3 hz hz1 hlk A1 L1
  generalize w1.alloc (.cells #[.int .u64 cr, .int .i64 cn, .string cv] 122) = wA at A2 L2 BA ⊢
  generalize w1.heap.size = q at BA ⊢
  have p0 : wA.cell? ⟨q, 0, none⟩ = some (.int .u64 cr) := BA.cell 0
  have p1 : wA.cell? ⟨q, 1, none⟩ = some (.int .i64 cn) := BA.cell 1
  clear BA
  obtain ⟨c0, c1, c2, c3, c4, f3, f4, hz1⟩ := A2.out.cells
  obtain ⟨g0, g1, g2, g3, hz⟩ := L2.out.cells
  go_upto_region 16 with (go_at_call 21; refine (cmp_any _ _ _ _ _).mono ?_; rintro e w2 ⟨rfl, hb2⟩; have A3 := Lib.hid (A2.out.bel hb2); have L3 := Lib.hid (L2.out.keep hb2); clear hb2; obtain ⟨k0, k1, k2, k3, k4, m3, m4, k5⟩ := A3.out.cells)
  clear c0 c1 c2 c3 c4 f3 f4 g0 g1 g2 g3 hz hz1 p0 p1 hq
  clear k0 k1 k2 k3 k4 m3 m4 k5
  have kb1 := (Below.refl w2.heap.size w2).alloc (Nat.le_refl _) (.cells #[.int .i64 x] 3)
  have z1 : (w2.alloc (.cells #[.int .i64 x] 3)).heap.size = w2.heap.size + 1 := World.size_alloc _ _
  have kb2 := kb1.alloc (by rw [z1]; omega) (.cells #[.slice (some ⟨w2.heap.size, 0, none⟩) 1 1] 25)
  have A4 := Lib.hid (A3.out.bel kb2)
  obtain ⟨k0, k1, k2, k3, k4, m3, m4, k5⟩ := A4.out.cells
  have hrow := (show World.ownsRow (w2.alloc (.cells #[.int .i64 x] 3)) w2.heap.size 3 1 (.slice (some ⟨w2.heap.size, 0, none⟩) 1 1) 1 [.int .i64 x] from ⟨rfl, .inr ⟨w2.heap.size, 1, #[.int .i64 x], rfl, Nat.le_refl _, World.alloc_heap_new _ _, Nat.le_refl _, by unfold maxLen; omega, rfl, rfl⟩⟩).kept (World.grownBy_alloc _ (.cells #[.slice (some ⟨w2.heap.size, 0, none⟩) 1 1] 25) none) (.inr (by simp [Value.ownBlock]))
  have hbx := Boxed.new (w2.alloc (.cells #[.int .i64 x] 3)) 25 (.slice (some ⟨w2.heap.size, 0, none⟩) 1 1)
  rw [z1] at hbx
  have z2 : ((w2.alloc (.cells #[.int .i64 x] 3)).alloc (.cells #[.slice (some ⟨w2.heap.size, 0, none⟩) 1 1] 25)).heap.size = w2.heap.size + 1 + 1 := by rw [World.size_alloc, z1]
  generalize (w2.alloc (.cells #[.int .i64 x] 3)).alloc (.cells #[.slice (some ⟨w2.heap.size, 0, none⟩) 1 1] 25) = w3 at kb2 A4 k0 k1 k2 k3 k4 m3 m4 k5 hrow hbx z2 ⊢
  go_wp2_with (go_at_call 64; refine (by_any _ _ _ _).mono ?_; rintro e w' ⟨rfl, rfl⟩)
  have L4 := Lib.hid (L3.out.low kb2 L3.out.cells.2.2.2.2 L3.out.said.lt)
  have gl := L3.out.cells.2.2.2.2
  have gm := L3.out.said.lt
  have gW := A3.out.sz
  have BL := (Bk.new w3 #[.pointer (some ⟨g, 0, none⟩)] 67).alloc (.cells #[.int .u64 r, .int .i64 n] 24)
  have BB := Bk.new (w3.alloc (.cells #[.pointer (some ⟨g, 0, none⟩)] 67)) #[.int .u64 r, .int .i64 n] 24
  have zz : (w3.alloc (.cells #[.pointer (some ⟨g, 0, none⟩)] 67)).heap.size = w3.heap.size + 1 := World.size_alloc _ _
  rw [zz] at BB
  have kb4 := ((Below.refl w3.heap.size w3).alloc (Nat.le_refl _) (.cells #[.pointer (some ⟨g, 0, none⟩)] 67)).alloc (by rw [zz]; omega) (.cells #[.int .u64 r, .int .i64 n] 24)
  have hrow4 := (hrow.alloc (.cells #[.pointer (some ⟨g, 0, none⟩)] 67)).alloc (.cells #[.int .u64 r, .int .i64 n] 24)
  have hbx4 := (hbx.alloc (.cells #[.pointer (some ⟨g, 0, none⟩)] 67)).alloc (.cells #[.int .u64 r, .int .i64 n] 24)
  have z4 : ((w3.alloc (.cells #[.pointer (some ⟨g, 0, none⟩)] 67)).alloc (.cells #[.int .u64 r, .int .i64 n] 24)).heap.size = w2.heap.size + 1 + 1 + 1 + 1 := by rw [World.size_alloc, zz, z2]
  have A5 := Lib.hid (A4.out.bel kb4)
  have L5 := Lib.hid (L4.out.keep kb4)
  clear k0 k1 k2 k3 k4 m3 m4 k5 hrow hbx zz A4 L4 A2 L2 kb1 z1
  generalize (w3.alloc (.cells #[.pointer (some ⟨g, 0, none⟩)] 67)).alloc (.cells #[.int .u64 r, .int .i64 n] 24) = w4 at BL BB kb4 hrow4 hbx4 z4 A5 L5 ⊢
  rw [z2] at BL BB
  try rw [z2]
  have hBl : w4.cell? ⟨w2.heap.size + 1 + 1, 0, none⟩ = some (.pointer (some ⟨g, 0, none⟩)) := BL.cell 0
  clear BL kb4 z2
  refine wpIn_wide.1 (wpIn_rangeFunc_ownF (F := Fence.wide) (n := 10) (a := ?a) rfl (by decide) (gf := 72) (lb := #[.pointer (some ⟨w2.heap.size + 1 + 1, 0, none⟩), .pointer (some ⟨w2.heap.size + 1 + 1 + 1, 0, none⟩)]) rfl trivial (enters_of Try.func72 (by kernel_rfl) rfl)
    (by_stops 9 (w2.heap.size + 1 + 1) (w2.heap.size + 1 + 1 + 1) g mb L.nn (by decide) L.f r n w4 hBl L5.out.cells.2.1 BB L5.out.said) KpB.t (KpB.b (by rw [z4]; omega)) (Below.refl _ _) (fun _ => rfl)
    (fun pre W' => ((∃ v', Boxed W' (w2.heap.size + 1) 25 v' ∧ W'.ownsRow w2.heap.size 3 1 v' (pre.length + 1) (.int .i64 x :: pre.map (fun p => .int .i64 p.1)) ∧ (pre.length ≤ L.nn ∧ ∀ p ∈ pre, p.2 = v)) ∧ Bk W' (w2.heap.size + 1 + 1 + 1) #[.int .u64 r, .int .i64 n] 24) ∧ Below w2.heap.size w4 W')
    (fun c pre W' => (c = .ret ∧ (∃ p ∈ pre, p.2 ≠ v) ∧ W'.cell? ⟨W.heap.size + 1 + 1, 0, none⟩ = some (.bool false) ∧ W'.cell? ⟨W.heap.size + 1 + 1 + 1, 0, none⟩ = some (.int .i64 150)) ∧ Below W.heap.size W W')
    (OwnFrom.and (Own.from (fun s X Y row hs hg hr => ⟨holdsRow_own w2.heap.size (w2.heap.size + 1) 25 3 1 (fun pre : List (Int × ByteArray) => pre.length + 1) (fun pre => .int .i64 x :: pre.map (fun p => .int .i64 p.1)) (fun pre _ => pre.length ≤ L.nn ∧ ∀ p ∈ pre, p.2 = v) s X Y row hs.1 hg hr, bk_own _ _ _ s X Y row hs.2 hg hr⟩) _) (ownFrom_below (by rw [z4]; omega) (by rw [z4]; omega)))
    (fun c => OwnFrom.and (Own.from (fun s X Y row hs hg hr => ⟨hs.1, hs.2.1, cell_kept hs.2.2.1 hg hr, cell_kept hs.2.2.2 hg hr⟩) _) (ownFrom_below (Nat.le_refl _) (by rw [z4]; omega)))
    ⟨⟨⟨_, hbx4, hrow4, by simp⟩, BB⟩, Below.refl _ _⟩ (sdAct ?a) ?assign ?body ?done ?stop)
  case assign =>
    intro l x' W' K hK
    unfold sdAct at hK
    dsimp only at hK
    dsimp only
    gi_wp2
    exact hK
  case body =>
    rintro l pre ⟨y, u⟩ Wb ⟨⟨⟨v', hv, hrw, hlen, hall⟩, hBB⟩, hB⟩ hlt
    have hnr := bk_not_row hBB (by decide) hrw
    have AB := A5.out.low hB gW
    have hn6 := hnn
    obtain ⟨j0, j1, j2, j3, j4, e3, e4, j5⟩ := AB.cells
    have hsz := hB.size
    obtain ⟨i0, hi, iz0, iz1, iz2⟩ := info_parts Try.info3
    dsimp only [sdAct]
    simp only [List.setIfInBounds_toArray, List.set_cons_zero, List.set_cons_succ]
    by_cases hu : u = v
    · subst hu
      have hvc := hv.cell
      have hw4 : w2.heap.size ≤ Wb.heap.size := by omega
      clear hc hcmp h0 h1 j0 j1 j3 j4 e3 e4
      gi_wp2_with (gi_at_builtin; refine wpListIn_append_own _ rfl _ _ 25 rfl w2.heap.size 3 i0 (.int .i64 0) 1 8 Try.underlying25 hi iz0 iz1 iz2 rfl (by decide) _ _ _ rfl (hrw.alloc _) ⟨Wb.heap.size, 0, none⟩ 1 1 [.int .i64 y] rfl rfl (cell_one_new _ _ _) (by simp [Value.oneCell']) (by unfold maxLen; omega) (by omega) (by simp; omega) ?_; intro v2 wx hown' hgrow _; obtain ⟨g', cap', rfl⟩ := ownsRow_succ hown'; obtain ⟨hv1, hv2, hr2, hk2, hb2⟩ := hv.appended (by decide) hrw hw4 (by omega) hown' hgrow; have hc1 := hv1.cell; have hf1 := hv1.frozen)
      have hBB2 : Bk (wx.setCell ⟨w2.heap.size + 1, 0, none⟩ (.slice (some ⟨g', 0, none⟩) (pre.length + 1 + 1) cap')) (w2.heap.size + 1 + 1 + 1) #[.int .u64 r, .int .i64 n] 24 := ((hBB.alloc _).grown hgrow hnr).far (by dsimp only; omega) _
      exact ⟨hk2, ⟨hk2.walks, fun _ => hBB2.trans hBB.symm⟩, ⟨⟨_, hv2, by simpa using hr2, by simp; omega, fun p hp => by rcases List.mem_append.1 hp with hp | hp; exact hall p hp; simp at hp; rw [hp]⟩, hBB2⟩, hB.trans hb2⟩
    · have hu1 := str_ne hu
      gi_wp2
      have ER := AB.res (.bool false) (.int .i64 150)
      exact ⟨(KeepsOthers.setCell _ _ _).trans (KeepsOthers.setCell _ _ _), ⟨rfl, ⟨(y, u), by simp, hu⟩, (AB.res2 _ _).1, ER.2⟩, AB.out _ _⟩
  case stop =>
    rintro D c pre Ws hD hpre ⟨⟨rfl, ⟨⟨y, u⟩, hp, hne⟩, hc1, hc2⟩, hB⟩ hK
    have LS := X.out.keep hB
    refine wpIn_wide.2 ?_
    go_wp2
    refine ⟨by simp, .inl ⟨_, _, rfl, run_takeDeferred hK, ?_⟩⟩
    have hoth : otherB L.f r n v = true := otherB_iff.2 ⟨y, u, by have := X.out.keys y _ (hpre y u hp); have := X.out.few; omega, hpre y u hp, hne⟩
    have gb := grownBy_putObj' Ws D (.deferred none)
    have hc5 := cell_kept hc1 gb (fun r e => by cases e; exact ⟨_, hK, rfl⟩)
    have hc6 := cell_kept hc2 gb (fun r e => by cases e; exact ⟨_, hK, rfl⟩)
    have hB2 : Below W.heap.size W (Ws.putObj D (.deferred none)) := hB.grown gb hB.size (fun k e => by cases e; omega)
    rw [show lNew L x r n v = (false, 150, L) by unfold lNew; rw [if_pos hoth]]
    refine ⟨.tuple #[.bool false, .int .i64 150], ?_, rfl, X.out.keep hB2, Kept.of_below hB2⟩
    simp [results, Try.f45, go_sem, hc5, hc6]
  case done =>
    rintro D xs Wd hD hS ⟨⟨⟨v', hv, hrw, hlen, hall⟩, hBB⟩, hB⟩ hK
    have AD := Lib.hid (A5.out.low hB gW)
    have LD := Lib.hid (L5.out.low hB gl gm)
    obtain ⟨A', cp, rfl⟩ := own_shape hrw
    have hrw' : Wd.ownsRow w2.heap.size 3 1 (.slice A' (xs.length + 1) cp) (xs.length + 1) ((x :: xs.map (·.1)).map (Value.int .i64)) := by rw [List.map_cons, List.map_map]; exact hrw
    have hvc := hv.cell
    obtain ⟨j0, j1, j2, j3, j4, e3, e4, j5⟩ := AD.out.cells
    obtain ⟨g0, g1, g2, g3, hz⟩ := LD.out.cells
    go_upto_region 22 with fail
    have hwf : (Lit.int .i64 x).wf = true := wf_small h0 (by have := X.out.few; omega)
    obtain ⟨wm, hput, hsd, htn⟩ := (show SaidIs Wd.drew mb L.nn L.f from LD.out.said.kept rfl).put hnn hwf (r, n, v)
    unfold sdV at hput
    dsimp only at hput
    go_region
    have hg := htn.grown
    have gb := X.out.said.lt
    have gg := X.out.cells.2.2.2.2
    have gne := X.out.ne
    have hsz := hB.size
    have M1 := Lib.hid (AD.out.b1.drew.grown hg (by simp; omega))
    have M2 := Lib.hid (AD.out.b2.drew.grown hg (by simp; omega))
    have M3 := Lib.hid (AD.out.b3.drew.grown hg (by simp; omega))
    have MG := Lib.hid (LD.out.bk.drew.grown hg (by simpa using gne))
    have MB : Boxed wm (w2.heap.size + 1) 25 (.slice A' (xs.length + 1) cp) := Bk.grown (show Bk Wd.drew (w2.heap.size + 1) _ 25 from hv) hg (by simp; omega)
    have MI : IntsAt wm A' (x :: xs.map (·.1)) := by
      refine intsAt_of_own (base := w2.heap.size) (cap := cp) (n := xs.length + 1) ((show Wd.drew.ownsRow _ _ _ _ _ _ from hrw').kept hg (.inr ?_))
      intro e
      have := hrw'.lt mb e
      omega
    have hKm : wm.heap[D]? = some (.deferred (some [])) := (hg.block D (Array.getElem?_eq_some_iff.1 hK).1 (by simp; omega)).trans hK
    have KP : Kept (fun k => k = g ∨ k = mb) W wm := ⟨hg.os.trans AD.out.below.drew.os, hg.tape.trans AD.out.below.drew.tape, hg.output.trans AD.out.below.drew.output, Nat.le_trans AD.out.below.drew.size hg.size, fun k hk hF => (hg.block k (Nat.lt_of_lt_of_le hk AD.out.below.drew.size) (by simp; omega)).trans (AD.out.below.drew.block k hk)⟩
    clear htn hg hput hrw hvc j0 j1 j2 j3 j4 e3 e4 j5 g0 g1 g2 g3 hz
    have HS := Lib.hid (show ∀ w', Bel wm w' → w'.cell? ⟨w2.heap.size + 1, 0, none⟩ = some (.slice A' (xs.length + 1) cp) ∧ w'.cell? ⟨g, 0, none⟩ = some (.int .i64 L.n) from fun w' hw => ⟨Bel.cell hw MB.cell, Bel.cell hw (MG.out.cell 0)⟩)
    have HQ := Lib.hid (show ∀ w', Bel wm w' → Calls Try.prog 25 #[.slice A' (xs.length + 1) cp, .int .i64 L.n] w' fun e w'' => e = .returned (.tuple #[.bool (quo (x :: xs.map (·.1)) L.n).1, .int .i64 (quo (x :: xs.map (·.1)) L.n).2]) ∧ Below w'.heap.size w' w'' from fun w' hw => by
      have h9 := quorum_any A' cp (x :: xs.map (·.1)) L.n w' (MI.below hw) (by simp; omega)
      rw [show (x :: xs.map (·.1)).length = xs.length + 1 by simp] at h9
      exact h9)
    go_upto_region 23 with fail
    refine wp_qw (by kernel_rfl) ?_
    (refine qv1 12 (v := ?_) (by rfl) (by rfl) (fun ev hc hf h0 W hW => ?_) ?_; rotate_left; (focus (obtain ⟨e2, e3⟩ := HS.out W hW; first | (go_simp; done) | (go_simp; with_reducible rfl))); rotate_left; simp only [Act.put, List.setIfInBounds_toArray, List.set_cons_zero, List.set_cons_succ])
    (refine qv1 0 (v := ?_) (by rfl) (by rfl) (fun ev hc hf h0 W hW => ?_) ?_; rotate_left; (focus (obtain ⟨e2, e3⟩ := HS.out W hW; first | (go_simp; done) | (go_simp; with_reducible rfl))); rotate_left; simp only [Act.put, List.setIfInBounds_toArray, List.set_cons_zero, List.set_cons_succ])
    (refine qv1 85 (v := ?_) (by rfl) (by rfl) (fun ev hc hf h0 W hW => ?_) ?_; rotate_left; (focus (obtain ⟨e2, e3⟩ := HS.out W hW; first | (go_simp; done) | (go_simp; with_reducible rfl))); rotate_left; simp only [Act.put, List.setIfInBounds_toArray, List.set_cons_zero, List.set_cons_succ])
    (refine qv1 86 (v := ?_) (by rfl) (by rfl) (fun ev hc hf h0 W hW => ?_) ?_; rotate_left; (focus (obtain ⟨e2, e3⟩ := HS.out W hW; first | (go_simp; done) | (go_simp; with_reducible rfl))); rotate_left; simp only [Act.put, List.setIfInBounds_toArray, List.set_cons_zero, List.set_cons_succ])
    (refine qv1 87 (v := ?_) (by rfl) (by rfl) (fun ev hc hf h0 W hW => ?_) ?_; rotate_left; (focus (obtain ⟨e2, e3⟩ := HS.out W hW; first | (go_simp; done) | (go_simp; with_reducible rfl))); rotate_left; simp only [Act.put, List.setIfInBounds_toArray, List.set_cons_zero, List.set_cons_succ])
    (refine qc2 84 88 _ _ _ (by rfl) (by rfl) (by rfl) (fun ev hc hf h0 h1 W hW => ?_) (fun W hW => q_calls hW (HQ.out W hW)) ?_; (focus (obtain ⟨e2, e3⟩ := HS.out W hW; go_simp; done)); simp only [Act.put, List.setIfInBounds_toArray, List.set_cons_zero, List.set_cons_succ])
    (refine qv1 89 (v := ?_) (by rfl) (by rfl) (fun ev hc hf h0 W hW => ?_) ?_; rotate_left; (focus (obtain ⟨e2, e3⟩ := HS.out W hW; first | (go_simp; done) | (go_simp; with_reducible rfl))); rotate_left; simp only [Act.put, List.setIfInBounds_toArray, List.set_cons_zero, List.set_cons_succ])
    (refine qv1 83 (v := ?_) (by rfl) (by rfl) (fun ev hc hf h0 W hW => ?_) ?_; rotate_left; (focus (obtain ⟨e2, e3⟩ := HS.out W hW; first | (go_simp; done) | (go_simp; with_reducible rfl))); rotate_left; simp only [Act.put, List.setIfInBounds_toArray, List.set_cons_zero, List.set_cons_succ])
    (refine qv1 83 (v := ?_) (by rfl) (by rfl) (fun ev hc hf h0 W hW => ?_) ?_; rotate_left; (focus (obtain ⟨e2, e3⟩ := HS.out W hW; first | (go_simp; done) | (go_simp; with_reducible rfl))); rotate_left; simp only [Act.put, List.setIfInBounds_toArray, List.set_cons_zero, List.set_cons_succ])
    (refine qv1 90 (v := ?_) (by rfl) (by rfl) (fun ev hc hf h0 W hW => ?_) ?_; rotate_left; (focus (obtain ⟨e2, e3⟩ := HS.out W hW; first | (go_simp; done) | (go_simp; with_reducible rfl))); rotate_left; simp only [Act.put, List.setIfInBounds_toArray, List.set_cons_zero, List.set_cons_succ])
    (refine qv1 91 (v := ?_) (by rfl) (by rfl) (fun ev hc hf h0 W hW => ?_) ?_; rotate_left; (focus (obtain ⟨e2, e3⟩ := HS.out W hW; first | (go_simp; done) | (go_simp; with_reducible rfl))); rotate_left; simp only [Act.put, List.setIfInBounds_toArray, List.set_cons_zero, List.set_cons_succ])
    refine qnil ?_
    intro w9 hW9
    have M19 := Lib.hid (M1.out.bel hW9)
    have MG9 := Lib.hid (MG.out.bel hW9)
    have hvo : votesOk (x :: xs.map (·.1)) L.n = true := by
      unfold votesOk
      rw [List.all_eq_true]
      intro z hz
      rcases List.mem_cons.1 hz with rfl | hz
      · simp; omega
      · obtain ⟨⟨z', u'⟩, hp, rfl⟩ := List.mem_map.1 hz
        have := X.out.keys z' _ ((hS.2 z' u').1 hp).1
        simp; omega
    have hqq := quo_good (xs := x :: xs.map (·.1)) (n := L.n) (by have := X.out.pos; omega) (by have := X.out.few; omega) hvo
    rw [hqq]
    obtain ⟨g0, g1, g2, g3, hz⟩ : w9.cell? ⟨g, 0, none⟩ = some (.int .i64 L.n) ∧ w9.cell? ⟨g, 1, none⟩ = some (.map (some mb)) ∧ w9.cell? ⟨g, 2, none⟩ = some (.bool false) ∧ w9.cell? ⟨g, 3, none⟩ = some (.string L.val) ∧ g < w9.heap.size := ⟨MG9.out.cell 0, MG9.out.cell 1, by rw [MG9.out.cell 2]; simp [hk1.out], MG9.out.cell 3, MG9.out.lt⟩
    have hqv := quoB_congr (xs := x :: xs.map (·.1)) (ys := voters (putF L.f x (r, n, v)) r n) (came_voters (x := x) (v := v) hS ⟨h0, by have := X.out.few; omega⟩ (fun y c hyc => by have := X.out.keys y c hyc; have := X.out.few; omega)) L.n
    rw [hqv]
    have hoth : ¬ otherB L.f r n v = true := by
      rw [otherB_iff]
      rintro ⟨y, u, _, hf, hu⟩
      exact hu (hall _ ((hS.2 y u).2 ⟨hf, rfl⟩))
    have AE := Lib.hid (show AccEnd W w9 g mb D ⟨L.n, putF L.f x (r, n, v), false, L.val, L.nn + 1⟩ (.bool false) (.int .i64 0) from
      ⟨KP.trans (Kept.of_below hW9), ⟨by have := MG9.out; rw [hk1.out] at this; exact this, hsd.kept (hW9.block _ hsd.lt), X.out.pos, X.out.few, fun y c hy => by
        have hy' : (if y = x then some (r, n, v) else L.f y) = some c := hy
        by_cases e : y = x
        · subst e; exact ⟨h0, h1⟩
        · rw [if_neg e] at hy'; exact X.out.keys y c hy'⟩, M2.out.bel hW9, M3.out.bel hW9, (hW9.block _ (Array.getElem?_eq_some_iff.1 hKm).1).trans hKm, by omega, gg, gb⟩)
    have t7 := M19.out.cell 0
    simp at t7
    obtain ⟨c3, c4, f3, f4⟩ : w9.cell? ⟨W.heap.size + 1 + 1, 0, none⟩ = some (.bool false) ∧ w9.cell? ⟨W.heap.size + 1 + 1 + 1, 0, none⟩ = some (.int .i64 0) ∧ w9.frozen? ⟨W.heap.size + 1 + 1, 0, none⟩ = false ∧ w9.frozen? ⟨W.heap.size + 1 + 1 + 1, 0, none⟩ = false := ⟨AE.out.b2.cell 0, AE.out.b3.cell 0, AE.out.b2.free 0, AE.out.b3.free 0⟩
    have f5 := MG9.out.free 2
    have f6 := MG9.out.free 3
    clear hqv hqq hvo HS HQ MI MB M1 M2 M3 MG hW9 KP hsd hKm hS hall hlen hrw' hv hBB AD LD A5 L5 BB hrow4 hbx4 hBl z4 kb2 A3 L3
    have HO := Lib.hid hoth
    clear hoth
    cases hb : quoB (voters (putF L.f x (r, n, v)) r n) L.n with
    | true =>
      go_upto_region 25 with fail
      go_region
      have AK := Lib.hid (AE.out.know v)
      have e1 : ¬ g = W.heap.size + 1 + 1 := by omega
      have e2 : ¬ g = W.heap.size + 1 + 1 + 1 := by omega
      have e3 : ¬ W.heap.size + 1 + 1 = g := by omega
      have e4 : ¬ W.heap.size + 1 + 1 + 1 = g := by omega
      go_wp2_with fail
      have AR := (AK.out.res (.bool true) (.int .i64 0)).drew
      have O := AR.out (.deferred none)
      refine ⟨by simp, .inl ⟨_, _, rfl, run_takeDeferred AR.d, ?_⟩⟩
      rw [lNew_eq HO.out hb]
      refine ⟨.tuple #[.bool true, .int .i64 0], ?_, rfl, O.2.2.1, O.2.2.2⟩
      simp [results, Try.f45, go_sem, O.1, O.2.1]
    | false =>
      go_wp2_with fail
      have AK := AE
      have AR := AK.out.res (.bool false) (.int .i64 0)
      have O := AR.out (.deferred none)
      refine ⟨by simp, .inl ⟨_, _, rfl, run_takeDeferred AR.d, ?_⟩⟩
      rw [lNew_eq HO.out hb]
      refine ⟨.tuple #[.bool false, .int .i64 0], ?_, rfl, O.2.2.1, O.2.2.2⟩
      simp [results, Try.f45, go_sem, O.1, O.2.1]
theorem lacc_none (h : LrnAt W g mb L) (h0 : 0 ≤ x) (h1 : x < L.n) (hn : namedB r n = true) (hl : ¬ (8192 : Int) < (v.size : Int)) (hk : L.known = false) (hnn : L.nn < 1000000) (hc : L.f x = none) :
    Calls Try.prog 45 #[.pointer (some ⟨g, 0, none⟩), .int .i64 x, .agg #[.int .u64 r, .int .i64 n], .string v] W fun e W' =>
    e = .returned (.tuple #[.bool (lNew L x r n v).1, .int .i64 (lNew L x r n v).2.1]) ∧ LrnAt W' g mb (lNew L x r n v).2.2 ∧ Kept (fun k => k = g ∨ k = mb) W W' := by
  have X := Lib.hid h
  obtain ⟨hm, hz0⟩ := named_split hn
  clear h hn
  refine (callsIn_wide (n := 10)).1 ?_
  refine callsIn_of_wp_marks Try.func45 rfl trivial ?_ rfl
  simp only [Try.ntmps45, List.size_toArray, List.length_cons, List.length_nil, Nat.reduceAdd, Nat.reduceSub, Array.replicate_succ, Array.replicate_zero, List.push_toArray, List.append_toArray, List.nil_append, List.cons_append]
  refine wpIn_wide.2 ?_
  have hk1 := Lib.hid hk
  obtain ⟨d0, d1, d2, d3, dz⟩ := (X.out.keep (W4_facts (W := W) (r := r) (n := n) (v := v)).below).cells
  unfold W4 at d0 d1 d2 d3 dz
  go_wp2_with fail
  refine (may_any r n _).mono ?_
  rintro e w1 ⟨rfl, hb1⟩
  have A1 := Lib.hid (AccFr.start (W := W) (r := r) (n := n) (v := v) hb1)
  have L1 := Lib.hid (X.out.keep A1.out.fresh)
  clear hb1 d0 d1 d2 d3 dz
  obtain ⟨c0, c1, c2, c3, c4, f3, f4, hz1⟩ := A1.out.cells
  obtain ⟨g0, g1, g2, g3, hz⟩ := L1.out.cells
  rw [hm]
  rw [hk] at g2
  clear hm hk
  have hq := eq_zero hz0
  go_upto_region 12 with fail
  have hlk := L1.out.said.look (wf_small h0 (by have := L1.out.few; omega) : (Lit.int .i64 x).wf = true)
  rw [hc] at hlk
  unfold sdV at hlk
  simp only [Option.getD_none, Option.isSome_none] at hlk
  go_upto_region 13 with fail
  have A3 := Lib.hid (A1.out.bel ((Below.refl _ w1).alloc (Nat.le_refl _) (.cells #[.int .u64 0, .int .i64 0, .string ⟨#[]⟩] 122)))
  have L3 := Lib.hid (L1.out.keep ((Below.refl _ w1).alloc (Nat.le_refl _) (.cells #[.int .u64 0, .int .i64 0, .string ⟨#[]⟩] 122)))
  have BA := Bk.new w1 #[.int .u64 0, .int .i64 0, .string ⟨#[]⟩] 122
  clear c0 c1 c2 c3 c4 f3 f4 g0 g1 g2 g3 hz hz1 hlk A1 L1
  generalize w1.alloc (.cells #[.int .u64 0, .int .i64 0, .string ⟨#[]⟩] 122) = w2 at A3 L3 BA ⊢
  generalize w1.heap.size = q at BA ⊢
  have p0 : w2.cell? ⟨q, 0, none⟩ = some (.int .u64 0) := BA.cell 0
  have p1 : w2.cell? ⟨q, 1, none⟩ = some (.int .i64 0) := BA.cell 1
  clear BA
  obtain ⟨c0, c1, c2, c3, c4, f3, f4, hz1⟩ := A3.out.cells
  obtain ⟨g0, g1, g2, g3, hz⟩ := L3.out.cells
  have A2 := A3
  have L2 := L3
  go_upto_region 16 with (go_at_call 21; refine (cmp_any _ _ _ _ _).mono ?_; rintro e w2 ⟨rfl, hb2⟩; have A3 := Lib.hid (A2.out.bel hb2); have L3 := Lib.hid (L2.out.keep hb2); clear hb2; obtain ⟨k0, k1, k2, k3, k4, m3, m4, k5⟩ := A3.out.cells)
  clear c0 c1 c2 c3 c4 f3 f4 g0 g1 g2 g3 hz hz1 p0 p1 hq
  obtain ⟨k0, k1, k2, k3, k4, m3, m4, k5⟩ := A3.out.cells
  clear k0 k1 k2 k3 k4 m3 m4 k5
  have kb1 := (Below.refl w2.heap.size w2).alloc (Nat.le_refl _) (.cells #[.int .i64 x] 3)
  have z1 : (w2.alloc (.cells #[.int .i64 x] 3)).heap.size = w2.heap.size + 1 := World.size_alloc _ _
  have kb2 := kb1.alloc (by rw [z1]; omega) (.cells #[.slice (some ⟨w2.heap.size, 0, none⟩) 1 1] 25)
  have A4 := Lib.hid (A3.out.bel kb2)
  obtain ⟨k0, k1, k2, k3, k4, m3, m4, k5⟩ := A4.out.cells
  have hrow := (show World.ownsRow (w2.alloc (.cells #[.int .i64 x] 3)) w2.heap.size 3 1 (.slice (some ⟨w2.heap.size, 0, none⟩) 1 1) 1 [.int .i64 x] from ⟨rfl, .inr ⟨w2.heap.size, 1, #[.int .i64 x], rfl, Nat.le_refl _, World.alloc_heap_new _ _, Nat.le_refl _, by unfold maxLen; omega, rfl, rfl⟩⟩).kept (World.grownBy_alloc _ (.cells #[.slice (some ⟨w2.heap.size, 0, none⟩) 1 1] 25) none) (.inr (by simp [Value.ownBlock]))
  have hbx := Boxed.new (w2.alloc (.cells #[.int .i64 x] 3)) 25 (.slice (some ⟨w2.heap.size, 0, none⟩) 1 1)
  rw [z1] at hbx
  have z2 : ((w2.alloc (.cells #[.int .i64 x] 3)).alloc (.cells #[.slice (some ⟨w2.heap.size, 0, none⟩) 1 1] 25)).heap.size = w2.heap.size + 1 + 1 := by rw [World.size_alloc, z1]
  generalize (w2.alloc (.cells #[.int .i64 x] 3)).alloc (.cells #[.slice (some ⟨w2.heap.size, 0, none⟩) 1 1] 25) = w3 at kb2 A4 k0 k1 k2 k3 k4 m3 m4 k5 hrow hbx z2 ⊢
  go_wp2_with (go_at_call 64; refine (by_any _ _ _ _).mono ?_; rintro e w' ⟨rfl, rfl⟩)
  have L4 := Lib.hid (L3.out.low kb2 L3.out.cells.2.2.2.2 L3.out.said.lt)
  have gl := L3.out.cells.2.2.2.2
  have gm := L3.out.said.lt
  have gW := A3.out.sz
  have BL := (Bk.new w3 #[.pointer (some ⟨g, 0, none⟩)] 67).alloc (.cells #[.int .u64 r, .int .i64 n] 24)
  have BB := Bk.new (w3.alloc (.cells #[.pointer (some ⟨g, 0, none⟩)] 67)) #[.int .u64 r, .int .i64 n] 24
  have zz : (w3.alloc (.cells #[.pointer (some ⟨g, 0, none⟩)] 67)).heap.size = w3.heap.size + 1 := World.size_alloc _ _
  rw [zz] at BB
  have kb4 := ((Below.refl w3.heap.size w3).alloc (Nat.le_refl _) (.cells #[.pointer (some ⟨g, 0, none⟩)] 67)).alloc (by rw [zz]; omega) (.cells #[.int .u64 r, .int .i64 n] 24)
  have hrow4 := (hrow.alloc (.cells #[.pointer (some ⟨g, 0, none⟩)] 67)).alloc (.cells #[.int .u64 r, .int .i64 n] 24)
  have hbx4 := (hbx.alloc (.cells #[.pointer (some ⟨g, 0, none⟩)] 67)).alloc (.cells #[.int .u64 r, .int .i64 n] 24)
  have z4 : ((w3.alloc (.cells #[.pointer (some ⟨g, 0, none⟩)] 67)).alloc (.cells #[.int .u64 r, .int .i64 n] 24)).heap.size = w2.heap.size + 1 + 1 + 1 + 1 := by rw [World.size_alloc, zz, z2]
  have A5 := Lib.hid (A4.out.bel kb4)
  have L5 := Lib.hid (L4.out.keep kb4)
  clear k0 k1 k2 k3 k4 m3 m4 k5 hrow hbx zz A4 L4 A2 L2 kb1 z1
  generalize (w3.alloc (.cells #[.pointer (some ⟨g, 0, none⟩)] 67)).alloc (.cells #[.int .u64 r, .int .i64 n] 24) = w4 at BL BB kb4 hrow4 hbx4 z4 A5 L5 ⊢
  rw [z2] at BL BB
  try rw [z2]
  have hBl : w4.cell? ⟨w2.heap.size + 1 + 1, 0, none⟩ = some (.pointer (some ⟨g, 0, none⟩)) := BL.cell 0
  clear BL kb4 z2
  refine wpIn_wide.1 (wpIn_rangeFunc_ownF (F := Fence.wide) (n := 10) (a := ?a) rfl (by decide) (gf := 72) (lb := #[.pointer (some ⟨w2.heap.size + 1 + 1, 0, none⟩), .pointer (some ⟨w2.heap.size + 1 + 1 + 1, 0, none⟩)]) rfl trivial (enters_of Try.func72 (by kernel_rfl) rfl)
    (by_stops 9 (w2.heap.size + 1 + 1) (w2.heap.size + 1 + 1 + 1) g mb L.nn (by decide) L.f r n w4 hBl L5.out.cells.2.1 BB L5.out.said) KpB.t (KpB.b (by rw [z4]; omega)) (Below.refl _ _) (fun _ => rfl)
    (fun pre W' => ((∃ v', Boxed W' (w2.heap.size + 1) 25 v' ∧ W'.ownsRow w2.heap.size 3 1 v' (pre.length + 1) (.int .i64 x :: pre.map (fun p => .int .i64 p.1)) ∧ (pre.length ≤ L.nn ∧ ∀ p ∈ pre, p.2 = v)) ∧ Bk W' (w2.heap.size + 1 + 1 + 1) #[.int .u64 r, .int .i64 n] 24) ∧ Below w2.heap.size w4 W')
    (fun c pre W' => (c = .ret ∧ (∃ p ∈ pre, p.2 ≠ v) ∧ W'.cell? ⟨W.heap.size + 1 + 1, 0, none⟩ = some (.bool false) ∧ W'.cell? ⟨W.heap.size + 1 + 1 + 1, 0, none⟩ = some (.int .i64 150)) ∧ Below W.heap.size W W')
    (OwnFrom.and (Own.from (fun s X Y row hs hg hr => ⟨holdsRow_own w2.heap.size (w2.heap.size + 1) 25 3 1 (fun pre : List (Int × ByteArray) => pre.length + 1) (fun pre => .int .i64 x :: pre.map (fun p => .int .i64 p.1)) (fun pre _ => pre.length ≤ L.nn ∧ ∀ p ∈ pre, p.2 = v) s X Y row hs.1 hg hr, bk_own _ _ _ s X Y row hs.2 hg hr⟩) _) (ownFrom_below (by rw [z4]; omega) (by rw [z4]; omega)))
    (fun c => OwnFrom.and (Own.from (fun s X Y row hs hg hr => ⟨hs.1, hs.2.1, cell_kept hs.2.2.1 hg hr, cell_kept hs.2.2.2 hg hr⟩) _) (ownFrom_below (Nat.le_refl _) (by rw [z4]; omega)))
    ⟨⟨⟨_, hbx4, hrow4, by simp⟩, BB⟩, Below.refl _ _⟩ (sdAct ?a) ?assign ?body ?done ?stop)
  case assign =>
    intro l x' W' K hK
    unfold sdAct at hK
    dsimp only at hK
    dsimp only
    gi_wp2
    exact hK
  case body =>
    rintro l pre ⟨y, u⟩ Wb ⟨⟨⟨v', hv, hrw, hlen, hall⟩, hBB⟩, hB⟩ hlt
    have hnr := bk_not_row hBB (by decide) hrw
    have AB := A5.out.low hB gW
    have hn6 := hnn
    obtain ⟨j0, j1, j2, j3, j4, e3, e4, j5⟩ := AB.cells
    have hsz := hB.size
    obtain ⟨i0, hi, iz0, iz1, iz2⟩ := info_parts Try.info3
    dsimp only [sdAct]
    simp only [List.setIfInBounds_toArray, List.set_cons_zero, List.set_cons_succ]
    by_cases hu : u = v
    · subst hu
      have hvc := hv.cell
      have hw4 : w2.heap.size ≤ Wb.heap.size := by omega
      clear hc h0 h1 j0 j1 j3 j4 e3 e4
      gi_wp2_with (gi_at_builtin; refine wpListIn_append_own _ rfl _ _ 25 rfl w2.heap.size 3 i0 (.int .i64 0) 1 8 Try.underlying25 hi iz0 iz1 iz2 rfl (by decide) _ _ _ rfl (hrw.alloc _) ⟨Wb.heap.size, 0, none⟩ 1 1 [.int .i64 y] rfl rfl (cell_one_new _ _ _) (by simp [Value.oneCell']) (by unfold maxLen; omega) (by omega) (by simp; omega) ?_; intro v2 wx hown' hgrow _; obtain ⟨g', cap', rfl⟩ := ownsRow_succ hown'; obtain ⟨hv1, hv2, hr2, hk2, hb2⟩ := hv.appended (by decide) hrw hw4 (by omega) hown' hgrow; have hc1 := hv1.cell; have hf1 := hv1.frozen)
      have hBB2 : Bk (wx.setCell ⟨w2.heap.size + 1, 0, none⟩ (.slice (some ⟨g', 0, none⟩) (pre.length + 1 + 1) cap')) (w2.heap.size + 1 + 1 + 1) #[.int .u64 r, .int .i64 n] 24 := ((hBB.alloc _).grown hgrow hnr).far (by dsimp only; omega) _
      exact ⟨hk2, ⟨hk2.walks, fun _ => hBB2.trans hBB.symm⟩, ⟨⟨_, hv2, by simpa using hr2, by simp; omega, fun p hp => by rcases List.mem_append.1 hp with hp | hp; exact hall p hp; simp at hp; rw [hp]⟩, hBB2⟩, hB.trans hb2⟩
    · have hu1 := str_ne hu
      gi_wp2
      have ER := AB.res (.bool false) (.int .i64 150)
      exact ⟨(KeepsOthers.setCell _ _ _).trans (KeepsOthers.setCell _ _ _), ⟨rfl, ⟨(y, u), by simp, hu⟩, (AB.res2 _ _).1, ER.2⟩, AB.out _ _⟩
  case stop =>
    rintro D c pre Ws hD hpre ⟨⟨rfl, ⟨⟨y, u⟩, hp, hne⟩, hc1, hc2⟩, hB⟩ hK
    have LS := X.out.keep hB
    refine wpIn_wide.2 ?_
    go_wp2
    refine ⟨by simp, .inl ⟨_, _, rfl, run_takeDeferred hK, ?_⟩⟩
    have hoth : otherB L.f r n v = true := otherB_iff.2 ⟨y, u, by have := X.out.keys y _ (hpre y u hp); have := X.out.few; omega, hpre y u hp, hne⟩
    have gb := grownBy_putObj' Ws D (.deferred none)
    have hc5 := cell_kept hc1 gb (fun r e => by cases e; exact ⟨_, hK, rfl⟩)
    have hc6 := cell_kept hc2 gb (fun r e => by cases e; exact ⟨_, hK, rfl⟩)
    have hB2 : Below W.heap.size W (Ws.putObj D (.deferred none)) := hB.grown gb hB.size (fun k e => by cases e; omega)
    rw [show lNew L x r n v = (false, 150, L) by unfold lNew; rw [if_pos hoth]]
    refine ⟨.tuple #[.bool false, .int .i64 150], ?_, rfl, X.out.keep hB2, Kept.of_below hB2⟩
    simp [results, Try.f45, go_sem, hc5, hc6]
  case done =>
    rintro D xs Wd hD hS ⟨⟨⟨v', hv, hrw, hlen, hall⟩, hBB⟩, hB⟩ hK
    have AD := Lib.hid (A5.out.low hB gW)
    have LD := Lib.hid (L5.out.low hB gl gm)
    obtain ⟨A', cp, rfl⟩ := own_shape hrw
    have hrw' : Wd.ownsRow w2.heap.size 3 1 (.slice A' (xs.length + 1) cp) (xs.length + 1) ((x :: xs.map (·.1)).map (Value.int .i64)) := by rw [List.map_cons, List.map_map]; exact hrw
    have hvc := hv.cell
    obtain ⟨j0, j1, j2, j3, j4, e3, e4, j5⟩ := AD.out.cells
    obtain ⟨g0, g1, g2, g3, hz⟩ := LD.out.cells
    go_upto_region 22 with fail
    have hwf : (Lit.int .i64 x).wf = true := wf_small h0 (by have := X.out.few; omega)
    obtain ⟨wm, hput, hsd, htn⟩ := (show SaidIs Wd.drew mb L.nn L.f from LD.out.said.kept rfl).put hnn hwf (r, n, v)
    unfold sdV at hput
    dsimp only at hput
    go_region
    have hg := htn.grown
    have gb := X.out.said.lt
    have gg := X.out.cells.2.2.2.2
    have gne := X.out.ne
    have hsz := hB.size
    have M1 := Lib.hid (AD.out.b1.drew.grown hg (by simp; omega))
    have M2 := Lib.hid (AD.out.b2.drew.grown hg (by simp; omega))
    have M3 := Lib.hid (AD.out.b3.drew.grown hg (by simp; omega))
    have MG := Lib.hid (LD.out.bk.drew.grown hg (by simpa using gne))
    have MB : Boxed wm (w2.heap.size + 1) 25 (.slice A' (xs.length + 1) cp) := Bk.grown (show Bk Wd.drew (w2.heap.size + 1) _ 25 from hv) hg (by simp; omega)
    have MI : IntsAt wm A' (x :: xs.map (·.1)) := by
      refine intsAt_of_own (base := w2.heap.size) (cap := cp) (n := xs.length + 1) ((show Wd.drew.ownsRow _ _ _ _ _ _ from hrw').kept hg (.inr ?_))
      intro e
      have := hrw'.lt mb e
      omega
    have hKm : wm.heap[D]? = some (.deferred (some [])) := (hg.block D (Array.getElem?_eq_some_iff.1 hK).1 (by simp; omega)).trans hK
    have KP : Kept (fun k => k = g ∨ k = mb) W wm := ⟨hg.os.trans AD.out.below.drew.os, hg.tape.trans AD.out.below.drew.tape, hg.output.trans AD.out.below.drew.output, Nat.le_trans AD.out.below.drew.size hg.size, fun k hk hF => (hg.block k (Nat.lt_of_lt_of_le hk AD.out.below.drew.size) (by simp; omega)).trans (AD.out.below.drew.block k hk)⟩
    clear htn hg hput hrw hvc j0 j1 j2 j3 j4 e3 e4 j5 g0 g1 g2 g3 hz
    have HS := Lib.hid (show ∀ w', Bel wm w' → w'.cell? ⟨w2.heap.size + 1, 0, none⟩ = some (.slice A' (xs.length + 1) cp) ∧ w'.cell? ⟨g, 0, none⟩ = some (.int .i64 L.n) from fun w' hw => ⟨Bel.cell hw MB.cell, Bel.cell hw (MG.out.cell 0)⟩)
    have HQ := Lib.hid (show ∀ w', Bel wm w' → Calls Try.prog 25 #[.slice A' (xs.length + 1) cp, .int .i64 L.n] w' fun e w'' => e = .returned (.tuple #[.bool (quo (x :: xs.map (·.1)) L.n).1, .int .i64 (quo (x :: xs.map (·.1)) L.n).2]) ∧ Below w'.heap.size w' w'' from fun w' hw => by
      have h9 := quorum_any A' cp (x :: xs.map (·.1)) L.n w' (MI.below hw) (by simp; omega)
      rw [show (x :: xs.map (·.1)).length = xs.length + 1 by simp] at h9
      exact h9)
    go_upto_region 23 with fail
    refine wp_qw (by kernel_rfl) ?_
    (refine qv1 12 (v := ?_) (by rfl) (by rfl) (fun ev hc hf h0 W hW => ?_) ?_; rotate_left; (focus (obtain ⟨e2, e3⟩ := HS.out W hW; first | (go_simp; done) | (go_simp; with_reducible rfl))); rotate_left; simp only [Act.put, List.setIfInBounds_toArray, List.set_cons_zero, List.set_cons_succ])
    (refine qv1 0 (v := ?_) (by rfl) (by rfl) (fun ev hc hf h0 W hW => ?_) ?_; rotate_left; (focus (obtain ⟨e2, e3⟩ := HS.out W hW; first | (go_simp; done) | (go_simp; with_reducible rfl))); rotate_left; simp only [Act.put, List.setIfInBounds_toArray, List.set_cons_zero, List.set_cons_succ])
    (refine qv1 85 (v := ?_) (by rfl) (by rfl) (fun ev hc hf h0 W hW => ?_) ?_; rotate_left; (focus (obtain ⟨e2, e3⟩ := HS.out W hW; first | (go_simp; done) | (go_simp; with_reducible rfl))); rotate_left; simp only [Act.put, List.setIfInBounds_toArray, List.set_cons_zero, List.set_cons_succ])
    (refine qv1 86 (v := ?_) (by rfl) (by rfl) (fun ev hc hf h0 W hW => ?_) ?_; rotate_left; (focus (obtain ⟨e2, e3⟩ := HS.out W hW; first | (go_simp; done) | (go_simp; with_reducible rfl))); rotate_left; simp only [Act.put, List.setIfInBounds_toArray, List.set_cons_zero, List.set_cons_succ])
    (refine qv1 87 (v := ?_) (by rfl) (by rfl) (fun ev hc hf h0 W hW => ?_) ?_; rotate_left; (focus (obtain ⟨e2, e3⟩ := HS.out W hW; first | (go_simp; done) | (go_simp; with_reducible rfl))); rotate_left; simp only [Act.put, List.setIfInBounds_toArray, List.set_cons_zero, List.set_cons_succ])
    (refine qc2 84 88 _ _ _ (by rfl) (by rfl) (by rfl) (fun ev hc hf h0 h1 W hW => ?_) (fun W hW => q_calls hW (HQ.out W hW)) ?_; (focus (obtain ⟨e2, e3⟩ := HS.out W hW; go_simp; done)); simp only [Act.put, List.setIfInBounds_toArray, List.set_cons_zero, List.set_cons_succ])
    (refine qv1 89 (v := ?_) (by rfl) (by rfl) (fun ev hc hf h0 W hW => ?_) ?_; rotate_left; (focus (obtain ⟨e2, e3⟩ := HS.out W hW; first | (go_simp; done) | (go_simp; with_reducible rfl))); rotate_left; simp only [Act.put, List.setIfInBounds_toArray, List.set_cons_zero, List.set_cons_succ])
    (refine qv1 83 (v := ?_) (by rfl) (by rfl) (fun ev hc hf h0 W hW => ?_) ?_; rotate_left; (focus (obtain ⟨e2, e3⟩ := HS.out W hW; first | (go_simp; done) | (go_simp; with_reducible rfl))); rotate_left; simp only [Act.put, List.setIfInBounds_toArray, List.set_cons_zero, List.set_cons_succ])
    (refine qv1 83 (v := ?_) (by rfl) (by rfl) (fun ev hc hf h0 W hW => ?_) ?_; rotate_left; (focus (obtain ⟨e2, e3⟩ := HS.out W hW; first | (go_simp; done) | (go_simp; with_reducible rfl))); rotate_left; simp only [Act.put, List.setIfInBounds_toArray, List.set_cons_zero, List.set_cons_succ])
    (refine qv1 90 (v := ?_) (by rfl) (by rfl) (fun ev hc hf h0 W hW => ?_) ?_; rotate_left; (focus (obtain ⟨e2, e3⟩ := HS.out W hW; first | (go_simp; done) | (go_simp; with_reducible rfl))); rotate_left; simp only [Act.put, List.setIfInBounds_toArray, List.set_cons_zero, List.set_cons_succ])
    (refine qv1 91 (v := ?_) (by rfl) (by rfl) (fun ev hc hf h0 W hW => ?_) ?_; rotate_left; (focus (obtain ⟨e2, e3⟩ := HS.out W hW; first | (go_simp; done) | (go_simp; with_reducible rfl))); rotate_left; simp only [Act.put, List.setIfInBounds_toArray, List.set_cons_zero, List.set_cons_succ])
    refine qnil ?_
    intro w9 hW9
    have M19 := Lib.hid (M1.out.bel hW9)
    have MG9 := Lib.hid (MG.out.bel hW9)
    have hvo : votesOk (x :: xs.map (·.1)) L.n = true := by
      unfold votesOk
      rw [List.all_eq_true]
      intro z hz
      rcases List.mem_cons.1 hz with rfl | hz
      · simp; omega
      · obtain ⟨⟨z', u'⟩, hp, rfl⟩ := List.mem_map.1 hz
        have := X.out.keys z' _ ((hS.2 z' u').1 hp).1
        simp; omega
    have hqq := quo_good (xs := x :: xs.map (·.1)) (n := L.n) (by have := X.out.pos; omega) (by have := X.out.few; omega) hvo
    rw [hqq]
    obtain ⟨g0, g1, g2, g3, hz⟩ : w9.cell? ⟨g, 0, none⟩ = some (.int .i64 L.n) ∧ w9.cell? ⟨g, 1, none⟩ = some (.map (some mb)) ∧ w9.cell? ⟨g, 2, none⟩ = some (.bool false) ∧ w9.cell? ⟨g, 3, none⟩ = some (.string L.val) ∧ g < w9.heap.size := ⟨MG9.out.cell 0, MG9.out.cell 1, by rw [MG9.out.cell 2]; simp [hk1.out], MG9.out.cell 3, MG9.out.lt⟩
    have hqv := quoB_congr (xs := x :: xs.map (·.1)) (ys := voters (putF L.f x (r, n, v)) r n) (came_voters (x := x) (v := v) hS ⟨h0, by have := X.out.few; omega⟩ (fun y c hyc => by have := X.out.keys y c hyc; have := X.out.few; omega)) L.n
    rw [hqv]
    have hoth : ¬ otherB L.f r n v = true := by
      rw [otherB_iff]
      rintro ⟨y, u, _, hf, hu⟩
      exact hu (hall _ ((hS.2 y u).2 ⟨hf, rfl⟩))
    have AE := Lib.hid (show AccEnd W w9 g mb D ⟨L.n, putF L.f x (r, n, v), false, L.val, L.nn + 1⟩ (.bool false) (.int .i64 0) from
      ⟨KP.trans (Kept.of_below hW9), ⟨by have := MG9.out; rw [hk1.out] at this; exact this, hsd.kept (hW9.block _ hsd.lt), X.out.pos, X.out.few, fun y c hy => by
        have hy' : (if y = x then some (r, n, v) else L.f y) = some c := hy
        by_cases e : y = x
        · subst e; exact ⟨h0, h1⟩
        · rw [if_neg e] at hy'; exact X.out.keys y c hy'⟩, M2.out.bel hW9, M3.out.bel hW9, (hW9.block _ (Array.getElem?_eq_some_iff.1 hKm).1).trans hKm, by omega, gg, gb⟩)
    have t7 := M19.out.cell 0
    simp at t7
    obtain ⟨c3, c4, f3, f4⟩ : w9.cell? ⟨W.heap.size + 1 + 1, 0, none⟩ = some (.bool false) ∧ w9.cell? ⟨W.heap.size + 1 + 1 + 1, 0, none⟩ = some (.int .i64 0) ∧ w9.frozen? ⟨W.heap.size + 1 + 1, 0, none⟩ = false ∧ w9.frozen? ⟨W.heap.size + 1 + 1 + 1, 0, none⟩ = false := ⟨AE.out.b2.cell 0, AE.out.b3.cell 0, AE.out.b2.free 0, AE.out.b3.free 0⟩
    have f5 := MG9.out.free 2
    have f6 := MG9.out.free 3
    clear hqv hqq hvo HS HQ MI MB M1 M2 M3 MG hW9 KP hsd hKm hS hall hlen hrw' hv hBB AD LD A5 L5 BB hrow4 hbx4 hBl z4 kb2 A3 L3
    have HO := Lib.hid hoth
    clear hoth
    cases hb : quoB (voters (putF L.f x (r, n, v)) r n) L.n with
    | true =>
      go_upto_region 25 with fail
      go_region
      have AK := Lib.hid (AE.out.know v)
      have e1 : ¬ g = W.heap.size + 1 + 1 := by omega
      have e2 : ¬ g = W.heap.size + 1 + 1 + 1 := by omega
      have e3 : ¬ W.heap.size + 1 + 1 = g := by omega
      have e4 : ¬ W.heap.size + 1 + 1 + 1 = g := by omega
      go_wp2_with fail
      have AR := (AK.out.res (.bool true) (.int .i64 0)).drew
      have O := AR.out (.deferred none)
      refine ⟨by simp, .inl ⟨_, _, rfl, run_takeDeferred AR.d, ?_⟩⟩
      rw [lNew_eq HO.out hb]
      refine ⟨.tuple #[.bool true, .int .i64 0], ?_, rfl, O.2.2.1, O.2.2.2⟩
      simp [results, Try.f45, go_sem, O.1, O.2.1]
    | false =>
      go_wp2_with fail
      have AK := AE
      have AR := AK.out.res (.bool false) (.int .i64 0)
      have O := AR.out (.deferred none)
      refine ⟨by simp, .inl ⟨_, _, rfl, run_takeDeferred AR.d, ?_⟩⟩
      rw [lNew_eq HO.out hb]
      refine ⟨.tuple #[.bool false, .int .i64 0], ?_, rfl, O.2.2.1, O.2.2.2⟩
      simp [results, Try.f45, go_sem, O.1, O.2.1]
end

end Go.Proofs.Ytlgljcfkoakogaa
