import Derived.Test.YtbobbekbliichaaE1
import Derived.Lib.UnsafeStr
import Derived.Laws.AppendOwn
namespace Go.Proofs.Ytbobbekbliichaa
open Go.RowKit
set_option linter.unusedSimpArgs false
set_option linter.unusedVariables false


open Go.Lib (byteCells)
/-- A disk: what is sure, what is loose, the fuse. -/
structure Dsk where
  S : List (List UInt8)
  L : List (Int × List UInt8)
  fused : Bool
  left : Int
def flatS (S : List (List UInt8)) : List Value := (S.map byteCells).flatten
def wcells (x : Int × List UInt8) : List Value := .int .i64 x.1 :: byteCells x.2
def flatL (L : List (Int × List UInt8)) : List Value := (L.map wcells).flatten
/-- The shape of a disk. -/
structure Dsk.ok (d : Dsk) : Prop where
  pos : 0 < d.S.length
  few : d.S.length ≤ 4096
  all : ∀ x ∈ d.S, x.length = 256
  loose : ∀ x ∈ d.L, x.2.length = 256 ∧ 0 ≤ x.1 ∧ x.1 < d.S.length
  fuse : d.fused = true → 0 ≤ d.left
  big : d.left ≤ 9223372036854775807
/-- The disk lies in block g; all its blocks are those of F. -/
structure DiskIn (B : Nat) (F : Nat → Prop) (W : World) (g s : Nat) (lv : Value) (d : Dsk) : Prop where
  ok : d.ok
  hg : F g
  hs : F s
  hl : ∀ k, lv.ownBlock = some k → F k
  sg : s ≠ g
  lg : lv.ownBlock ≠ some g
  ls : lv.ownBlock ≠ some s
  low : ∀ k, F k → B ≤ k ∧ k < W.heap.size
  at_g : Bk W g #[.slice (some ⟨s, 0, none⟩) d.S.length d.S.length, lv, .bool d.fused, .int .i64 d.left] 60
  at_s : Bk W s (flatS d.S).toArray 69
  at_l : W.ownsRow B 71 257 lv d.L.length (flatL d.L)
/-- What is not of F is as it was. -/
structure Kept (F : Nat → Prop) (W W' : World) : Prop where
  os : W'.os = W.os
  tape : W'.tape = W.tape
  output : W'.output = W.output
  size : W.heap.size ≤ W'.heap.size
  block : ∀ k, k < W.heap.size → ¬ F k → W'.heap[k]? = W.heap[k]?
theorem Kept.refl (F : Nat → Prop) (W : World) : Kept F W W := ⟨rfl, rfl, rfl, Nat.le_refl _, fun _ _ _ => rfl⟩
theorem Kept.trans {F : Nat → Prop} {a b c : World} (h : Kept F a b) (k : Kept F b c) : Kept F a c :=
  ⟨k.os.trans h.os, k.tape.trans h.tape, k.output.trans h.output, Nat.le_trans h.size k.size, fun i hi hF => (k.block i (Nat.lt_of_lt_of_le hi h.size) hF).trans (h.block i hi hF)⟩
theorem Kept.mono {F F' : Nat → Prop} {a b : World} (h : Kept F a b) (hF : ∀ k, k < a.heap.size → F k → F' k) : Kept F' a b :=
  ⟨h.os, h.tape, h.output, h.size, fun k hk hn => h.block k hk fun hf => hn (hF k hk hf)⟩
theorem Kept.of_below {F : Nat → Prop} {a b : World} (h : Below a.heap.size a b) : Kept F a b := ⟨h.os, h.tape, h.output, h.size, fun k hk _ => h.block k hk⟩
theorem Kept.below {F : Nat → Prop} {B : Nat} {w a b : World} (h : Kept F a b) (hb : Below B w a) (hF : ∀ k, F k → B ≤ k) (hB : B ≤ a.heap.size) : Below B w b :=
  ⟨h.os.trans hb.os, h.tape.trans hb.tape, h.output.trans hb.output, Nat.le_trans hb.size h.size, fun k hk => (h.block k (by omega) (fun hf => by have := hF k hf; omega)).trans (hb.block k hk)⟩
theorem Kept.set {F : Nat → Prop} {a b : World} (h : Kept F a b) {g i : Nat} (hF : F g) (v : Value) : Kept F a (b.setCell ⟨g, i, none⟩ v) :=
  ⟨h.os, h.tape, h.output, by simpa [World.setCell] using h.size, fun k hk hn => (Below.heap_setCell b _ v k (fun e => hn (by rw [e]; exact hF))).trans (h.block k hk hn)⟩
section
variable {B : Nat} {F : Nat → Prop} {W W' : World} {g s : Nat} {lv : Value} {d : Dsk}
theorem ownsRow_bel {B : Nat} {e : TypeId} {size : Nat} {v : Value} {n : Nat} {xs : List Value} (h : W.ownsRow B e size v n xs) (hb : Below W.heap.size W W') : W'.ownsRow B e size v n xs := by
  obtain ⟨h1, h2 | ⟨g, cap, cur, h2, h3, h4, h5⟩⟩ := h
  · exact ⟨h1, .inl h2⟩
  · exact ⟨h1, .inr ⟨g, cap, cur, h2, h3, (hb.block g (Array.getElem?_eq_some_iff.1 h4).1).trans h4, h5⟩⟩
theorem ownsRow_kept {B : Nat} {e : TypeId} {size : Nat} {v : Value} {n : Nat} {xs : List Value} (h : W.ownsRow B e size v n xs) (hb : ∀ k, v.ownBlock = some k → k < W.heap.size → W'.heap[k]? = W.heap[k]?) : W'.ownsRow B e size v n xs := by
  obtain ⟨h1, h2 | ⟨g, cap, cur, h2, h3, h4, h5⟩⟩ := h
  · exact ⟨h1, .inl h2⟩
  · exact ⟨h1, .inr ⟨g, cap, cur, h2, h3, (hb g (by rw [h2]; rfl) (Array.getElem?_eq_some_iff.1 h4).1).trans h4, h5⟩⟩
theorem DiskIn.bel (h : DiskIn B F W g s lv d) (hb : Below W.heap.size W W') : DiskIn B F W' g s lv d :=
  ⟨h.ok, h.hg, h.hs, h.hl, h.sg, h.lg, h.ls, fun k hk => ⟨(h.low k hk).1, Nat.lt_of_lt_of_le (h.low k hk).2 hb.size⟩, h.at_g.bel hb, h.at_s.bel hb, ownsRow_bel h.at_l hb⟩
theorem DiskIn.drew (h : DiskIn B F W g s lv d) : DiskIn B F W.drew g s lv d := h.bel ((Below.refl _ _).drew)
theorem DiskIn.mono {F' : Nat → Prop} (h : DiskIn B F W g s lv d) (hF : ∀ k, F k → F' k) (hlow : ∀ k, F' k → B ≤ k ∧ k < W.heap.size) : DiskIn B F' W g s lv d :=
  ⟨h.ok, hF _ h.hg, hF _ h.hs, fun k hk => hF _ (h.hl k hk), h.sg, h.lg, h.ls, hlow, h.at_g, h.at_s, h.at_l⟩
/-- Another one's doing leaves this disk. -/
theorem DiskIn.kept {F' : Nat → Prop} (h : DiskIn B F W g s lv d) (hk : Kept F' W W') (hd : ∀ k, F k → ¬ F' k) : DiskIn B F W' g s lv d :=
  ⟨h.ok, h.hg, h.hs, h.hl, h.sg, h.lg, h.ls, fun k hf => ⟨(h.low k hf).1, Nat.lt_of_lt_of_le (h.low k hf).2 hk.size⟩,
   (hk.block g (h.low g h.hg).2 (hd g h.hg)).trans h.at_g, (hk.block s (h.low s h.hs).2 (hd s h.hs)).trans h.at_s, ownsRow_kept h.at_l fun k hb hlt => hk.block k hlt (hd k (h.hl k hb))⟩
theorem DiskIn.cells (h : DiskIn B F W g s lv d) : W.cell? ⟨g, 0, none⟩ = some (.slice (some ⟨s, 0, none⟩) d.S.length d.S.length) ∧ W.cell? ⟨g, 1, none⟩ = some lv ∧ W.cell? ⟨g, 2, none⟩ = some (.bool d.fused) ∧ W.cell? ⟨g, 3, none⟩ = some (.int .i64 d.left) :=
  ⟨h.at_g.cell 0, h.at_g.cell 1, h.at_g.cell 2, h.at_g.cell 3⟩
/-- A new fuse. -/
theorem DiskIn.setFuse (h : DiskIn B F W g s lv d) (f : Bool) (n : Int) (hf : f = true → 0 ≤ n) (hn : n ≤ 9223372036854775807) : DiskIn B F ((W.setCell ⟨g, 2, none⟩ (.bool f)).setCell ⟨g, 3, none⟩ (.int .i64 n)) g s lv { d with fused := f, left := n } := by
  have hk : Kept (fun k => k = g) W ((W.setCell ⟨g, 2, none⟩ (.bool f)).setCell ⟨g, 3, none⟩ (.int .i64 n)) := ((Kept.refl (fun k => k = g) W).set (F := fun k => k = g) (g := g) rfl _).set (F := fun k => k = g) (g := g) rfl _
  refine ⟨⟨h.ok.pos, h.ok.few, h.ok.all, h.ok.loose, hf, hn⟩, h.hg, h.hs, h.hl, h.sg, h.lg, h.ls, fun k hf => ⟨(h.low k hf).1, Nat.lt_of_lt_of_le (h.low k hf).2 hk.size⟩, ?_, (hk.block s (h.low s h.hs).2 h.sg).trans h.at_s,
    ownsRow_kept h.at_l fun k hb hlt => hk.block k hlt (fun e => h.lg (by rw [hb, e]))⟩
  have := (h.at_g.set 2 (.bool f)).set 3 (.int .i64 n)
  simpa using this
theorem DiskIn.setLeft (h : DiskIn B F W g s lv d) (n : Int) (hf : d.fused = true → 0 ≤ n) (hn : n ≤ 9223372036854775807) : DiskIn B F (W.setCell ⟨g, 3, none⟩ (.int .i64 n)) g s lv { d with left := n } := by
  have hk : Kept (fun k => k = g) W (W.setCell ⟨g, 3, none⟩ (.int .i64 n)) := (Kept.refl (fun k => k = g) W).set (F := fun k => k = g) (g := g) rfl _
  refine ⟨⟨h.ok.pos, h.ok.few, h.ok.all, h.ok.loose, hf, hn⟩, h.hg, h.hs, h.hl, h.sg, h.lg, h.ls, fun k hf => ⟨(h.low k hf).1, Nat.lt_of_lt_of_le (h.low k hf).2 hk.size⟩, ?_, (hk.block s (h.low s h.hs).2 h.sg).trans h.at_s,
    ownsRow_kept h.at_l fun k hb hlt => hk.block k hlt (fun e => h.lg (by rw [hb, e]))⟩
  have := h.at_g.set 3 (.int .i64 n)
  simpa using this
end
/-- The error of a call. -/
def Dsk.may (d : Dsk) : Int := if d.fused = true ∧ d.left = 0 then 50 else 0
def Dsk.there (d : Dsk) (b : Int) : Int := if d.may = 0 then (if b < 0 ∨ (d.S.length : Int) ≤ b then 5 else 0) else d.may
def Dsk.done (d : Dsk) : Dsk := { d with left := if d.fused = true then d.left - 1 else d.left }

theorem none_nil (W : World) : Calls Try.prog 28 #[.pointer none] W fun e W' => e = .returned (.bool true) ∧ W = W' := by
  go_enter Try.func28, Try.ntmps28
  go_wp2_with fail
  go_ret
  exact ⟨rfl, rfl⟩
theorem none_any {B : Nat} {F : Nat → Prop} {W : World} {g s : Nat} {lv : Value} {d : Dsk} (h : DiskIn B F W g s lv d) : Calls Try.prog 28 #[.pointer (some ⟨g, 0, none⟩)] W fun e W' => e = .returned (.bool false) ∧ W = W' := by
  obtain ⟨c0, c1, c2, c3⟩ := h.cells
  have hn : ((d.S.length : Int) == 0) = false := by have := h.ok.pos; simp; intro e; rw [e] at this; simp at this
  have H := Lib.hid h
  clear h c1 c2 c3
  go_enter Try.func28, Try.ntmps28
  go_wp2_with fail
  go_ret
  exact ⟨rfl, rfl⟩
theorem may_nil (W : World) : Calls Try.prog 31 #[.pointer none] W fun e W' => e = .returned (.int .i64 1) ∧ W = W' := by
  go_enter Try.func31, Try.ntmps31
  go_wp2_with (go_at_call 28; refine (none_nil _).mono ?_; rintro e w' ⟨rfl, rfl⟩)
  go_ret
  exact ⟨rfl, rfl⟩
theorem may_disk {B : Nat} {F : Nat → Prop} {W : World} {g s : Nat} {lv : Value} {d : Dsk} (h : DiskIn B F W g s lv d) : Calls Try.prog 31 #[.pointer (some ⟨g, 0, none⟩)] W fun e W' => e = .returned (.int .i64 d.may) ∧ W = W' := by
  obtain ⟨c0, c1, c2, c3⟩ := h.cells
  have H := Lib.hid h
  clear h c0 c1
  by_cases hf : d.fused = true
  · rw [hf] at c2
    by_cases hl : d.left = 0
    · rw [hl] at c3
      rw [show d.may = 50 by unfold Dsk.may; simp [hf, hl]]
      clear hf hl
      go_enter Try.func31, Try.ntmps31
      go_wp2_with (go_at_call 28; refine (none_any H.out).mono ?_; rintro e w' ⟨rfl, rfl⟩)
      go_ret
      exact ⟨rfl, rfl⟩
    · rw [show d.may = 0 by unfold Dsk.may; simp [hl]]
      have hl' : (d.left == 0) = false := by simpa using hl
      clear hf hl
      go_enter Try.func31, Try.ntmps31
      go_wp2_with (go_at_call 28; refine (none_any H.out).mono ?_; rintro e w' ⟨rfl, rfl⟩)
      go_ret
      exact ⟨rfl, rfl⟩
  · have hf' : d.fused = false := by simpa using hf
    rw [hf'] at c2
    rw [show d.may = 0 by unfold Dsk.may; simp [hf']]
    clear hf hf' c3
    go_enter Try.func31, Try.ntmps31
    go_wp2_with (go_at_call 28; refine (none_any H.out).mono ?_; rintro e w' ⟨rfl, rfl⟩)
    go_ret
    exact ⟨rfl, rfl⟩
theorem there_nil (b : Int) (W : World) : Calls Try.prog 29 #[.pointer none, .int .i64 b] W fun e W' => e = .returned (.int .i64 1) ∧ W = W' := by
  go_enter Try.func29, Try.ntmps29
  go_wp2_with (go_at_call 31; refine (may_nil _).mono ?_; rintro e w' ⟨rfl, rfl⟩)
  go_ret
  exact ⟨rfl, rfl⟩
theorem there_disk {B : Nat} {F : Nat → Prop} {W : World} {g s : Nat} {lv : Value} {d : Dsk} (b : Int) (h : DiskIn B F W g s lv d) : Calls Try.prog 29 #[.pointer (some ⟨g, 0, none⟩), .int .i64 b] W fun e W' => e = .returned (.int .i64 (d.there b)) ∧ W = W' := by
  obtain ⟨c0, c1, c2, c3⟩ := h.cells
  have H := Lib.hid h
  clear h c1 c2 c3
  obtain ⟨m, hm⟩ : ∃ m, d.may = m := ⟨_, rfl⟩
  have hthere : d.there b = if m = 0 then (if b < 0 ∨ (d.S.length : Int) ≤ b then 5 else 0) else m := by unfold Dsk.there; rw [hm]
  rw [hthere]
  have HM : ∀ W' , W = W' → Calls Try.prog 31 #[.pointer (some ⟨g, 0, none⟩)] W' fun e W'' => e = .returned (.int .i64 m) ∧ W' = W'' := fun W' e => e ▸ hm ▸ may_disk H.out
  have HMM := Lib.hid HM
  clear hthere hm HM
  by_cases h0 : m = 0
  · subst h0
    by_cases hb : b < 0
    · go_enter Try.func29, Try.ntmps29
      go_wp2_with (go_at_call 31; refine (HMM.out _ rfl).mono ?_; rintro e w' ⟨rfl, rfl⟩)
      go_ret
      exact ⟨by simp [hb], rfl⟩
    · by_cases hb2 : (d.S.length : Int) ≤ b
      · go_enter Try.func29, Try.ntmps29
        go_wp2_with (go_at_call 31; refine (HMM.out _ rfl).mono ?_; rintro e w' ⟨rfl, rfl⟩)
        go_ret
        exact ⟨by simp [hb, hb2], rfl⟩
      · go_enter Try.func29, Try.ntmps29
        go_wp2_with (go_at_call 31; refine (HMM.out _ rfl).mono ?_; rintro e w' ⟨rfl, rfl⟩)
        go_ret
        exact ⟨by simp [hb, hb2], rfl⟩
  · go_enter Try.func29, Try.ntmps29
    go_wp2_with (go_at_call 31; refine (HMM.out _ rfl).mono ?_; rintro e w' ⟨rfl, rfl⟩)
    go_ret
    exact ⟨by simp [h0], rfl⟩
theorem size_nil (W : World) : Calls Try.prog 15 #[.pointer none] W fun e W' => e = .returned (.int .i64 0) ∧ W = W' := by
  go_enter Try.func15, Try.ntmps15
  go_wp2_with (go_at_call 28; refine (none_nil _).mono ?_; rintro e w' ⟨rfl, rfl⟩)
  go_ret
  exact ⟨rfl, rfl⟩
theorem size_disk {B : Nat} {F : Nat → Prop} {W : World} {g s : Nat} {lv : Value} {d : Dsk} (h : DiskIn B F W g s lv d) : Calls Try.prog 15 #[.pointer (some ⟨g, 0, none⟩)] W fun e W' => e = .returned (.int .i64 d.S.length) ∧ W = W' := by
  obtain ⟨c0, c1, c2, c3⟩ := h.cells
  have H := Lib.hid h
  clear h c1 c2 c3
  go_enter Try.func15, Try.ntmps15
  go_wp2_with (go_at_call 28; refine (none_any H.out).mono ?_; rintro e w' ⟨rfl, rfl⟩)
  go_ret
  exact ⟨rfl, rfl⟩
theorem fuse_nil (n : Int) (W : World) : Calls Try.prog 21 #[.pointer none, .int .i64 n] W fun e W' => e = .returned (.int .i64 1) ∧ W = W' := by
  go_enter Try.func21, Try.ntmps21
  go_wp2_with (go_at_call 28; refine (none_nil _).mono ?_; rintro e w' ⟨rfl, rfl⟩)
  go_ret
  exact ⟨rfl, rfl⟩
theorem fuse_disk {B : Nat} {F : Nat → Prop} {W : World} {g s : Nat} {lv : Value} {d : Dsk} (n : Int) (hn : n ≤ 9223372036854775807) (h : DiskIn B F W g s lv d) : Calls Try.prog 21 #[.pointer (some ⟨g, 0, none⟩), .int .i64 n] W fun e W' =>
    e = .returned (.int .i64 0) ∧ DiskIn B F W' g s lv { d with fused := decide (0 ≤ n), left := n } ∧ Kept F W W' ∧ W'.heap.size = W.heap.size := by
  obtain ⟨c0, c1, c2, c3⟩ := h.cells
  have f2 := h.at_g.free 2
  have f3 := h.at_g.free 3
  have H := Lib.hid h
  have HN := Lib.hid hn
  clear h hn c0 c1
  go_enter Try.func21, Try.ntmps21
  go_wp2_with (go_at_call 28; refine (none_any H.out).mono ?_; rintro e w' ⟨rfl, rfl⟩)
  go_ret
  refine ⟨rfl, H.out.setFuse _ _ (by simp) HN.out, ((Kept.refl F W).set H.out.hg _).set H.out.hg _, by simp [World.setCell]⟩
theorem done_disk {B : Nat} {F : Nat → Prop} {W : World} {g s : Nat} {lv : Value} {d : Dsk} (hm : d.may = 0) (h : DiskIn B F W g s lv d) : Calls Try.prog 30 #[.pointer (some ⟨g, 0, none⟩)] W fun e W' =>
    (∃ v, e = .returned v) ∧ DiskIn B F W' g s lv d.done ∧ Kept F W W' ∧ W'.heap.size = W.heap.size := by
  obtain ⟨c0, c1, c2, c3⟩ := h.cells
  have f3 := h.at_g.free 3
  by_cases hf : d.fused = true
  · have h0 : 0 ≤ d.left := h.ok.fuse hf
    have h1 : d.left ≠ 0 := fun e => by unfold Dsk.may at hm; simp [hf, e] at hm
    have h2 := h.ok.big
    have hw : IntKind.i64.wrap (d.left - 1) = d.left - 1 := by
      simp [IntKind.wrap, IntKind.bits, IntKind.signed]
      omega
    have hd : d.done = { d with left := d.left - 1 } := by unfold Dsk.done; simp [hf]
    rw [hd]
    rw [hf] at c2
    have H := Lib.hid h
    have HS := Lib.hid (h.setLeft (d.left - 1) (fun _ => by omega) (by omega))
    clear h h0 h1 h2 hm hd c0 c1
    go_enter Try.func30, Try.ntmps30
    go_wp2_with fail
    go_end0
    exact ⟨⟨_, rfl⟩, HS.out, (Kept.refl F W).set H.out.hg _, by simp [World.setCell]⟩
  · have hf' : d.fused = false := by simpa using hf
    have hd : d.done = d := by unfold Dsk.done; cases d; simp at hf'; simp [hf']
    rw [hd]
    rw [hf'] at c2
    have H := Lib.hid h
    clear h hm hd c0 c1 c3 f3
    go_enter Try.func30, Try.ntmps30
    go_wp2_with fail
    go_end0
    exact ⟨⟨_, rfl⟩, H.out, Kept.refl F W, rfl⟩

end Go.Proofs.Ytbobbekbliichaa
