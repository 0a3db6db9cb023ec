import Derived.Test.YtbobbekbliichaaE26
namespace Go.Proofs.Ytbobbekbliichaa
open Go.RowKit
set_option linter.unusedSimpArgs false
set_option linter.unusedVariables false


open Go.Lib (byteCells byteCells_length byteCells_one)
/-- Both disks, the given one and the document's, apart from each other. -/
def Two (Z : List (Nat × Obj)) (W Wi : World) (g r : Nat) (d1 d2 : Dsk) : Prop := Below W.heap.size W Wi ∧ ∃ F1 F2, DiskHas W.heap.size F1 Wi g d1 ∧ RefHas W.heap.size F2 Wi r d2 ∧ (∀ k, F1 k → ¬ F2 k) ∧ ∀ z ∈ Z, Wi.heap[z.1]? = some z.2 ∧ ¬ F1 z.1 ∧ ¬ F2 z.1
section
variable {B : Nat} {F F' : Nat → Prop} {Z : List (Nat × Obj)} {W Wi W' : World} {g r : Nat} {d d1 d2 : Dsk} {Z : List (Nat × Obj)}
theorem RefHas.low (h : RefHas B F W r d) : ∀ k, F k → B ≤ k ∧ k < W.heap.size := by
  obtain ⟨s, lv, h⟩ := h
  exact h.low
theorem RefHas.kept (h : RefHas B F W r d) (hk : Kept F' W W') (hd : ∀ k, F k → ¬ F' k) : RefHas B F W' r d := by
  obtain ⟨s, lv, h⟩ := h
  exact ⟨s, lv, h.kept hk hd⟩
theorem RefHas.bel (h : RefHas B F W r d) (hb : Below W.heap.size W W') : RefHas B F W' r d := by
  obtain ⟨s, lv, h⟩ := h
  exact ⟨s, lv, h.bel hb⟩
theorem DiskHas.ok (h : DiskHas B F W g d) : d.ok := by
  obtain ⟨s, lv, h⟩ := h
  exact h.ok
theorem RefHas.ok (h : RefHas B F W r d) : d.ok := by
  obtain ⟨s, lv, h⟩ := h
  exact h.ok
theorem DiskHas.grow (h : DiskHas B F W' g d) (hB : B ≤ Wi.heap.size) (hs : Wi.heap.size ≤ W'.heap.size) : DiskHas B (Grow F Wi W') W' g d := by
  obtain ⟨s, lv, h⟩ := h
  refine ⟨s, lv, h.mono (fun k hk => .inl hk) (fun k hk => ?_)⟩
  rcases hk with hk | hk
  · exact h.low k hk
  · exact ⟨Nat.le_trans hB hk.1, hk.2⟩
theorem RefHas.grow (h : RefHas B F W' r d) (hB : B ≤ Wi.heap.size) (hs : Wi.heap.size ≤ W'.heap.size) : RefHas B (Grow F Wi W') W' r d := by
  obtain ⟨s, lv, h⟩ := h
  refine ⟨s, lv, h.mono (fun k hk => .inl hk) (fun k hk => ?_)⟩
  rcases hk with hk | hk
  · exact h.low k hk
  · exact ⟨Nat.le_trans hB hk.1, hk.2⟩
theorem Two.keep (h : Two Z W Wi g r d1 d2) (hb : Below Wi.heap.size Wi W') : Two Z W W' g r d1 d2 := by
  obtain ⟨hB, F1, F2, h1, h2, h3, hz⟩ := h
  exact ⟨hB.trans (hb.mono hB.size), F1, F2, h1.bel hb, h2.bel hb, h3, fun z hm => ⟨(hb.block _ (Array.getElem?_eq_some_iff.1 (hz z hm).1).1).trans (hz z hm).1, (hz z hm).2⟩⟩
theorem Two.ok (h : Two Z W Wi g r d1 d2) : d1.ok := by
  obtain ⟨hB, F1, F2, h1, h2, h3, hz⟩ := h
  exact h1.ok
theorem Two.ok2 (h : Two Z W Wi g r d1 d2) : d2.ok := by
  obtain ⟨hB, F1, F2, h1, h2, h3, hz⟩ := h
  exact h2.ok
theorem Bk.newO (w : World) (o : Obj) : (w.alloc o).heap[w.heap.size]? = some o := by
  show (w.heap.push _)[w.heap.size]? = _
  simp
theorem Two.alloc (h : Two Z W Wi g r d1 d2) (o : Obj) : Two ((Wi.heap.size, o) :: Z) W (Wi.alloc o) g r d1 d2 := by
  have hb : Below Wi.heap.size Wi (Wi.alloc o) := (Below.refl _ _).alloc (Nat.le_refl _) o
  obtain ⟨hB, F1, F2, h1, h2, h3, hz⟩ := h
  refine ⟨hB.trans (hb.mono hB.size), F1, F2, h1.bel hb, h2.bel hb, h3, fun z hm => ?_⟩
  rcases List.mem_cons.1 hm with rfl | hm
  · exact ⟨Bk.newO Wi o, fun hf => absurd (h1.low _ hf).2 (Nat.lt_irrefl _), fun hf => absurd (h2.low _ hf).2 (Nat.lt_irrefl _)⟩
  · exact ⟨(hb.block _ (Array.getElem?_eq_some_iff.1 (hz z hm).1).1).trans (hz z hm).1, (hz z hm).2⟩
theorem Two.less {Z' : List (Nat × Obj)} (h : Two Z W Wi g r d1 d2) (hs : ∀ z ∈ Z', z ∈ Z) : Two Z' W Wi g r d1 d2 := by
  obtain ⟨hB, F1, F2, h1, h2, h3, hz⟩ := h
  exact ⟨hB, F1, F2, h1, h2, h3, fun z hm => hz z (hs z hm)⟩
theorem Two.base {z : Nat × Obj} (h : Two (z :: Z) W Wi g r d1 d2) : Wi.heap[z.1]? = some z.2 := by
  obtain ⟨hB, F1, F2, h1, h2, h3, hz⟩ := h
  exact (hz z (List.mem_cons_self)).1
/-- What one does leaves the other. -/
theorem two1 {f : FuncId} {args : Array Value} {R : Ending → Prop} {d1' : Dsk} (h : Two Z W Wi g r d1 d2)
    (op : ∀ F, (∀ k, F k → k < Wi.heap.size) → DiskHas W.heap.size F Wi g d1 → Calls Try.prog f args Wi fun e W' => R e ∧ DiskHas W.heap.size (Grow F Wi W') W' g d1' ∧ Kept F Wi W') :
    Calls Try.prog f args Wi fun e W' => R e ∧ Two Z W W' g r d1' d2 := by
  obtain ⟨hB, F1, F2, h1, h2, h3, hz⟩ := h
  refine (op F1 (fun k hk => (h1.low k hk).2) h1).mono ?_
  rintro e W' ⟨hR, h1', hk⟩
  refine ⟨hR, hk.below hB (fun k hk => (h1.low k hk).1) hB.size, _, F2, h1', h2.kept hk (fun k a b => h3 k b a), fun k hg hf => ?_, fun z hm => ?_⟩
  · rcases hg with hg | hg
    · exact h3 k hg hf
    · have := (h2.low k hf).2; have := hg.1; omega
  · obtain ⟨z1, z2, z3⟩ := hz z hm
    have hlt := (Array.getElem?_eq_some_iff.1 z1).1
    exact ⟨(hk.block _ hlt z2).trans z1, fun hg => hg.elim z2 (fun hg => absurd hg.1 (by omega)), z3⟩
theorem two2 {f : FuncId} {args : Array Value} {R : Ending → Prop} {d2' : Dsk} (h : Two Z W Wi g r d1 d2)
    (op : ∀ F, (∀ k, F k → W.heap.size ≤ k ∧ k < Wi.heap.size) → RefHas W.heap.size F Wi r d2 → Calls Try.prog f args Wi fun e W' => R e ∧ RefHas W.heap.size (Grow F Wi W') W' r d2' ∧ Kept F Wi W') :
    Calls Try.prog f args Wi fun e W' => R e ∧ Two Z W W' g r d1 d2' := by
  obtain ⟨hB, F1, F2, h1, h2, h3, hz⟩ := h
  refine (op F2 h2.low h2).mono ?_
  rintro e W' ⟨hR, h2', hk⟩
  refine ⟨hR, hk.below hB (fun k hk => (h2.low k hk).1) hB.size, F1, _, h1.kept hk h3, h2', fun k hf hg => ?_, fun z hm => ?_⟩
  · rcases hg with hg | hg
    · exact h3 k hf hg
    · have := (h1.low k hf).2; have := hg.1; omega
  · obtain ⟨z1, z2, z3⟩ := hz z hm
    have hlt := (Array.getElem?_eq_some_iff.1 z1).1
    exact ⟨(hk.block _ hlt z3).trans z1, z2, fun hg => hg.elim z3 (fun hg => absurd hg.1 (by omega))⟩
end
/-- What a step does. -/
def wErr (d : Dsk) (s : Stp) : Int := if d.there s.b ≠ 0 then d.there s.b else if s.odd % 3 ≠ 0 then 2 else 0
def wStep (d : Dsk) (s : Stp) : Dsk := if d.there s.b ≠ 0 then d else if s.odd % 3 ≠ 0 then d else d.done.add s.b (oneByte s.c)
def yStep (d : Dsk) : Dsk := if d.may ≠ 0 then d else d.sync
def fStep (d : Dsk) (n : Int) : Dsk := { d with fused := decide (0 ≤ n), left := n }
def rText (d : Dsk) (b : Int) : List UInt8 := if d.there b ≠ 0 then [] else d.get b
def stepD (d : Dsk) (s : Stp) : Dsk :=
  if s.act.tmod 5 = 0 then wStep d s else if s.act.tmod 5 = 1 then yStep d else if s.act.tmod 5 = 2 then d.crash s.ps else if s.act.tmod 5 = 3 then d else fStep d s.b
theorem may_cases (d : Dsk) : d.may = 0 ∨ d.may = 50 := by
  unfold Dsk.may
  split <;> simp
theorem there_cases (d : Dsk) (b : Int) : (d.there b = 0 ∧ d.may = 0 ∧ 0 ≤ b ∧ b < d.S.length) ∨ (d.there b = 5 ∧ d.may = 0 ∧ ¬ (0 ≤ b ∧ b < d.S.length)) ∨ (d.there b = 50 ∧ d.may ≠ 0) := by
  unfold Dsk.there
  rcases may_cases d with h | h
  · rw [if_pos h]
    by_cases hb : b < 0 ∨ (d.S.length : Int) ≤ b
    · rw [if_pos hb]; exact .inr (.inl ⟨rfl, h, by omega⟩)
    · rw [if_neg hb]; exact .inl ⟨rfl, h, by omega⟩
  · rw [if_neg (by omega), h]; exact .inr (.inr ⟨rfl, by omega⟩)
theorem dataB_len (s : Stp) (h : s.ok) : (dataB s).length = 256 + (s.odd % 3).toNat := by
  unfold dataB
  rw [List.length_append, oneByte_len, List.length_replicate]
section
variable {Z : List (Nat × Obj)} {W Wi W' : World} {g r : Nat} {d d1 d2 : Dsk}
theorem two_write (s : Stp) (hok : s.ok) (str : ByteArray) (hstr : (⟨(dataB s).toArray⟩ : ByteArray) = str) (hL : d1.L.length ≤ 1000000) (h : Two Z W Wi g r d1 d2) :
    Calls Try.prog 16 #[.pointer (some ⟨g, 0, none⟩), .int .i64 s.b, .string str] Wi fun e W' => e = .returned (.int .i64 (wErr d1 s)) ∧ Two Z W W' g r (wStep d1 s) d2 := by
  have hB := h.1.size
  have hsz : str.size = 256 + (s.odd % 3).toNat := by rw [← hstr]; show (dataB s).toArray.size = _; rw [List.size_toArray, dataB_len s hok]
  have hodd := hok.2.2.2.2.2.2.1
  refine two1 (R := fun e => e = .returned (.int .i64 (wErr d1 s))) h fun F _ ⟨sn, lv, hd⟩ => ?_
  by_cases ht : d1.there s.b = 0
  · by_cases h3 : s.odd % 3 = 0
    · rw [show wErr d1 s = 0 by simp [wErr, ht, h3], show wStep d1 s = d1.done.add s.b (oneByte s.c) by simp [wStep, ht, h3]]
      have hbs : str.data.toList = oneByte s.c := by
        rw [← hstr]
        show (dataB s).toArray.toList = _
        unfold dataB
        rw [h3]
        simp
      exact write_good s.b str (oneByte s.c) hd ht (by rw [hsz, h3]; rfl) hbs hL
    · rw [show wErr d1 s = 2 by simp [wErr, ht, h3], show wStep d1 s = d1 by simp [wStep, ht, h3]]
      exact (write_long s.b str hd ht (by omega)).mono fun e W' ⟨h1, h2⟩ => ⟨h1, h2 ▸ DiskHas.grow ⟨sn, lv, hd⟩ hB (Nat.le_refl _), h2 ▸ Kept.refl F Wi⟩
  · rw [show wErr d1 s = d1.there s.b by simp [wErr, ht], show wStep d1 s = d1 by simp [wStep, ht]]
    exact (write_bad s.b str hd ht).mono fun e W' ⟨h1, h2⟩ => ⟨h1, h2 ▸ DiskHas.grow ⟨sn, lv, hd⟩ hB (Nat.le_refl _), h2 ▸ Kept.refl F Wi⟩
theorem two_rwrite (s : Stp) (hok : s.ok) (str : ByteArray) (hstr : (⟨(dataB s).toArray⟩ : ByteArray) = str) (hL : d2.L.length ≤ 1000000) (h : Two Z W Wi g r d1 d2) :
    Calls Try.prog 23 #[.pointer (some ⟨r, 0, none⟩), .int .i64 s.b, .string str] Wi fun e W' => e = .returned (.int .i64 (wErr d2 s)) ∧ Two Z W W' g r d1 (wStep d2 s) := by
  have hB := h.1.size
  have hsz : str.size = 256 + (s.odd % 3).toNat := by rw [← hstr]; show (dataB s).toArray.size = _; rw [List.size_toArray, dataB_len s hok]
  have hodd := hok.2.2.2.2.2.2.1
  refine two2 (R := fun e => e = .returned (.int .i64 (wErr d2 s))) h fun F _ ⟨sv, lv, hd⟩ => ?_
  rcases there_cases d2 s.b with ⟨ht, hm, hb⟩ | ⟨ht, hm, hb⟩ | ⟨ht, hm⟩
  · by_cases h3 : s.odd % 3 = 0
    · rw [show wErr d2 s = 0 by simp [wErr, ht, h3], show wStep d2 s = d2.done.add s.b (oneByte s.c) by simp [wStep, ht, h3]]
      refine rwrite_good s.b str (oneByte s.c) hd hm hb (oneByte_len _) ?_ hL
      rw [← hstr]
      unfold dataB
      rw [h3]
      simp
    · rw [show wErr d2 s = 2 by simp [wErr, ht, h3], show wStep d2 s = d2 by simp [wStep, ht, h3]]
      exact (rwrite_long s.b str hd hm hb (by omega)).mono fun e W' ⟨h1, h2⟩ => ⟨h1, h2 ▸ RefHas.grow ⟨sv, lv, hd⟩ hB (Nat.le_refl _), h2 ▸ Kept.refl F Wi⟩
  · rw [show wErr d2 s = 5 by simp [wErr, ht], show wStep d2 s = d2 by simp [wStep, ht]]
    exact (rwrite_none s.b str hd hm hb).mono fun e W' ⟨h1, h2⟩ => ⟨h1, h2 ▸ RefHas.grow ⟨sv, lv, hd⟩ hB (Nat.le_refl _), h2 ▸ Kept.refl F Wi⟩
  · rw [show wErr d2 s = 50 by simp [wErr, ht], show wStep d2 s = d2 by simp [wStep, ht]]
    exact (rwrite_down s.b str hd hm).mono fun e W' ⟨h1, h2⟩ => ⟨h1, h2 ▸ RefHas.grow ⟨sv, lv, hd⟩ hB (Nat.le_refl _), h2 ▸ Kept.refl F Wi⟩
theorem two_sync (hL : d1.L.length ≤ 1000000) (h : Two Z W Wi g r d1 d2) :
    Calls Try.prog 18 #[.pointer (some ⟨g, 0, none⟩)] Wi fun e W' => e = .returned (.int .i64 d1.may) ∧ Two Z W W' g r (yStep d1) d2 := by
  have hB := h.1.size
  refine two1 (R := fun e => e = .returned (.int .i64 d1.may)) h fun F _ ⟨sn, lv, hd⟩ => ?_
  unfold yStep
  by_cases hm : d1.may = 0
  · rw [if_neg (by simpa using hm), hm]
    exact (sync_good hd hm hL).mono fun e W' ⟨h1, h2, h3⟩ => ⟨h1, DiskHas.grow ⟨_, _, h2⟩ hB h3.size, h3⟩
  · rw [if_pos hm]
    exact (sync_bad hd hm).mono fun e W' ⟨h1, h2⟩ => ⟨h1, h2 ▸ DiskHas.grow ⟨sn, lv, hd⟩ hB (Nat.le_refl _), h2 ▸ Kept.refl F Wi⟩
theorem two_rsync (hL : d2.L.length ≤ 1000000) (h : Two Z W Wi g r d1 d2) :
    Calls Try.prog 24 #[.pointer (some ⟨r, 0, none⟩)] Wi fun e W' => e = .returned (.int .i64 d2.may) ∧ Two Z W W' g r d1 (yStep d2) := by
  have hB := h.1.size
  refine two2 (R := fun e => e = .returned (.int .i64 d2.may)) h fun F _ ⟨sn, lv, hd⟩ => ?_
  unfold yStep
  by_cases hm : d2.may = 0
  · rw [if_neg (by simpa using hm), hm]
    exact (rsync_good hd hm hL).mono fun e W' ⟨h1, h2, h3⟩ => ⟨h1, RefHas.grow ⟨_, _, h2⟩ hB h3.size, h3⟩
  · rw [if_pos hm, show d2.may = 50 from (may_cases d2).resolve_left hm]
    exact (rsync_down hd hm).mono fun e W' ⟨h1, h2⟩ => ⟨h1, h2 ▸ RefHas.grow ⟨sn, lv, hd⟩ hB (Nat.le_refl _), h2 ▸ Kept.refl F Wi⟩
theorem two_fuse (n : Int) (hn : n ≤ 9223372036854775807) (h : Two Z W Wi g r d1 d2) : Calls Try.prog 21 #[.pointer (some ⟨g, 0, none⟩), .int .i64 n] Wi fun e W' => e = .returned (.int .i64 0) ∧ Two Z W W' g r (fStep d1 n) d2 := by
  have hB := h.1.size
  refine two1 (R := fun e => e = .returned (.int .i64 0)) h fun F _ ⟨sn, lv, hd⟩ => ?_
  exact (fuse_disk n hn hd).mono fun e W' ⟨h1, h2, h3, h4⟩ => ⟨h1, DiskHas.grow ⟨_, _, h2⟩ hB h3.size, h3⟩
theorem two_rfuse (n : Int) (hn : n ≤ 9223372036854775807) (h : Two Z W Wi g r d1 d2) : Calls Try.prog 27 #[.pointer (some ⟨r, 0, none⟩), .int .i64 n] Wi fun e W' => (∃ v, e = .returned v) ∧ Two Z W W' g r d1 (fStep d2 n) := by
  have hB := h.1.size
  refine two2 (R := fun e => ∃ v, e = .returned v) h fun F _ ⟨sn, lv, hd⟩ => ?_
  exact (fuse_ref n hn hd).mono fun e W' ⟨h1, h2, h3, h4⟩ => ⟨h1, RefHas.grow ⟨_, _, h2⟩ hB h3.size, h3⟩
theorem two_read (b : Int) (str : ByteArray) (hstr : (⟨(rText d1 b).toArray⟩ : ByteArray) = str) (hL : d1.L.length ≤ 1000000) (h : Two Z W Wi g r d1 d2) :
    Calls Try.prog 20 #[.pointer (some ⟨g, 0, none⟩), .int .i64 b] Wi fun e W' => e = .returned (.tuple #[.string str, .int .i64 (d1.there b)]) ∧ Two Z W W' g r d1 d2 := by
  have hB := h.1.size
  have h' := h
  obtain ⟨_, F1, F2, ⟨sn, lv, hd⟩, h2, h3, _⟩ := h
  unfold rText at hstr
  by_cases ht : d1.there b = 0
  · rw [if_neg (by simpa using ht)] at hstr
    obtain ⟨bN, rfl⟩ : ∃ bN : Nat, b = bN := ⟨b.toNat, by rcases there_cases d1 b with h | h | h <;> omega⟩
    rw [ht]
    exact (read_good bN str hstr hd ht hL).mono fun e W' ⟨h1, h2⟩ => ⟨h1, h'.keep h2⟩
  · rw [if_pos ht] at hstr
    subst hstr
    exact (read_bad b hd ht).mono fun e W' ⟨h1, h2⟩ => ⟨h1, h2 ▸ h'⟩
theorem two_rread (b : Int) (str : ByteArray) (hstr : (⟨(rText d2 b).toArray⟩ : ByteArray) = str) (hL : d2.L.length ≤ 1000000) (h : Two Z W Wi g r d1 d2) :
    Calls Try.prog 26 #[.pointer (some ⟨r, 0, none⟩), .int .i64 b] Wi fun e W' => e = .returned (.tuple #[.string str, .int .i64 (d2.there b)]) ∧ Two Z W W' g r d1 d2 := by
  have h' := h
  obtain ⟨_, F1, F2, h1, ⟨sn, lv, hd⟩, h3, _⟩ := h
  unfold rText at hstr
  rcases there_cases d2 b with ⟨ht, hm, hb⟩ | ⟨ht, hm, hb⟩ | ⟨ht, hm⟩
  · rw [if_neg (by simpa using ht)] at hstr
    obtain ⟨bN, rfl⟩ : ∃ bN : Nat, b = bN := ⟨b.toNat, by omega⟩
    rw [ht]
    exact (rread_good bN str hstr hd hm (by omega) hL).mono fun e W' ⟨h1, h2⟩ => ⟨h1, h2 ▸ h'⟩
  · rw [if_pos (by omega)] at hstr
    subst hstr
    rw [ht]
    exact (rread_none b hd hm hb).mono fun e W' ⟨h1, h2⟩ => ⟨h1, h2 ▸ h'⟩
  · rw [if_pos (by omega)] at hstr
    subst hstr
    rw [ht]
    exact (rread_down b hd hm).mono fun e W' ⟨h1, h2⟩ => ⟨h1, h2 ▸ h'⟩
/-- A crash whose picks lie in a block that was made behind the disks. -/
theorem two_crash_new (ps : List Int) (h : Two Z W Wi g r d1 d2) (hL : d1.L.length ≤ 1000000) (hpl : ps.length ≤ 1000000) (W1 : World) (hb : Below Wi.heap.size Wi W1) (A : Option Addr) (c : Nat) (hp : ps = [] ∨ ∃ b o, A = some ⟨b, o, none⟩ ∧ Wi.heap.size ≤ b ∧ b < W1.heap.size ∧ ∀ i p, ps[i]? = some p → W1.cell? ⟨b, o + i, none⟩ = some (.int .i64 p)) :
    Calls Try.prog 19 #[.pointer (some ⟨g, 0, none⟩), .slice A ps.length c] W1 fun e W' => e = .returned (.int .i64 0) ∧ Two Z W W' g r (d1.crash ps) d2 := by
  obtain ⟨hB, F1, F2, ⟨sn, lv, hd⟩, h2, h3, hz⟩ := h
  refine (crash_disk (F := F1) A c ps (hd.bel hb) hL ?_ hpl).mono ?_
  · rcases hp with h | ⟨b, o, e, h1, h2, h3⟩
    · exact .inl h
    · exact .inr ⟨b, o, e, fun hf => by have := (hd.low b hf).2; omega, h2, h3⟩
  · rintro e W' ⟨h1, h4, h5⟩
    refine ⟨h1, h5.below (hB.trans (hb.mono hB.size)) (fun k hk => (hd.low k hk).1) (Nat.le_trans hB.size hb.size), F1, F2, ⟨sn, _, h4⟩, (h2.bel hb).kept h5 (fun k a b => h3 k b a), h3, fun z hm => ?_⟩
    obtain ⟨z1, z2, z3⟩ := hz z hm
    have hlt := (Array.getElem?_eq_some_iff.1 z1).1
    exact ⟨((h5.block _ (Nat.lt_of_lt_of_le hlt hb.size) z2).trans (hb.block _ hlt)).trans z1, z2, z3⟩
theorem two_rcrash (A : Option Addr) (c : Nat) (ps : List Int) (hI : IntsAt W A ps) (h : Two Z W Wi g r d1 d2) (hL : d2.L.length ≤ 1000000) (hpl : ps.length ≤ 1000000) :
    Calls Try.prog 25 #[.pointer (some ⟨r, 0, none⟩), .slice A ps.length c] Wi fun e W' => (∃ v, e = .returned v) ∧ Two Z W W' g r d1 (d2.crash ps) := by
  have hB := h.1
  refine two2 (R := fun e => ∃ v, e = .returned v) h fun F hF ⟨sn, lv, hd⟩ => ?_
  refine (rcrash_disk A c ps hd hL ?_ hpl).mono fun e W' ⟨h1, h2, h3⟩ => ⟨h1, RefHas.grow ⟨_, _, h2⟩ hB.size h3.size, h3⟩
  rcases hI with e | ⟨b, o, e, hc⟩
  · exact .inl e
  · by_cases h0 : ps = []
    · exact .inl h0
    · have hx : ∃ p, ps[0]? = some p := ⟨_, List.getElem?_eq_getElem (List.length_pos_iff.2 h0)⟩
      obtain ⟨p, hp⟩ := hx
      have hlt : b < W.heap.size := World.block_lt_of_cell? W _ (hc 0 p hp)
      exact .inr ⟨b, o, e, fun hf => by have := (hF b hf).1; omega, Nat.lt_of_lt_of_le hlt hB.size, fun i q hq => (hB.cell (p := ⟨b, o + i, none⟩) hlt).trans (hc i q hq)⟩
theorem two_loose (h : Two Z W Wi g r d1 d2) (hL : d1.L.length ≤ 1000000) : Calls Try.prog 12 #[.pointer (some ⟨g, 0, none⟩)] Wi (LooseIs Wi d1.L) := by
  obtain ⟨_, F1, F2, ⟨sn, lv, hd⟩, h2, h3, _⟩ := h
  exact loose_disk hd hL
theorem two_sure (str : ByteArray) (hstr : (⟨d1.sure.toArray⟩ : ByteArray) = str) (h : Two Z W Wi g r d1 d2) : Calls Try.prog 13 #[.pointer (some ⟨g, 0, none⟩)] Wi fun e W' => e = .returned (.string str) ∧ Two Z W W' g r d1 d2 := by
  have h' := h
  obtain ⟨_, F1, F2, ⟨sn, lv, hd⟩, h2, h3, _⟩ := h
  exact (sure_disk str hstr hd).mono fun e W' ⟨h1, h2⟩ => ⟨h1, h'.keep h2⟩
theorem two_rsure (str : ByteArray) (hstr : (⟨d2.sure.toArray⟩ : ByteArray) = str) (h : Two Z W Wi g r d1 d2) : Calls Try.prog 14 #[.pointer (some ⟨r, 0, none⟩)] Wi fun e W' => e = .returned (.string str) ∧ Wi = W' := by
  obtain ⟨_, F1, F2, h1, ⟨sn, lv, hd⟩, h3, _⟩ := h
  exact rsure_disk str hstr hd
theorem two_size (h : Two Z W Wi g r d1 d2) : Calls Try.prog 15 #[.pointer (some ⟨g, 0, none⟩)] Wi fun e W' => e = .returned (.int .i64 d1.S.length) ∧ Wi = W' := by
  obtain ⟨_, F1, F2, ⟨sn, lv, hd⟩, h2, h3, _⟩ := h
  exact size_disk hd
end

end Go.Proofs.Ytbobbekbliichaa
