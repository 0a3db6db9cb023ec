import Derived.Test.YtbobbekbliichaaE17
namespace Go.Proofs.Ytbobbekbliichaa
open Go.RowKit
set_option linter.unusedSimpArgs false
set_option linter.unusedVariables false


open Go.Lib (byteCells byteCells_length byteCells_one)
/-! The document's disk: the same data. -/
def strV (bs : List UInt8) : Value := .string ⟨bs.toArray⟩
def rleft (d : Dsk) : Int := if d.fused = true then d.left else -1
def rS (S : List (List UInt8)) : List Value := S.map strV
def rcells (x : Int × List UInt8) : List Value := [.int .i64 x.1, strV x.2]
def rL (L : List (Int × List UInt8)) : List Value := (L.map rcells).flatten
structure RefIn (B : Nat) (F : Nat → Prop) (W : World) (r : Nat) (sv lv : Value) (d : Dsk) : Prop where
  ok : d.ok
  hr : F r
  hs : ∀ k, sv.ownBlock = some k → F k
  hl : ∀ k, lv.ownBlock = some k → F k
  sr : sv.ownBlock ≠ some r
  lr : lv.ownBlock ≠ some r
  sl : ∀ k, sv.ownBlock = some k → lv.ownBlock ≠ some k
  low : ∀ k, F k → B ≤ k ∧ k < W.heap.size
  at_r : Bk W r #[sv, lv, .int .i64 (rleft d)] 40
  at_s : W.ownsRow B 9 1 sv d.S.length (rS d.S)
  at_l : W.ownsRow B 42 2 lv d.L.length (rL d.L)
def RefHas (B : Nat) (F : Nat → Prop) (W : World) (r : Nat) (d : Dsk) : Prop := ∃ sv lv, RefIn B F W r sv lv d
section
variable {B : Nat} {F : Nat → Prop} {W W' : World} {r : Nat} {sv lv : Value} {d : Dsk}
theorem RefIn.bel (h : RefIn B F W r sv lv d) (hb : Below W.heap.size W W') : RefIn B F W' r sv lv d :=
  ⟨h.ok, h.hr, h.hs, h.hl, h.sr, h.lr, h.sl, fun k hk => ⟨(h.low k hk).1, Nat.lt_of_lt_of_le (h.low k hk).2 hb.size⟩, h.at_r.bel hb, ownsRow_bel h.at_s hb, ownsRow_bel h.at_l hb⟩
theorem RefIn.kept {F' : Nat → Prop} (h : RefIn B F W r sv lv d) (hk : Kept F' W W') (hd : ∀ k, F k → ¬ F' k) : RefIn B F W' r sv lv d :=
  ⟨h.ok, h.hr, h.hs, h.hl, h.sr, h.lr, h.sl, fun k hf => ⟨(h.low k hf).1, Nat.lt_of_lt_of_le (h.low k hf).2 hk.size⟩,
   (hk.block r (h.low r h.hr).2 (hd r h.hr)).trans h.at_r, ownsRow_kept h.at_s fun k hb hlt => hk.block k hlt (hd k (h.hs k hb)), ownsRow_kept h.at_l fun k hb hlt => hk.block k hlt (hd k (h.hl k hb))⟩
theorem RefIn.mono {F' : Nat → Prop} (h : RefIn B F W r sv lv d) (hF : ∀ k, F k → F' k) (hlow : ∀ k, F' k → B ≤ k ∧ k < W.heap.size) : RefIn B F' W r sv lv d :=
  ⟨h.ok, hF _ h.hr, fun k hk => hF _ (h.hs k hk), fun k hk => hF _ (h.hl k hk), h.sr, h.lr, h.sl, hlow, h.at_r, h.at_s, h.at_l⟩
theorem RefIn.cells (h : RefIn B F W r sv lv d) : W.cell? ⟨r, 0, none⟩ = some sv ∧ W.cell? ⟨r, 1, none⟩ = some lv ∧ W.cell? ⟨r, 2, none⟩ = some (.int .i64 (rleft d)) := ⟨h.at_r.cell 0, h.at_r.cell 1, h.at_r.cell 2⟩
/-- The fuse is set anew. -/
theorem RefIn.setLeft (h : RefIn B F W r sv lv d) (d' : Dsk) (hS : d'.S = d.S) (hL : d'.L = d.L) (ok : d'.ok) : RefIn B F (W.setCell ⟨r, 2, none⟩ (.int .i64 (rleft d'))) r sv lv d' := by
  have hk : Kept (fun k => k = r) W (W.setCell ⟨r, 2, none⟩ (.int .i64 (rleft d'))) := (Kept.refl (fun k => k = r) W).set (F := fun k => k = r) (g := r) rfl _
  refine ⟨ok, h.hr, h.hs, h.hl, h.sr, h.lr, h.sl, fun k hf => ⟨(h.low k hf).1, Nat.lt_of_lt_of_le (h.low k hf).2 hk.size⟩, ?_, ?_, ?_⟩
  · have := h.at_r.set 2 (.int .i64 (rleft d'))
    simpa using this
  · rw [hS]; exact ownsRow_kept h.at_s fun k hb hlt => hk.block k hlt (fun e => h.sr (by rw [hb, e]))
  · rw [hL]; exact ownsRow_kept h.at_l fun k hb hlt => hk.block k hlt (fun e => h.lr (by rw [hb, e]))
end
theorem rleft_zero (d : Dsk) : (rleft d == 0) = decide (d.may ≠ 0) := by
  unfold rleft Dsk.may
  by_cases hf : d.fused = true
  · by_cases hl : d.left = 0 <;> simp [hf, hl]
  · simp [hf]
theorem down_ref {B : Nat} {F : Nat → Prop} {W : World} {r : Nat} {sv lv : Value} {d : Dsk} (h : RefIn B F W r sv lv d) : Calls Try.prog 32 #[.pointer (some ⟨r, 0, none⟩)] W fun e W' => e = .returned (.bool (decide (d.may ≠ 0))) ∧ W = W' := by
  obtain ⟨c0, c1, c2⟩ := h.cells
  rw [← rleft_zero]
  generalize rleft d = x at c2 ⊢
  clear h c0 c1
  go_enter Try.func32, Try.ntmps32
  go_wp2_with fail
  go_ret
  exact ⟨rfl, rfl⟩
theorem there_ref {B : Nat} {F : Nat → Prop} {W : World} {r : Nat} {sv lv : Value} {d : Dsk} (b : Int) (h : RefIn B F W r sv lv d) : Calls Try.prog 33 #[.pointer (some ⟨r, 0, none⟩), .int .i64 b] W fun e W' => e = .returned (.bool (decide (0 ≤ b ∧ b < d.S.length))) ∧ W = W' := by
  obtain ⟨c0, c1, c2⟩ := h.cells
  obtain ⟨A, c, rfl⟩ := ownsRow_form h.at_s
  clear h c1 c2
  by_cases h0 : 0 ≤ b
  · by_cases h1 : b < (d.S.length : Int)
    · rw [show decide (0 ≤ b ∧ b < (d.S.length : Int)) = true by simp [h0, h1]]
      go_enter Try.func33, Try.ntmps33
      go_wp2_with fail
      go_ret
      exact ⟨rfl, rfl⟩
    · rw [show decide (0 ≤ b ∧ b < (d.S.length : Int)) = false by simp [h0]; omega]
      go_enter Try.func33, Try.ntmps33
      go_wp2_with fail
      go_ret
      exact ⟨rfl, rfl⟩
  · rw [show decide (0 ≤ b ∧ b < (d.S.length : Int)) = false by simp [h0]]
    go_enter Try.func33, Try.ntmps33
    go_wp2_with fail
    go_ret
    exact ⟨rfl, rfl⟩
theorem done_ok {d : Dsk} (h : d.ok) (hm : d.may = 0) : d.done.ok := by
  refine ⟨h.pos, h.few, h.all, h.loose, fun hf => ?_, ?_⟩
  · have h0 := h.fuse hf
    have hf' : d.fused = true := hf
    have h1 : d.left ≠ 0 := fun e => by unfold Dsk.may at hm; simp [hf', e] at hm
    unfold Dsk.done
    simp only [hf', if_true]
    omega
  · have := h.big
    unfold Dsk.done
    simp only
    split <;> omega
theorem counts_ref {B : Nat} {F : Nat → Prop} {W : World} {r : Nat} {sv lv : Value} {d : Dsk} (hm : d.may = 0) (h : RefIn B F W r sv lv d) : Calls Try.prog 34 #[.pointer (some ⟨r, 0, none⟩)] W fun e W' => (∃ v, e = .returned v) ∧ RefIn B F W' r sv lv d.done ∧ Kept F W W' ∧ W'.heap.size = W.heap.size := by
  obtain ⟨c0, c1, c2⟩ := h.cells
  have f2 := h.at_r.free 2
  have hok := done_ok h.ok hm
  by_cases hf : d.fused = true
  · have h0 : 0 ≤ d.left := h.ok.fuse hf
    have h1 : d.left ≠ 0 := fun e => by unfold Dsk.may at hm; simp [hf, e] at hm
    have h2 := h.ok.big
    have e1 : rleft d = d.left := by unfold rleft; rw [if_pos hf]
    have e2 : rleft d.done = d.left - 1 := by unfold rleft Dsk.done; simp [hf]
    have hw : IntKind.i64.wrap (d.left - 1) = d.left - 1 := by
      simp [IntKind.wrap, IntKind.bits, IntKind.signed]
      omega
    have hp : 0 < d.left := by omega
    rw [e1] at c2
    have H := Lib.hid h
    have HS := h.setLeft d.done rfl rfl hok
    rw [e2] at HS
    have HSS := Lib.hid HS
    clear h h0 h1 h2 hm hok e1 e2 HS c0 c1
    go_enter Try.func34, Try.ntmps34
    go_wp2_with fail
    go_end0
    exact ⟨⟨_, rfl⟩, HSS.out, (Kept.refl F W).set H.out.hr _, by simp [World.setCell]⟩
  · have hf' : d.fused = false := by simpa using hf
    have hd : d.done = d := by unfold Dsk.done; cases d; simp at hf'; simp [hf']
    have e1 : rleft d = -1 := by unfold rleft; rw [hf']; rfl
    rw [hd]
    rw [e1] at c2
    have H := Lib.hid h
    clear h hm hok hd e1 c0 c1 f2
    go_enter Try.func34, Try.ntmps34
    go_wp2_with fail
    go_end0
    exact ⟨⟨_, rfl⟩, H.out, Kept.refl F W, rfl⟩
theorem fuse_ref {B : Nat} {F : Nat → Prop} {W : World} {r : Nat} {sv lv : Value} {d : Dsk} (n : Int) (hn : n ≤ 9223372036854775807) (h : RefIn B F W r sv lv d) : Calls Try.prog 27 #[.pointer (some ⟨r, 0, none⟩), .int .i64 n] W fun e W' =>
    (∃ v, e = .returned v) ∧ RefIn B F W' r sv lv { d with fused := decide (0 ≤ n), left := n } ∧ Kept F W W' ∧ W'.heap.size = W.heap.size := by
  obtain ⟨c0, c1, c2⟩ := h.cells
  have f2 := h.at_r.free 2
  have HS := h.setLeft { d with fused := decide (0 ≤ n), left := n } rfl rfl ⟨h.ok.pos, h.ok.few, h.ok.all, h.ok.loose, by simp, hn⟩
  have e : rleft { d with fused := decide (0 ≤ n), left := n } = (if n < -1 then -1 else n) := by
    unfold rleft
    by_cases h0 : 0 ≤ n
    · simp [h0]; omega
    · simp [h0]; omega
  rw [e] at HS
  have H := Lib.hid h
  have HSS := Lib.hid HS
  clear h HS e hn c0 c1
  by_cases hlt : n < -1
  · rw [if_pos hlt] at HSS
    go_enter Try.func27, Try.ntmps27
    go_wp2_with fail
    go_end0
    exact ⟨⟨_, rfl⟩, HSS.out, (Kept.refl F W).set H.out.hr _, by simp [World.setCell]⟩
  · rw [if_neg hlt] at HSS
    go_enter Try.func27, Try.ntmps27
    go_wp2_with fail
    go_end0
    exact ⟨⟨_, rfl⟩, HSS.out, (Kept.refl F W).set H.out.hr _, by simp [World.setCell]⟩

end Go.Proofs.Ytbobbekbliichaa
