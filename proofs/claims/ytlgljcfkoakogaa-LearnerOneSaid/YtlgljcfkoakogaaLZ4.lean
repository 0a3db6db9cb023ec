import Derived.Test.YtlgljcfkoakogaaLZ3
namespace Go.Proofs.Ytlgljcfkoakogaa
open Go.RowKit
set_option linter.unusedSimpArgs false
set_option linter.unusedVariables false


open Go.Maps Go.Shelf
def Nt.cells (m : Nt) : List Value := [.int .i64 (m.kind : Nat), .int .i64 (m.p : Nat), .int .i64 (m.tn : Nat), .int .u64 m.r, .int .i64 m.n, .bool m.vote.has, .int .u64 m.vote.r, .int .i64 m.vote.n, .string m.vote.val, .string m.value]
def flatN (l : List Nt) : List Value := l.flatMap Nt.cells
def Small (S : Sys) (M : Nat) : Prop := (∀ k, k < S.N → (S.ln k).nn ≤ M) ∧ ∀ (p : Nat) P, S.ps[p]? = some P → P.nn ≤ M
/-- What is left alone by what a message brings forth. -/
def Far (col : Nat → Col) : Nat → Prop := fun k => ¬ (col k = .pool ∨ col k = .none)
theorem Kept.wide {F G : Nat → Prop} {a b : World} (h : Kept F a b) (hFG : ∀ k, F k → G k) : Kept G a b := ⟨h.os, h.tape, h.output, h.size, fun k hk hn => h.block k hk (fun hf => hn (hFG k hf))⟩
theorem Only.far {col : Nat → Col} {c : Col} {W W' : World} (h : Only col c W W') (h1 : c ≠ .pool) (h2 : c ≠ .none) : Kept (Far col) W W' :=
  Kept.wide h fun k hk hf => by
    rcases hf with e | e
    · exact h1 (hk.symm.trans e)
    · exact h2 (hk.symm.trans e)
structure Taken (W : World) (col : Nat → Col) (S : Sys) (A : Nat → Int → Prop) (gA gL mL : Nat → Nat) (sn sh sa : Value) (M : Nat) (W' : World) (so : Value) (col' : Nat → Col) (S' : Sys) (A' : Nat → Int → Prop) (pp' : Nat → PAt) (out : List Nt) : Prop where
  mem : Mem W' col' S' gA gL mL pp' sn sh sa
  inv : Inv S' A'
  ext : Ext S S' A A'
  len : S'.ps.length = S.ps.length
  msg : ∀ m ∈ out, MsgOk S' A' m
  row : W'.ownsRow W.heap.size 105 10 so out.length (flatN out)
  few : out.length ≤ 8
  kept : Kept (Far col) W W'
  old : ∀ k, k < W.heap.size → col' k = col k
  small : Small S' (M + 1)
def TakenPost (W : World) (col : Nat → Col) (S : Sys) (A : Nat → Int → Prop) (gA gL mL : Nat → Nat) (sn sh sa : Value) (M : Nat) (e : Ending) (W' : World) : Prop :=
  ∃ so col' S' A' pp' out, e = .returned (.tuple #[so, .bool true]) ∧ Taken W col S A gA gL mL sn sh sa M W' so col' S' A' pp' out
theorem lAcc_nn1 (L : Lrn) (x r n : Int) (v : ByteArray) : (lAcc L x r n v).2.2.nn ≤ L.nn + 1 := by
  unfold lAcc lNew
  split
  · exact Nat.le_succ _
  · split
    · exact Nat.le_succ _
    · split
      · exact Nat.le_succ _
      · split
        · exact Nat.le_succ _
        · split
          · exact Nat.le_succ _
          · exact Nat.le_refl _
set_option maxRecDepth 100000
set_option maxHeartbeats 6400000
theorem taken4 {W : World} {col : Nat → Col} {S : Sys} {A : Nat → Int → Prop} {gA gL mL : Nat → Nat} {pp : Nat → PAt} {sn sh sa : Value} {M : Nat} (h : Mem W col S gA gL mL pp sn sh sa) (hI : Inv S A) (hS : Small S M) (hM : M < 999999) (p tn : Nat) (r n : Int) (c : Vt) (u : ByteArray) (hm : MsgOk S A ⟨4, p, tn, r, n, c, u⟩) :
    Calls Try.prog 55 #[.agg #[.int .i64 4, .int .i64 (p : Nat), .int .i64 (tn : Nat), .int .u64 r, .int .i64 n, .bool c.has, .int .u64 c.r, .int .i64 c.n, .string c.val, .string u], sn, sh, sa, .int .i64 S.N] W (TakenPost W col S A gA gL mL sn sh sa M) := by
  have hkk : p < S.N ∧ A tn r ∧ n = S.nd r ∧ u = S.val r := by
    rcases hm.kinds with ⟨h0, _⟩ | ⟨h0, _⟩ | ⟨h0, _⟩ | ⟨h0, _⟩ | ⟨_, h1, h2, h3, h4⟩
    · cases h0
    · cases h0
    · cases h0
    · cases h0
    · exact ⟨h1, h2, h3, h4⟩
  have hp := hkk.1
  have htn : tn < S.N := hm.tn
  have hb0 := (Below.refl W.heap.size W).alloc (Nat.le_refl _) (.cells #[.int .i64 4, .int .i64 (p : Nat), .int .i64 (tn : Nat), .int .u64 r, .int .i64 n, .bool c.has, .int .u64 c.r, .int .i64 c.n, .string c.val, .string u] 105)
  have B0 := Lib.hid (Bk.new W #[.int .i64 4, .int .i64 (p : Nat), .int .i64 (tn : Nat), .int .u64 r, .int .i64 n, .bool c.has, .int .u64 c.r, .int .i64 c.n, .string c.val, .string u] 105)
  have M0 := Lib.hid (h.keep hb0)
  have HH := Lib.hid hI
  have HS0 := Lib.hid hS
  have hm1 := Lib.hid hkk
  have HB0 := Lib.hid hb0
  obtain ⟨bh, ch, rfl, hcell⟩ := ptr_cell M0.out.hear.1 hp
  have k0 : (W.alloc (.cells #[.int .i64 4, .int .i64 (p : Nat), .int .i64 (tn : Nat), .int .u64 r, .int .i64 n, .bool c.has, .int .u64 c.r, .int .i64 c.n, .string c.val, .string u] 105)).cell? ⟨W.heap.size, 0, none⟩ = some (.int .i64 4) := B0.out.cell 0
  clear h hI hS hm hkk hb0
  go_enter Try.func55, Try.ntmps55
  go_upto_region 32 with fail
  generalize W.alloc (.cells #[.int .i64 4, .int .i64 (p : Nat), .int .i64 (tn : Nat), .int .u64 r, .int .i64 n, .bool c.has, .int .u64 c.r, .int .i64 c.n, .string c.val, .string u] 105) = w1 at B0 M0 HB0 hcell ⊢
  have HS := Lib.hid (show ∀ w', Bel w1 w' → w'.cell? ⟨bh, p, none⟩ = some (.pointer (some ⟨gL p, 0, none⟩)) ∧ w'.cell? ⟨W.heap.size, 1, none⟩ = some (.int .i64 (p : Nat)) ∧ w'.cell? ⟨W.heap.size, 2, none⟩ = some (.int .i64 (tn : Nat)) ∧ w'.cell? ⟨W.heap.size, 3, none⟩ = some (.int .u64 r) ∧ w'.cell? ⟨W.heap.size, 4, none⟩ = some (.int .i64 n) ∧ w'.cell? ⟨W.heap.size, 9, none⟩ = some (.string u) from
    fun w' hw => ⟨Bel.cell hw hcell, (B0.out.bel hw).cell 1, (B0.out.bel hw).cell 2, (B0.out.bel hw).cell 3, (B0.out.bel hw).cell 4, (B0.out.bel hw).cell 9⟩)
  have hW0 : Bel w1 w1.drew := (Bel.refl w1).drew
  have hac := lacc_any (tn : Int) r n u ((M0.out.lrn p hp).1.keep hW0) (by have := HS0.out.1 p hp; omega)
  have hstep := learn_step HH.out hp (x := (tn : Int)) (r := r) (n := n) (v := u) (by omega) (by rw [Int.toNat_natCast]; exact hm1.out.2.1) hm1.out.2.2.1 hm1.out.2.2.2
  rw [hstep.1] at hac
  have HAC := Lib.hid hac
  have HST := Lib.hid hstep
  have hps : p < S.N ∧ (p : Int) < (S.N : Int) := ⟨hp, by omega⟩
  clear hac hstep hcell
  refine wp_aw 17 #[false, false, false, false, false, false, false, false, false, false, false, false, false, false, false, false, false] rfl rfl ?_
  refine aw_join 6 ?LEL_0 ?FEL_0 w1.drew (fun EL_0 => ?_) ?_; rotate_left 2
  refine aw_join 7 ?LEL_1 ?FEL_1 w1.drew (fun EL_1 => ?_) ?_; rotate_left 2
  refine aw_join 7 ?LEL_2 ?FEL_2 w1.drew (fun EL_2 => ?_) ?_; rotate_left 2
  refine aw_join 7 ?LEL_3 ?FEL_3 w1.drew (fun EL_3 => ?_) ?_; rotate_left 2
  refine aw_join 7 ?LEL_4 ?FEL_4 w1.drew (fun EL_4 => ?_) ?_; rotate_left 2
  refine aw_join 8 ?LEL_5 ?FEL_5 w1.drew (fun EL_5 => ?_) ?_; rotate_left 2
  refine aw_join 8 ?LEL_6 ?FEL_6 w1.drew (fun EL_6 => ?_) ?_; rotate_left 2
  refine aw_join 8 ?LEL_7 ?FEL_7 w1.drew (fun EL_7 => ?_) ?_; rotate_left 2
  refine aw_join 8 ?LEL_8 ?FEL_8 w1.drew (fun EL_8 => ?_) ?_; rotate_left 2
  refine aw_join 8 ?LEL_9 ?FEL_9 w1.drew (fun EL_9 => ?_) ?_; rotate_left 2
  refine aw_join 8 ?LEL_10 ?FEL_10 w1.drew (fun EL_10 => ?_) ?_; rotate_left 2
  refine aw_join 9 ?LEL_11 ?FEL_11 w1.drew (fun EL_11 => ?_) ?_; rotate_left 2
  refine aw_join 9 ?LEL_12 ?FEL_12 w1.drew (fun EL_12 => ?_) ?_; rotate_left 2
  refine aw_join 9 ?LEL_13 ?FEL_13 w1.drew (fun EL_13 => ?_) ?_; rotate_left 2
  refine aw_join 9 ?LEL_14 ?FEL_14 w1.drew (fun EL_14 => ?_) ?_; rotate_left 2
  refine aw_join 9 ?LEL_15 ?FEL_15 w1.drew (fun EL_15 => ?_) ?_; rotate_left 2
  refine aw_join 10 ?LEL_16 ?FEL_16 w1.drew (fun EL_16 => ?_) ?_; rotate_left 2
  refine aw_join 10 ?LEL_17 ?FEL_17 w1.drew (fun EL_17 => ?_) ?_; rotate_left 2
  refine aw_join 10 ?LEL_18 ?FEL_18 w1.drew (fun EL_18 => ?_) ?_; rotate_left 2
  refine aw_join 10 ?LEL_19 ?FEL_19 w1.drew (fun EL_19 => ?_) ?_; rotate_left 2
  refine aw_join 11 ?LEL_20 ?FEL_20 w1.drew (fun EL_20 => ?_) ?_; rotate_left 2
  refine aw_join 11 ?LEL_21 ?FEL_21 w1.drew (fun EL_21 => ?_) ?_; rotate_left 2
  refine aw_join 11 ?LEL_22 ?FEL_22 w1.drew (fun EL_22 => ?_) ?_; rotate_left 2
  · refine awt1 0 2 (o := ({ dst := some 182, op := Go.Op.move (Go.Operand.tmp 2), type := 99, pos := "law.go:210", after := #[], guard := none })) (v := ?_) rfl (by kernel_rfl) (by kernel_rfl) (by kernel_rfl) (fun _ _ _ h => h) (by rfl) (by rfl) (fun ev hc hf h0 W => ?_) ?_; rotate_left; (focus (first | (go_simp; done) | (go_simp; with_reducible rfl))); rotate_left; simp only [Act.put, List.setIfInBounds_toArray, List.set_cons_zero, List.set_cons_succ]
    refine awt1 1 5 (o := ({ dst := some 183, op := Go.Op.fieldAddr 105 (Go.Operand.tmp 5) 1, type := 0, pos := "law.go:210", after := #[], guard := none })) (v := ?_) rfl (by kernel_rfl) (by kernel_rfl) (by kernel_rfl) (fun _ _ _ h => h) (by rfl) (by rfl) (fun ev hc hf h0 W => ?_) ?_; rotate_left; (focus (first | (go_simp; done) | (go_simp; with_reducible rfl))); rotate_left; simp only [Act.put, List.setIfInBounds_toArray, List.set_cons_zero, List.set_cons_succ]
    refine awt1 5 5 (o := ({ dst := some 187, op := Go.Op.fieldAddr 105 (Go.Operand.tmp 5) 2, type := 0, pos := "law.go:210", after := #[], guard := none })) (v := ?_) rfl (by kernel_rfl) (by kernel_rfl) (by kernel_rfl) (fun _ _ _ h => h) (by rfl) (by rfl) (fun ev hc hf h0 W => ?_) ?_; rotate_left; (focus (first | (go_simp; done) | (go_simp; with_reducible rfl))); rotate_left; simp only [Act.put, List.setIfInBounds_toArray, List.set_cons_zero, List.set_cons_succ]
    refine awt1 7 5 (o := ({ dst := some 189, op := Go.Op.fieldAddr 105 (Go.Operand.tmp 5) 3, type := 0, pos := "law.go:210", after := #[], guard := none })) (v := ?_) rfl (by kernel_rfl) (by kernel_rfl) (by kernel_rfl) (fun _ _ _ h => h) (by rfl) (by rfl) (fun ev hc hf h0 W => ?_) ?_; rotate_left; (focus (first | (go_simp; done) | (go_simp; with_reducible rfl))); rotate_left; simp only [Act.put, List.setIfInBounds_toArray, List.set_cons_zero, List.set_cons_succ]
    refine awt1 9 5 (o := ({ dst := some 191, op := Go.Op.fieldAddr 105 (Go.Operand.tmp 5) 5, type := 0, pos := "law.go:210", after := #[], guard := none })) (v := ?_) rfl (by kernel_rfl) (by kernel_rfl) (by kernel_rfl) (fun _ _ _ h => h) (by rfl) (by rfl) (fun ev hc hf h0 W => ?_) ?_; rotate_left; (focus (first | (go_simp; done) | (go_simp; with_reducible rfl))); rotate_left; simp only [Act.put, List.setIfInBounds_toArray, List.set_cons_zero, List.set_cons_succ]
    refine aw_all [2, 6, 8, 10] (by kernel_rfl) (by simp) ?_
    refine arv1 (o := ({ dst := some 184, op := Go.Op.load 3 (Go.Operand.tmp 183), type := 3, pos := "law.go:210", after := #[{ on := 1, ground := Go.Ground.data }], guard := none })) 183 (v := ?_) (W' := ?_) rfl (by rfl) (by rfl) (fun ev hc hf h0 => ?_) ?_ ?_; rotate_left 2; (focus (obtain ⟨e0, e1, e2, e3, e4, e5⟩ := HS.out _ hW0; first | (go_simp; done) | (go_simp; with_reducible rfl) | (go_simp; constructor <;> with_reducible rfl)))
    · simp only [Act.put, List.setIfInBounds_toArray, List.set_cons_zero, List.set_cons_succ]
      refine awt2 3 182 184 (o := ({ dst := some 185, op := Go.Op.indexAddr 99 (Go.Operand.tmp 182) (Go.Operand.tmp 184), type := 0, pos := "law.go:210", after := #[{ on := 0, ground := Go.Ground.data }, { on := 2, ground := Go.Ground.data }], guard := none })) (v := ?_) rfl (by kernel_rfl) (by kernel_rfl) (by kernel_rfl) (fun _ _ _ h => h) (by rfl) (by rfl) (by rfl) (fun ev hc hf h0 h1 W => ?_) ?_; rotate_left; (focus (first | (go_simp; done) | (go_simp; with_reducible rfl))); rotate_left; simp only [Act.put, List.setIfInBounds_toArray, List.set_cons_zero, List.set_cons_succ]
      exact EL_19
    refine arv1 (o := ({ dst := some 188, op := Go.Op.load 3 (Go.Operand.tmp 187), type := 3, pos := "law.go:210", after := #[{ on := 5, ground := Go.Ground.data }], guard := none })) 187 (v := ?_) (W' := ?_) rfl (by rfl) (by rfl) (fun ev hc hf h0 => ?_) ?_ ?_; rotate_left 2; (focus (obtain ⟨e0, e1, e2, e3, e4, e5⟩ := HS.out _ hW0; first | (go_simp; done) | (go_simp; with_reducible rfl) | (go_simp; constructor <;> with_reducible rfl)))
    · simp only [Act.put, List.setIfInBounds_toArray, List.set_cons_zero, List.set_cons_succ]
      exact EL_22
    refine arv1 (o := ({ dst := some 190, op := Go.Op.load 24 (Go.Operand.tmp 189), type := 24, pos := "law.go:210", after := #[{ on := 7, ground := Go.Ground.data }], guard := none })) 189 (v := ?_) (W' := ?_) rfl (by rfl) (by rfl) (fun ev hc hf h0 => ?_) ?_ ?_; rotate_left 2; (focus (obtain ⟨e0, e1, e2, e3, e4, e5⟩ := HS.out _ hW0; first | (go_simp; done) | (go_simp; with_reducible rfl) | (go_simp; constructor <;> with_reducible rfl)))
    · simp only [Act.put, List.setIfInBounds_toArray, List.set_cons_zero, List.set_cons_succ]
      exact EL_21
    refine arv1 (o := ({ dst := some 192, op := Go.Op.load 9 (Go.Operand.tmp 191), type := 9, pos := "law.go:210", after := #[{ on := 9, ground := Go.Ground.data }], guard := none })) 191 (v := ?_) (W' := ?_) rfl (by rfl) (by rfl) (fun ev hc hf h0 => ?_) ?_ ?_; rotate_left 2; (focus (obtain ⟨e0, e1, e2, e3, e4, e5⟩ := HS.out _ hW0; first | (go_simp; done) | (go_simp; with_reducible rfl) | (go_simp; constructor <;> with_reducible rfl)))
    · simp only [Act.put, List.setIfInBounds_toArray, List.set_cons_zero, List.set_cons_succ]
      exact EL_20
    exact ar_nil
  · refine aw_all [2, 8, 10] (by kernel_rfl) (by simp) ?_
    refine arv1 (o := ({ dst := some 184, op := Go.Op.load 3 (Go.Operand.tmp 183), type := 3, pos := "law.go:210", after := #[{ on := 1, ground := Go.Ground.data }], guard := none })) 183 (v := ?_) (W' := ?_) rfl (by rfl) (by rfl) (fun ev hc hf h0 => ?_) ?_ ?_; rotate_left 2; (focus (obtain ⟨e0, e1, e2, e3, e4, e5⟩ := HS.out _ hW0; first | (go_simp; done) | (go_simp; with_reducible rfl) | (go_simp; constructor <;> with_reducible rfl)))
    · simp only [Act.put, List.setIfInBounds_toArray, List.set_cons_zero, List.set_cons_succ]
      refine awt2 3 182 184 (o := ({ dst := some 185, op := Go.Op.indexAddr 99 (Go.Operand.tmp 182) (Go.Operand.tmp 184), type := 0, pos := "law.go:210", after := #[{ on := 0, ground := Go.Ground.data }, { on := 2, ground := Go.Ground.data }], guard := none })) (v := ?_) rfl (by kernel_rfl) (by kernel_rfl) (by kernel_rfl) (fun _ _ _ h => h) (by rfl) (by rfl) (by rfl) (fun ev hc hf h0 h1 W => ?_) ?_; rotate_left; (focus (first | (go_simp; done) | (go_simp; with_reducible rfl))); rotate_left; simp only [Act.put, List.setIfInBounds_toArray, List.set_cons_zero, List.set_cons_succ]
      exact EL_14
    refine arv1 (o := ({ dst := some 190, op := Go.Op.load 24 (Go.Operand.tmp 189), type := 24, pos := "law.go:210", after := #[{ on := 7, ground := Go.Ground.data }], guard := none })) 189 (v := ?_) (W' := ?_) rfl (by rfl) (by rfl) (fun ev hc hf h0 => ?_) ?_ ?_; rotate_left 2; (focus (obtain ⟨e0, e1, e2, e3, e4, e5⟩ := HS.out _ hW0; first | (go_simp; done) | (go_simp; with_reducible rfl) | (go_simp; constructor <;> with_reducible rfl)))
    · simp only [Act.put, List.setIfInBounds_toArray, List.set_cons_zero, List.set_cons_succ]
      exact EL_18
    refine arv1 (o := ({ dst := some 192, op := Go.Op.load 9 (Go.Operand.tmp 191), type := 9, pos := "law.go:210", after := #[{ on := 9, ground := Go.Ground.data }], guard := none })) 191 (v := ?_) (W' := ?_) rfl (by rfl) (by rfl) (fun ev hc hf h0 => ?_) ?_ ?_; rotate_left 2; (focus (obtain ⟨e0, e1, e2, e3, e4, e5⟩ := HS.out _ hW0; first | (go_simp; done) | (go_simp; with_reducible rfl) | (go_simp; constructor <;> with_reducible rfl)))
    · simp only [Act.put, List.setIfInBounds_toArray, List.set_cons_zero, List.set_cons_succ]
      exact EL_17
    exact ar_nil
  · refine aw_all [2, 6, 10] (by kernel_rfl) (by simp) ?_
    refine arv1 (o := ({ dst := some 184, op := Go.Op.load 3 (Go.Operand.tmp 183), type := 3, pos := "law.go:210", after := #[{ on := 1, ground := Go.Ground.data }], guard := none })) 183 (v := ?_) (W' := ?_) rfl (by rfl) (by rfl) (fun ev hc hf h0 => ?_) ?_ ?_; rotate_left 2; (focus (obtain ⟨e0, e1, e2, e3, e4, e5⟩ := HS.out _ hW0; first | (go_simp; done) | (go_simp; with_reducible rfl) | (go_simp; constructor <;> with_reducible rfl)))
    · simp only [Act.put, List.setIfInBounds_toArray, List.set_cons_zero, List.set_cons_succ]
      refine awt2 3 182 184 (o := ({ dst := some 185, op := Go.Op.indexAddr 99 (Go.Operand.tmp 182) (Go.Operand.tmp 184), type := 0, pos := "law.go:210", after := #[{ on := 0, ground := Go.Ground.data }, { on := 2, ground := Go.Ground.data }], guard := none })) (v := ?_) rfl (by kernel_rfl) (by kernel_rfl) (by kernel_rfl) (fun _ _ _ h => h) (by rfl) (by rfl) (by rfl) (fun ev hc hf h0 h1 W => ?_) ?_; rotate_left; (focus (first | (go_simp; done) | (go_simp; with_reducible rfl))); rotate_left; simp only [Act.put, List.setIfInBounds_toArray, List.set_cons_zero, List.set_cons_succ]
      exact EL_13
    refine arv1 (o := ({ dst := some 188, op := Go.Op.load 3 (Go.Operand.tmp 187), type := 3, pos := "law.go:210", after := #[{ on := 5, ground := Go.Ground.data }], guard := none })) 187 (v := ?_) (W' := ?_) rfl (by rfl) (by rfl) (fun ev hc hf h0 => ?_) ?_ ?_; rotate_left 2; (focus (obtain ⟨e0, e1, e2, e3, e4, e5⟩ := HS.out _ hW0; first | (go_simp; done) | (go_simp; with_reducible rfl) | (go_simp; constructor <;> with_reducible rfl)))
    · simp only [Act.put, List.setIfInBounds_toArray, List.set_cons_zero, List.set_cons_succ]
      exact EL_18
    refine arv1 (o := ({ dst := some 192, op := Go.Op.load 9 (Go.Operand.tmp 191), type := 9, pos := "law.go:210", after := #[{ on := 9, ground := Go.Ground.data }], guard := none })) 191 (v := ?_) (W' := ?_) rfl (by rfl) (by rfl) (fun ev hc hf h0 => ?_) ?_ ?_; rotate_left 2; (focus (obtain ⟨e0, e1, e2, e3, e4, e5⟩ := HS.out _ hW0; first | (go_simp; done) | (go_simp; with_reducible rfl) | (go_simp; constructor <;> with_reducible rfl)))
    · simp only [Act.put, List.setIfInBounds_toArray, List.set_cons_zero, List.set_cons_succ]
      exact EL_16
    exact ar_nil
  · refine aw_all [2, 6, 8] (by kernel_rfl) (by simp) ?_
    refine arv1 (o := ({ dst := some 184, op := Go.Op.load 3 (Go.Operand.tmp 183), type := 3, pos := "law.go:210", after := #[{ on := 1, ground := Go.Ground.data }], guard := none })) 183 (v := ?_) (W' := ?_) rfl (by rfl) (by rfl) (fun ev hc hf h0 => ?_) ?_ ?_; rotate_left 2; (focus (obtain ⟨e0, e1, e2, e3, e4, e5⟩ := HS.out _ hW0; first | (go_simp; done) | (go_simp; with_reducible rfl) | (go_simp; constructor <;> with_reducible rfl)))
    · simp only [Act.put, List.setIfInBounds_toArray, List.set_cons_zero, List.set_cons_succ]
      refine awt2 3 182 184 (o := ({ dst := some 185, op := Go.Op.indexAddr 99 (Go.Operand.tmp 182) (Go.Operand.tmp 184), type := 0, pos := "law.go:210", after := #[{ on := 0, ground := Go.Ground.data }, { on := 2, ground := Go.Ground.data }], guard := none })) (v := ?_) rfl (by kernel_rfl) (by kernel_rfl) (by kernel_rfl) (fun _ _ _ h => h) (by rfl) (by rfl) (by rfl) (fun ev hc hf h0 h1 W => ?_) ?_; rotate_left; (focus (first | (go_simp; done) | (go_simp; with_reducible rfl))); rotate_left; simp only [Act.put, List.setIfInBounds_toArray, List.set_cons_zero, List.set_cons_succ]
      exact EL_12
    refine arv1 (o := ({ dst := some 188, op := Go.Op.load 3 (Go.Operand.tmp 187), type := 3, pos := "law.go:210", after := #[{ on := 5, ground := Go.Ground.data }], guard := none })) 187 (v := ?_) (W' := ?_) rfl (by rfl) (by rfl) (fun ev hc hf h0 => ?_) ?_ ?_; rotate_left 2; (focus (obtain ⟨e0, e1, e2, e3, e4, e5⟩ := HS.out _ hW0; first | (go_simp; done) | (go_simp; with_reducible rfl) | (go_simp; constructor <;> with_reducible rfl)))
    · simp only [Act.put, List.setIfInBounds_toArray, List.set_cons_zero, List.set_cons_succ]
      exact EL_17
    refine arv1 (o := ({ dst := some 190, op := Go.Op.load 24 (Go.Operand.tmp 189), type := 24, pos := "law.go:210", after := #[{ on := 7, ground := Go.Ground.data }], guard := none })) 189 (v := ?_) (W' := ?_) rfl (by rfl) (by rfl) (fun ev hc hf h0 => ?_) ?_ ?_; rotate_left 2; (focus (obtain ⟨e0, e1, e2, e3, e4, e5⟩ := HS.out _ hW0; first | (go_simp; done) | (go_simp; with_reducible rfl) | (go_simp; constructor <;> with_reducible rfl)))
    · simp only [Act.put, List.setIfInBounds_toArray, List.set_cons_zero, List.set_cons_succ]
      exact EL_16
    exact ar_nil
  · refine aw_all [4, 6, 8, 10] (by kernel_rfl) (by simp) ?_
    refine arv1 (o := ({ dst := some 186, op := Go.Op.load 67 (Go.Operand.tmp 185), type := 67, pos := "law.go:210", after := #[{ on := 3, ground := Go.Ground.data }], guard := none })) 185 (v := ?_) (W' := ?_) rfl (by rfl) (by rfl) (fun ev hc hf h0 => ?_) ?_ ?_; rotate_left 2; (focus (obtain ⟨e0, e1, e2, e3, e4, e5⟩ := HS.out _ hW0; first | (go_simp; done) | (go_simp; with_reducible rfl) | (go_simp; constructor <;> with_reducible rfl)))
    · simp only [Act.put, List.setIfInBounds_toArray, List.set_cons_zero, List.set_cons_succ]
      exact EL_15
    refine arv1 (o := ({ dst := some 188, op := Go.Op.load 3 (Go.Operand.tmp 187), type := 3, pos := "law.go:210", after := #[{ on := 5, ground := Go.Ground.data }], guard := none })) 187 (v := ?_) (W' := ?_) rfl (by rfl) (by rfl) (fun ev hc hf h0 => ?_) ?_ ?_; rotate_left 2; (focus (obtain ⟨e0, e1, e2, e3, e4, e5⟩ := HS.out _ hW0; first | (go_simp; done) | (go_simp; with_reducible rfl) | (go_simp; constructor <;> with_reducible rfl)))
    · simp only [Act.put, List.setIfInBounds_toArray, List.set_cons_zero, List.set_cons_succ]
      exact EL_14
    refine arv1 (o := ({ dst := some 190, op := Go.Op.load 24 (Go.Operand.tmp 189), type := 24, pos := "law.go:210", after := #[{ on := 7, ground := Go.Ground.data }], guard := none })) 189 (v := ?_) (W' := ?_) rfl (by rfl) (by rfl) (fun ev hc hf h0 => ?_) ?_ ?_; rotate_left 2; (focus (obtain ⟨e0, e1, e2, e3, e4, e5⟩ := HS.out _ hW0; first | (go_simp; done) | (go_simp; with_reducible rfl) | (go_simp; constructor <;> with_reducible rfl)))
    · simp only [Act.put, List.setIfInBounds_toArray, List.set_cons_zero, List.set_cons_succ]
      exact EL_13
    refine arv1 (o := ({ dst := some 192, op := Go.Op.load 9 (Go.Operand.tmp 191), type := 9, pos := "law.go:210", after := #[{ on := 9, ground := Go.Ground.data }], guard := none })) 191 (v := ?_) (W' := ?_) rfl (by rfl) (by rfl) (fun ev hc hf h0 => ?_) ?_ ?_; rotate_left 2; (focus (obtain ⟨e0, e1, e2, e3, e4, e5⟩ := HS.out _ hW0; first | (go_simp; done) | (go_simp; with_reducible rfl) | (go_simp; constructor <;> with_reducible rfl)))
    · simp only [Act.put, List.setIfInBounds_toArray, List.set_cons_zero, List.set_cons_succ]
      exact EL_12
    exact ar_nil
  · refine aw_all [2, 10] (by kernel_rfl) (by simp) ?_
    refine arv1 (o := ({ dst := some 184, op := Go.Op.load 3 (Go.Operand.tmp 183), type := 3, pos := "law.go:210", after := #[{ on := 1, ground := Go.Ground.data }], guard := none })) 183 (v := ?_) (W' := ?_) rfl (by rfl) (by rfl) (fun ev hc hf h0 => ?_) ?_ ?_; rotate_left 2; (focus (obtain ⟨e0, e1, e2, e3, e4, e5⟩ := HS.out _ hW0; first | (go_simp; done) | (go_simp; with_reducible rfl) | (go_simp; constructor <;> with_reducible rfl)))
    · simp only [Act.put, List.setIfInBounds_toArray, List.set_cons_zero, List.set_cons_succ]
      refine awt2 3 182 184 (o := ({ dst := some 185, op := Go.Op.indexAddr 99 (Go.Operand.tmp 182) (Go.Operand.tmp 184), type := 0, pos := "law.go:210", after := #[{ on := 0, ground := Go.Ground.data }, { on := 2, ground := Go.Ground.data }], guard := none })) (v := ?_) rfl (by kernel_rfl) (by kernel_rfl) (by kernel_rfl) (fun _ _ _ h => h) (by rfl) (by rfl) (by rfl) (fun ev hc hf h0 h1 W => ?_) ?_; rotate_left; (focus (first | (go_simp; done) | (go_simp; with_reducible rfl))); rotate_left; simp only [Act.put, List.setIfInBounds_toArray, List.set_cons_zero, List.set_cons_succ]
      exact EL_8
    refine arv1 (o := ({ dst := some 192, op := Go.Op.load 9 (Go.Operand.tmp 191), type := 9, pos := "law.go:210", after := #[{ on := 9, ground := Go.Ground.data }], guard := none })) 191 (v := ?_) (W' := ?_) rfl (by rfl) (by rfl) (fun ev hc hf h0 => ?_) ?_ ?_; rotate_left 2; (focus (obtain ⟨e0, e1, e2, e3, e4, e5⟩ := HS.out _ hW0; first | (go_simp; done) | (go_simp; with_reducible rfl) | (go_simp; constructor <;> with_reducible rfl)))
    · simp only [Act.put, List.setIfInBounds_toArray, List.set_cons_zero, List.set_cons_succ]
      exact EL_11
    exact ar_nil
  · refine aw_all [2, 8] (by kernel_rfl) (by simp) ?_
    refine arv1 (o := ({ dst := some 184, op := Go.Op.load 3 (Go.Operand.tmp 183), type := 3, pos := "law.go:210", after := #[{ on := 1, ground := Go.Ground.data }], guard := none })) 183 (v := ?_) (W' := ?_) rfl (by rfl) (by rfl) (fun ev hc hf h0 => ?_) ?_ ?_; rotate_left 2; (focus (obtain ⟨e0, e1, e2, e3, e4, e5⟩ := HS.out _ hW0; first | (go_simp; done) | (go_simp; with_reducible rfl) | (go_simp; constructor <;> with_reducible rfl)))
    · simp only [Act.put, List.setIfInBounds_toArray, List.set_cons_zero, List.set_cons_succ]
      refine awt2 3 182 184 (o := ({ dst := some 185, op := Go.Op.indexAddr 99 (Go.Operand.tmp 182) (Go.Operand.tmp 184), type := 0, pos := "law.go:210", after := #[{ on := 0, ground := Go.Ground.data }, { on := 2, ground := Go.Ground.data }], guard := none })) (v := ?_) rfl (by kernel_rfl) (by kernel_rfl) (by kernel_rfl) (fun _ _ _ h => h) (by rfl) (by rfl) (by rfl) (fun ev hc hf h0 h1 W => ?_) ?_; rotate_left; (focus (first | (go_simp; done) | (go_simp; with_reducible rfl))); rotate_left; simp only [Act.put, List.setIfInBounds_toArray, List.set_cons_zero, List.set_cons_succ]
      exact EL_6
    refine arv1 (o := ({ dst := some 190, op := Go.Op.load 24 (Go.Operand.tmp 189), type := 24, pos := "law.go:210", after := #[{ on := 7, ground := Go.Ground.data }], guard := none })) 189 (v := ?_) (W' := ?_) rfl (by rfl) (by rfl) (fun ev hc hf h0 => ?_) ?_ ?_; rotate_left 2; (focus (obtain ⟨e0, e1, e2, e3, e4, e5⟩ := HS.out _ hW0; first | (go_simp; done) | (go_simp; with_reducible rfl) | (go_simp; constructor <;> with_reducible rfl)))
    · simp only [Act.put, List.setIfInBounds_toArray, List.set_cons_zero, List.set_cons_succ]
      exact EL_11
    exact ar_nil
  · refine aw_all [2, 6] (by kernel_rfl) (by simp) ?_
    refine arv1 (o := ({ dst := some 184, op := Go.Op.load 3 (Go.Operand.tmp 183), type := 3, pos := "law.go:210", after := #[{ on := 1, ground := Go.Ground.data }], guard := none })) 183 (v := ?_) (W' := ?_) rfl (by rfl) (by rfl) (fun ev hc hf h0 => ?_) ?_ ?_; rotate_left 2; (focus (obtain ⟨e0, e1, e2, e3, e4, e5⟩ := HS.out _ hW0; first | (go_simp; done) | (go_simp; with_reducible rfl) | (go_simp; constructor <;> with_reducible rfl)))
    · simp only [Act.put, List.setIfInBounds_toArray, List.set_cons_zero, List.set_cons_succ]
      refine awt2 3 182 184 (o := ({ dst := some 185, op := Go.Op.indexAddr 99 (Go.Operand.tmp 182) (Go.Operand.tmp 184), type := 0, pos := "law.go:210", after := #[{ on := 0, ground := Go.Ground.data }, { on := 2, ground := Go.Ground.data }], guard := none })) (v := ?_) rfl (by kernel_rfl) (by kernel_rfl) (by kernel_rfl) (fun _ _ _ h => h) (by rfl) (by rfl) (by rfl) (fun ev hc hf h0 h1 W => ?_) ?_; rotate_left; (focus (first | (go_simp; done) | (go_simp; with_reducible rfl))); rotate_left; simp only [Act.put, List.setIfInBounds_toArray, List.set_cons_zero, List.set_cons_succ]
      exact EL_5
    refine arv1 (o := ({ dst := some 188, op := Go.Op.load 3 (Go.Operand.tmp 187), type := 3, pos := "law.go:210", after := #[{ on := 5, ground := Go.Ground.data }], guard := none })) 187 (v := ?_) (W' := ?_) rfl (by rfl) (by rfl) (fun ev hc hf h0 => ?_) ?_ ?_; rotate_left 2; (focus (obtain ⟨e0, e1, e2, e3, e4, e5⟩ := HS.out _ hW0; first | (go_simp; done) | (go_simp; with_reducible rfl) | (go_simp; constructor <;> with_reducible rfl)))
    · simp only [Act.put, List.setIfInBounds_toArray, List.set_cons_zero, List.set_cons_succ]
      exact EL_11
    exact ar_nil
  · refine aw_all [6, 8, 10] (by kernel_rfl) (by simp) ?_
    refine arv1 (o := ({ dst := some 188, op := Go.Op.load 3 (Go.Operand.tmp 187), type := 3, pos := "law.go:210", after := #[{ on := 5, ground := Go.Ground.data }], guard := none })) 187 (v := ?_) (W' := ?_) rfl (by rfl) (by rfl) (fun ev hc hf h0 => ?_) ?_ ?_; rotate_left 2; (focus (obtain ⟨e0, e1, e2, e3, e4, e5⟩ := HS.out _ hW0; first | (go_simp; done) | (go_simp; with_reducible rfl) | (go_simp; constructor <;> with_reducible rfl)))
    · simp only [Act.put, List.setIfInBounds_toArray, List.set_cons_zero, List.set_cons_succ]
      exact EL_10
    refine arv1 (o := ({ dst := some 190, op := Go.Op.load 24 (Go.Operand.tmp 189), type := 24, pos := "law.go:210", after := #[{ on := 7, ground := Go.Ground.data }], guard := none })) 189 (v := ?_) (W' := ?_) rfl (by rfl) (by rfl) (fun ev hc hf h0 => ?_) ?_ ?_; rotate_left 2; (focus (obtain ⟨e0, e1, e2, e3, e4, e5⟩ := HS.out _ hW0; first | (go_simp; done) | (go_simp; with_reducible rfl) | (go_simp; constructor <;> with_reducible rfl)))
    · simp only [Act.put, List.setIfInBounds_toArray, List.set_cons_zero, List.set_cons_succ]
      exact EL_9
    refine arv1 (o := ({ dst := some 192, op := Go.Op.load 9 (Go.Operand.tmp 191), type := 9, pos := "law.go:210", after := #[{ on := 9, ground := Go.Ground.data }], guard := none })) 191 (v := ?_) (W' := ?_) rfl (by rfl) (by rfl) (fun ev hc hf h0 => ?_) ?_ ?_; rotate_left 2; (focus (obtain ⟨e0, e1, e2, e3, e4, e5⟩ := HS.out _ hW0; first | (go_simp; done) | (go_simp; with_reducible rfl) | (go_simp; constructor <;> with_reducible rfl)))
    · simp only [Act.put, List.setIfInBounds_toArray, List.set_cons_zero, List.set_cons_succ]
      exact EL_7
    exact ar_nil
  · refine aw_all [4, 8, 10] (by kernel_rfl) (by simp) ?_
    refine arv1 (o := ({ dst := some 186, op := Go.Op.load 67 (Go.Operand.tmp 185), type := 67, pos := "law.go:210", after := #[{ on := 3, ground := Go.Ground.data }], guard := none })) 185 (v := ?_) (W' := ?_) rfl (by rfl) (by rfl) (fun ev hc hf h0 => ?_) ?_ ?_; rotate_left 2; (focus (obtain ⟨e0, e1, e2, e3, e4, e5⟩ := HS.out _ hW0; first | (go_simp; done) | (go_simp; with_reducible rfl) | (go_simp; constructor <;> with_reducible rfl)))
    · simp only [Act.put, List.setIfInBounds_toArray, List.set_cons_zero, List.set_cons_succ]
      exact EL_10
    refine arv1 (o := ({ dst := some 190, op := Go.Op.load 24 (Go.Operand.tmp 189), type := 24, pos := "law.go:210", after := #[{ on := 7, ground := Go.Ground.data }], guard := none })) 189 (v := ?_) (W' := ?_) rfl (by rfl) (by rfl) (fun ev hc hf h0 => ?_) ?_ ?_; rotate_left 2; (focus (obtain ⟨e0, e1, e2, e3, e4, e5⟩ := HS.out _ hW0; first | (go_simp; done) | (go_simp; with_reducible rfl) | (go_simp; constructor <;> with_reducible rfl)))
    · simp only [Act.put, List.setIfInBounds_toArray, List.set_cons_zero, List.set_cons_succ]
      exact EL_8
    refine arv1 (o := ({ dst := some 192, op := Go.Op.load 9 (Go.Operand.tmp 191), type := 9, pos := "law.go:210", after := #[{ on := 9, ground := Go.Ground.data }], guard := none })) 191 (v := ?_) (W' := ?_) rfl (by rfl) (by rfl) (fun ev hc hf h0 => ?_) ?_ ?_; rotate_left 2; (focus (obtain ⟨e0, e1, e2, e3, e4, e5⟩ := HS.out _ hW0; first | (go_simp; done) | (go_simp; with_reducible rfl) | (go_simp; constructor <;> with_reducible rfl)))
    · simp only [Act.put, List.setIfInBounds_toArray, List.set_cons_zero, List.set_cons_succ]
      exact EL_6
    exact ar_nil
  · refine aw_all [4, 6, 10] (by kernel_rfl) (by simp) ?_
    refine arv1 (o := ({ dst := some 186, op := Go.Op.load 67 (Go.Operand.tmp 185), type := 67, pos := "law.go:210", after := #[{ on := 3, ground := Go.Ground.data }], guard := none })) 185 (v := ?_) (W' := ?_) rfl (by rfl) (by rfl) (fun ev hc hf h0 => ?_) ?_ ?_; rotate_left 2; (focus (obtain ⟨e0, e1, e2, e3, e4, e5⟩ := HS.out _ hW0; first | (go_simp; done) | (go_simp; with_reducible rfl) | (go_simp; constructor <;> with_reducible rfl)))
    · simp only [Act.put, List.setIfInBounds_toArray, List.set_cons_zero, List.set_cons_succ]
      exact EL_9
    refine arv1 (o := ({ dst := some 188, op := Go.Op.load 3 (Go.Operand.tmp 187), type := 3, pos := "law.go:210", after := #[{ on := 5, ground := Go.Ground.data }], guard := none })) 187 (v := ?_) (W' := ?_) rfl (by rfl) (by rfl) (fun ev hc hf h0 => ?_) ?_ ?_; rotate_left 2; (focus (obtain ⟨e0, e1, e2, e3, e4, e5⟩ := HS.out _ hW0; first | (go_simp; done) | (go_simp; with_reducible rfl) | (go_simp; constructor <;> with_reducible rfl)))
    · simp only [Act.put, List.setIfInBounds_toArray, List.set_cons_zero, List.set_cons_succ]
      exact EL_8
    refine arv1 (o := ({ dst := some 192, op := Go.Op.load 9 (Go.Operand.tmp 191), type := 9, pos := "law.go:210", after := #[{ on := 9, ground := Go.Ground.data }], guard := none })) 191 (v := ?_) (W' := ?_) rfl (by rfl) (by rfl) (fun ev hc hf h0 => ?_) ?_ ?_; rotate_left 2; (focus (obtain ⟨e0, e1, e2, e3, e4, e5⟩ := HS.out _ hW0; first | (go_simp; done) | (go_simp; with_reducible rfl) | (go_simp; constructor <;> with_reducible rfl)))
    · simp only [Act.put, List.setIfInBounds_toArray, List.set_cons_zero, List.set_cons_succ]
      exact EL_5
    exact ar_nil
  · refine aw_all [4, 6, 8] (by kernel_rfl) (by simp) ?_
    refine arv1 (o := ({ dst := some 186, op := Go.Op.load 67 (Go.Operand.tmp 185), type := 67, pos := "law.go:210", after := #[{ on := 3, ground := Go.Ground.data }], guard := none })) 185 (v := ?_) (W' := ?_) rfl (by rfl) (by rfl) (fun ev hc hf h0 => ?_) ?_ ?_; rotate_left 2; (focus (obtain ⟨e0, e1, e2, e3, e4, e5⟩ := HS.out _ hW0; first | (go_simp; done) | (go_simp; with_reducible rfl) | (go_simp; constructor <;> with_reducible rfl)))
    · simp only [Act.put, List.setIfInBounds_toArray, List.set_cons_zero, List.set_cons_succ]
      exact EL_7
    refine arv1 (o := ({ dst := some 188, op := Go.Op.load 3 (Go.Operand.tmp 187), type := 3, pos := "law.go:210", after := #[{ on := 5, ground := Go.Ground.data }], guard := none })) 187 (v := ?_) (W' := ?_) rfl (by rfl) (by rfl) (fun ev hc hf h0 => ?_) ?_ ?_; rotate_left 2; (focus (obtain ⟨e0, e1, e2, e3, e4, e5⟩ := HS.out _ hW0; first | (go_simp; done) | (go_simp; with_reducible rfl) | (go_simp; constructor <;> with_reducible rfl)))
    · simp only [Act.put, List.setIfInBounds_toArray, List.set_cons_zero, List.set_cons_succ]
      exact EL_6
    refine arv1 (o := ({ dst := some 190, op := Go.Op.load 24 (Go.Operand.tmp 189), type := 24, pos := "law.go:210", after := #[{ on := 7, ground := Go.Ground.data }], guard := none })) 189 (v := ?_) (W' := ?_) rfl (by rfl) (by rfl) (fun ev hc hf h0 => ?_) ?_ ?_; rotate_left 2; (focus (obtain ⟨e0, e1, e2, e3, e4, e5⟩ := HS.out _ hW0; first | (go_simp; done) | (go_simp; with_reducible rfl) | (go_simp; constructor <;> with_reducible rfl)))
    · simp only [Act.put, List.setIfInBounds_toArray, List.set_cons_zero, List.set_cons_succ]
      exact EL_5
    exact ar_nil
  · refine aw_all [2] (by kernel_rfl) (by simp) ?_
    refine arv1 (o := ({ dst := some 184, op := Go.Op.load 3 (Go.Operand.tmp 183), type := 3, pos := "law.go:210", after := #[{ on := 1, ground := Go.Ground.data }], guard := none })) 183 (v := ?_) (W' := ?_) rfl (by rfl) (by rfl) (fun ev hc hf h0 => ?_) ?_ ?_; rotate_left 2; (focus (obtain ⟨e0, e1, e2, e3, e4, e5⟩ := HS.out _ hW0; first | (go_simp; done) | (go_simp; with_reducible rfl) | (go_simp; constructor <;> with_reducible rfl)))
    · simp only [Act.put, List.setIfInBounds_toArray, List.set_cons_zero, List.set_cons_succ]
      refine awt2 3 182 184 (o := ({ dst := some 185, op := Go.Op.indexAddr 99 (Go.Operand.tmp 182) (Go.Operand.tmp 184), type := 0, pos := "law.go:210", after := #[{ on := 0, ground := Go.Ground.data }, { on := 2, ground := Go.Ground.data }], guard := none })) (v := ?_) rfl (by kernel_rfl) (by kernel_rfl) (by kernel_rfl) (fun _ _ _ h => h) (by rfl) (by rfl) (by rfl) (fun ev hc hf h0 h1 W => ?_) ?_; rotate_left; (focus (first | (go_simp; done) | (go_simp; with_reducible rfl))); rotate_left; simp only [Act.put, List.setIfInBounds_toArray, List.set_cons_zero, List.set_cons_succ]
      exact EL_1
    exact ar_nil
  · refine aw_all [8, 10] (by kernel_rfl) (by simp) ?_
    refine arv1 (o := ({ dst := some 190, op := Go.Op.load 24 (Go.Operand.tmp 189), type := 24, pos := "law.go:210", after := #[{ on := 7, ground := Go.Ground.data }], guard := none })) 189 (v := ?_) (W' := ?_) rfl (by rfl) (by rfl) (fun ev hc hf h0 => ?_) ?_ ?_; rotate_left 2; (focus (obtain ⟨e0, e1, e2, e3, e4, e5⟩ := HS.out _ hW0; first | (go_simp; done) | (go_simp; with_reducible rfl) | (go_simp; constructor <;> with_reducible rfl)))
    · simp only [Act.put, List.setIfInBounds_toArray, List.set_cons_zero, List.set_cons_succ]
      exact EL_4
    refine arv1 (o := ({ dst := some 192, op := Go.Op.load 9 (Go.Operand.tmp 191), type := 9, pos := "law.go:210", after := #[{ on := 9, ground := Go.Ground.data }], guard := none })) 191 (v := ?_) (W' := ?_) rfl (by rfl) (by rfl) (fun ev hc hf h0 => ?_) ?_ ?_; rotate_left 2; (focus (obtain ⟨e0, e1, e2, e3, e4, e5⟩ := HS.out _ hW0; first | (go_simp; done) | (go_simp; with_reducible rfl) | (go_simp; constructor <;> with_reducible rfl)))
    · simp only [Act.put, List.setIfInBounds_toArray, List.set_cons_zero, List.set_cons_succ]
      exact EL_3
    exact ar_nil
  · refine aw_all [6, 10] (by kernel_rfl) (by simp) ?_
    refine arv1 (o := ({ dst := some 188, op := Go.Op.load 3 (Go.Operand.tmp 187), type := 3, pos := "law.go:210", after := #[{ on := 5, ground := Go.Ground.data }], guard := none })) 187 (v := ?_) (W' := ?_) rfl (by rfl) (by rfl) (fun ev hc hf h0 => ?_) ?_ ?_; rotate_left 2; (focus (obtain ⟨e0, e1, e2, e3, e4, e5⟩ := HS.out _ hW0; first | (go_simp; done) | (go_simp; with_reducible rfl) | (go_simp; constructor <;> with_reducible rfl)))
    · simp only [Act.put, List.setIfInBounds_toArray, List.set_cons_zero, List.set_cons_succ]
      exact EL_4
    refine arv1 (o := ({ dst := some 192, op := Go.Op.load 9 (Go.Operand.tmp 191), type := 9, pos := "law.go:210", after := #[{ on := 9, ground := Go.Ground.data }], guard := none })) 191 (v := ?_) (W' := ?_) rfl (by rfl) (by rfl) (fun ev hc hf h0 => ?_) ?_ ?_; rotate_left 2; (focus (obtain ⟨e0, e1, e2, e3, e4, e5⟩ := HS.out _ hW0; first | (go_simp; done) | (go_simp; with_reducible rfl) | (go_simp; constructor <;> with_reducible rfl)))
    · simp only [Act.put, List.setIfInBounds_toArray, List.set_cons_zero, List.set_cons_succ]
      exact EL_2
    exact ar_nil
  · refine aw_all [4, 10] (by kernel_rfl) (by simp) ?_
    refine arv1 (o := ({ dst := some 186, op := Go.Op.load 67 (Go.Operand.tmp 185), type := 67, pos := "law.go:210", after := #[{ on := 3, ground := Go.Ground.data }], guard := none })) 185 (v := ?_) (W' := ?_) rfl (by rfl) (by rfl) (fun ev hc hf h0 => ?_) ?_ ?_; rotate_left 2; (focus (obtain ⟨e0, e1, e2, e3, e4, e5⟩ := HS.out _ hW0; first | (go_simp; done) | (go_simp; with_reducible rfl) | (go_simp; constructor <;> with_reducible rfl)))
    · simp only [Act.put, List.setIfInBounds_toArray, List.set_cons_zero, List.set_cons_succ]
      exact EL_4
    refine arv1 (o := ({ dst := some 192, op := Go.Op.load 9 (Go.Operand.tmp 191), type := 9, pos := "law.go:210", after := #[{ on := 9, ground := Go.Ground.data }], guard := none })) 191 (v := ?_) (W' := ?_) rfl (by rfl) (by rfl) (fun ev hc hf h0 => ?_) ?_ ?_; rotate_left 2; (focus (obtain ⟨e0, e1, e2, e3, e4, e5⟩ := HS.out _ hW0; first | (go_simp; done) | (go_simp; with_reducible rfl) | (go_simp; constructor <;> with_reducible rfl)))
    · simp only [Act.put, List.setIfInBounds_toArray, List.set_cons_zero, List.set_cons_succ]
      exact EL_1
    exact ar_nil
  · refine aw_all [6, 8] (by kernel_rfl) (by simp) ?_
    refine arv1 (o := ({ dst := some 188, op := Go.Op.load 3 (Go.Operand.tmp 187), type := 3, pos := "law.go:210", after := #[{ on := 5, ground := Go.Ground.data }], guard := none })) 187 (v := ?_) (W' := ?_) rfl (by rfl) (by rfl) (fun ev hc hf h0 => ?_) ?_ ?_; rotate_left 2; (focus (obtain ⟨e0, e1, e2, e3, e4, e5⟩ := HS.out _ hW0; first | (go_simp; done) | (go_simp; with_reducible rfl) | (go_simp; constructor <;> with_reducible rfl)))
    · simp only [Act.put, List.setIfInBounds_toArray, List.set_cons_zero, List.set_cons_succ]
      exact EL_3
    refine arv1 (o := ({ dst := some 190, op := Go.Op.load 24 (Go.Operand.tmp 189), type := 24, pos := "law.go:210", after := #[{ on := 7, ground := Go.Ground.data }], guard := none })) 189 (v := ?_) (W' := ?_) rfl (by rfl) (by rfl) (fun ev hc hf h0 => ?_) ?_ ?_; rotate_left 2; (focus (obtain ⟨e0, e1, e2, e3, e4, e5⟩ := HS.out _ hW0; first | (go_simp; done) | (go_simp; with_reducible rfl) | (go_simp; constructor <;> with_reducible rfl)))
    · simp only [Act.put, List.setIfInBounds_toArray, List.set_cons_zero, List.set_cons_succ]
      exact EL_2
    exact ar_nil
  · refine aw_all [4, 8] (by kernel_rfl) (by simp) ?_
    refine arv1 (o := ({ dst := some 186, op := Go.Op.load 67 (Go.Operand.tmp 185), type := 67, pos := "law.go:210", after := #[{ on := 3, ground := Go.Ground.data }], guard := none })) 185 (v := ?_) (W' := ?_) rfl (by rfl) (by rfl) (fun ev hc hf h0 => ?_) ?_ ?_; rotate_left 2; (focus (obtain ⟨e0, e1, e2, e3, e4, e5⟩ := HS.out _ hW0; first | (go_simp; done) | (go_simp; with_reducible rfl) | (go_simp; constructor <;> with_reducible rfl)))
    · simp only [Act.put, List.setIfInBounds_toArray, List.set_cons_zero, List.set_cons_succ]
      exact EL_3
    refine arv1 (o := ({ dst := some 190, op := Go.Op.load 24 (Go.Operand.tmp 189), type := 24, pos := "law.go:210", after := #[{ on := 7, ground := Go.Ground.data }], guard := none })) 189 (v := ?_) (W' := ?_) rfl (by rfl) (by rfl) (fun ev hc hf h0 => ?_) ?_ ?_; rotate_left 2; (focus (obtain ⟨e0, e1, e2, e3, e4, e5⟩ := HS.out _ hW0; first | (go_simp; done) | (go_simp; with_reducible rfl) | (go_simp; constructor <;> with_reducible rfl)))
    · simp only [Act.put, List.setIfInBounds_toArray, List.set_cons_zero, List.set_cons_succ]
      exact EL_1
    exact ar_nil
  · refine aw_all [4, 6] (by kernel_rfl) (by simp) ?_
    refine arv1 (o := ({ dst := some 186, op := Go.Op.load 67 (Go.Operand.tmp 185), type := 67, pos := "law.go:210", after := #[{ on := 3, ground := Go.Ground.data }], guard := none })) 185 (v := ?_) (W' := ?_) rfl (by rfl) (by rfl) (fun ev hc hf h0 => ?_) ?_ ?_; rotate_left 2; (focus (obtain ⟨e0, e1, e2, e3, e4, e5⟩ := HS.out _ hW0; first | (go_simp; done) | (go_simp; with_reducible rfl) | (go_simp; constructor <;> with_reducible rfl)))
    · simp only [Act.put, List.setIfInBounds_toArray, List.set_cons_zero, List.set_cons_succ]
      exact EL_2
    refine arv1 (o := ({ dst := some 188, op := Go.Op.load 3 (Go.Operand.tmp 187), type := 3, pos := "law.go:210", after := #[{ on := 5, ground := Go.Ground.data }], guard := none })) 187 (v := ?_) (W' := ?_) rfl (by rfl) (by rfl) (fun ev hc hf h0 => ?_) ?_ ?_; rotate_left 2; (focus (obtain ⟨e0, e1, e2, e3, e4, e5⟩ := HS.out _ hW0; first | (go_simp; done) | (go_simp; with_reducible rfl) | (go_simp; constructor <;> with_reducible rfl)))
    · simp only [Act.put, List.setIfInBounds_toArray, List.set_cons_zero, List.set_cons_succ]
      exact EL_1
    exact ar_nil
  · refine aw_all [10] (by kernel_rfl) (by simp) ?_
    refine arv1 (o := ({ dst := some 192, op := Go.Op.load 9 (Go.Operand.tmp 191), type := 9, pos := "law.go:210", after := #[{ on := 9, ground := Go.Ground.data }], guard := none })) 191 (v := ?_) (W' := ?_) rfl (by rfl) (by rfl) (fun ev hc hf h0 => ?_) ?_ ?_; rotate_left 2; (focus (obtain ⟨e0, e1, e2, e3, e4, e5⟩ := HS.out _ hW0; first | (go_simp; done) | (go_simp; with_reducible rfl) | (go_simp; constructor <;> with_reducible rfl)))
    · simp only [Act.put, List.setIfInBounds_toArray, List.set_cons_zero, List.set_cons_succ]
      exact EL_0
    exact ar_nil
  · refine aw_all [8] (by kernel_rfl) (by simp) ?_
    refine arv1 (o := ({ dst := some 190, op := Go.Op.load 24 (Go.Operand.tmp 189), type := 24, pos := "law.go:210", after := #[{ on := 7, ground := Go.Ground.data }], guard := none })) 189 (v := ?_) (W' := ?_) rfl (by rfl) (by rfl) (fun ev hc hf h0 => ?_) ?_ ?_; rotate_left 2; (focus (obtain ⟨e0, e1, e2, e3, e4, e5⟩ := HS.out _ hW0; first | (go_simp; done) | (go_simp; with_reducible rfl) | (go_simp; constructor <;> with_reducible rfl)))
    · simp only [Act.put, List.setIfInBounds_toArray, List.set_cons_zero, List.set_cons_succ]
      exact EL_0
    exact ar_nil
  · refine aw_all [6] (by kernel_rfl) (by simp) ?_
    refine arv1 (o := ({ dst := some 188, op := Go.Op.load 3 (Go.Operand.tmp 187), type := 3, pos := "law.go:210", after := #[{ on := 5, ground := Go.Ground.data }], guard := none })) 187 (v := ?_) (W' := ?_) rfl (by rfl) (by rfl) (fun ev hc hf h0 => ?_) ?_ ?_; rotate_left 2; (focus (obtain ⟨e0, e1, e2, e3, e4, e5⟩ := HS.out _ hW0; first | (go_simp; done) | (go_simp; with_reducible rfl) | (go_simp; constructor <;> with_reducible rfl)))
    · simp only [Act.put, List.setIfInBounds_toArray, List.set_cons_zero, List.set_cons_succ]
      exact EL_0
    exact ar_nil
  · refine aw_all [4] (by kernel_rfl) (by simp) ?_
    refine arv1 (o := ({ dst := some 186, op := Go.Op.load 67 (Go.Operand.tmp 185), type := 67, pos := "law.go:210", after := #[{ on := 3, ground := Go.Ground.data }], guard := none })) 185 (v := ?_) (W' := ?_) rfl (by rfl) (by rfl) (fun ev hc hf h0 => ?_) ?_ ?_; rotate_left 2; (focus (obtain ⟨e0, e1, e2, e3, e4, e5⟩ := HS.out _ hW0; first | (go_simp; done) | (go_simp; with_reducible rfl) | (go_simp; constructor <;> with_reducible rfl)))
    · simp only [Act.put, List.setIfInBounds_toArray, List.set_cons_zero, List.set_cons_succ]
      exact EL_0
    exact ar_nil
  refine aw_all [11] (by kernel_rfl) (by simp) ?_
  refine arc4 (o := ({ dst := some 193, op := Go.Op.call { callee := Go.Callee.value (Go.Operand.func 45), args := #[Go.Operand.tmp 186, Go.Operand.tmp 188, Go.Operand.tmp 190, Go.Operand.tmp 192], argTypes := #[67, 3, 24, 9] }, type := 35, pos := "law.go:210", after := #[{ on := 4, ground := Go.Ground.data }, { on := 6, ground := Go.Ground.data }, { on := 8, ground := Go.Ground.data }, { on := 10, ground := Go.Ground.data }], guard := none })) 186 188 190 192 _ _ _ rfl (by rfl) (by rfl) (by rfl) (by rfl) (by rfl) (fun ev hc hf h0 h1 h2 h3 => ?_) HAC.out (fun w9 hc9 => ?_) ?_
  · focus (go_simp; done)
  · simp only [Act.put, List.setIfInBounds_toArray, List.set_cons_zero, List.set_cons_succ]
    refine awt1 12 193 (o := ({ dst := some 181, op := Go.Op.move (Go.Operand.tmp 193), type := 35, pos := "law.go:210", after := #[{ on := 11, ground := Go.Ground.data }], guard := none })) (v := ?_) rfl (by kernel_rfl) (by kernel_rfl) (by kernel_rfl) (fun _ _ _ h => h) (by rfl) (by rfl) (fun ev hc hf h0 W => ?_) ?_; rotate_left; (focus (first | (go_simp; done) | (go_simp; with_reducible rfl))); rotate_left; simp only [Act.put, List.setIfInBounds_toArray, List.set_cons_zero, List.set_cons_succ]
    refine awt1 13 181 (o := ({ dst := some 194, op := Go.Op.extract (Go.Operand.tmp 181) 0, type := 4, pos := "law.go:210", after := #[{ on := 12, ground := Go.Ground.data }], guard := none })) (v := ?_) rfl (by kernel_rfl) (by kernel_rfl) (by kernel_rfl) (fun _ _ _ h => h) (by rfl) (by rfl) (fun ev hc hf h0 W => ?_) ?_; rotate_left; (focus (first | (go_simp; done) | (go_simp; with_reducible rfl))); rotate_left; simp only [Act.put, List.setIfInBounds_toArray, List.set_cons_zero, List.set_cons_succ]
    refine awt1 14 181 (o := ({ dst := some 195, op := Go.Op.extract (Go.Operand.tmp 181) 1, type := 30, pos := "law.go:210", after := #[{ on := 12, ground := Go.Ground.data }, { on := 15, ground := Go.Ground.gcOnly Go.Departure.lateStores }], guard := none })) (v := ?_) rfl (by kernel_rfl) (by kernel_rfl) (by kernel_rfl) (fun _ _ _ h => h) (by rfl) (by rfl) (fun ev hc hf h0 W => ?_) ?_; rotate_left; (focus (first | (go_simp; done) | (go_simp; with_reducible rfl))); rotate_left; simp only [Act.put, List.setIfInBounds_toArray, List.set_cons_zero, List.set_cons_succ]
    refine awt1 15 194 (o := ({ dst := some 26, op := Go.Op.assign (Go.Operand.tmp 194), type := 4, pos := "law.go:210", after := #[{ on := 13, ground := Go.Ground.data }, { on := 11, ground := Go.Ground.chain }, { on := 0, ground := Go.Ground.phase }, { on := 1, ground := Go.Ground.phase }, { on := 2, ground := Go.Ground.phase }, { on := 3, ground := Go.Ground.phase }, { on := 4, ground := Go.Ground.phase }, { on := 5, ground := Go.Ground.phase }, { on := 6, ground := Go.Ground.phase }, { on := 7, ground := Go.Ground.phase }, { on := 8, ground := Go.Ground.phase }, { on := 9, ground := Go.Ground.phase }, { on := 10, ground := Go.Ground.phase }, { on := 11, ground := Go.Ground.phase }, { on := 12, ground := Go.Ground.phase }, { on := 13, ground := Go.Ground.phase }, { on := 14, ground := Go.Ground.textOnly Go.Departure.lateStores }], guard := none })) (v := ?_) rfl (by kernel_rfl) (by kernel_rfl) (by kernel_rfl) (fun _ _ _ h => h) (by rfl) (by rfl) (fun ev hc hf h0 W => ?_) ?_; rotate_left; (focus (first | (go_simp; done) | (go_simp; with_reducible rfl))); rotate_left; simp only [Act.put, List.setIfInBounds_toArray, List.set_cons_zero, List.set_cons_succ]
    refine awt1 16 195 (o := ({ dst := some 27, op := Go.Op.assign (Go.Operand.tmp 195), type := 30, pos := "law.go:210", after := #[{ on := 14, ground := Go.Ground.data }, { on := 15, ground := Go.Ground.chain }, { on := 0, ground := Go.Ground.phase }, { on := 1, ground := Go.Ground.phase }, { on := 2, ground := Go.Ground.phase }, { on := 3, ground := Go.Ground.phase }, { on := 4, ground := Go.Ground.phase }, { on := 5, ground := Go.Ground.phase }, { on := 6, ground := Go.Ground.phase }, { on := 7, ground := Go.Ground.phase }, { on := 8, ground := Go.Ground.phase }, { on := 9, ground := Go.Ground.phase }, { on := 10, ground := Go.Ground.phase }, { on := 11, ground := Go.Ground.phase }, { on := 12, ground := Go.Ground.phase }, { on := 13, ground := Go.Ground.phase }, { on := 14, ground := Go.Ground.phase }, { on := 15, ground := Go.Ground.phase }], guard := none })) (v := ?_) rfl (by kernel_rfl) (by kernel_rfl) (by kernel_rfl) (fun _ _ _ h => h) (by rfl) (by rfl) (fun ev hc hf h0 W => ?_) ?_; rotate_left; (focus (first | (go_simp; done) | (go_simp; with_reducible rfl))); rotate_left; simp only [Act.put, List.setIfInBounds_toArray, List.set_cons_zero, List.set_cons_succ]
    refine aw_done (by kernel_rfl) ?_
    have hOnly : Only col (.lrn p) w1.drew w9 := Kept.wide hc9.2 (fun k hk => by
      rcases hk with rfl | rfl
      · exact (M0.out.lrn p hp).2.1
      · exact (M0.out.lrn p hp).2.2)
    have HT := Lib.hid (show Taken W col S A gA gL mL sn (.slice (some ⟨bh, 0, none⟩) S.N ch) sa M w9 (.slice none 0 0) col (S.hear p (lAcc (S.ln p) (tn : Int) r n u).2.2) A pp [] from
      ⟨(M0.out.keep hW0).lrn_turn hp _ hc9.1 hOnly, HST.out.2.1, HST.out.2.2, rfl, (fun m hm => by cases hm), World.ownsRow_nil _ _ _ _, Nat.zero_le _, (Kept.of_below HB0.out).trans ((Kept.of_below hW0).trans (hOnly.far (by simp) (by simp))), fun _ _ => rfl, ⟨fun k hk => by
        show (if k = p then (lAcc (S.ln p) (tn : Int) r n u).2.2 else S.ln k).nn ≤ M + 1
        split
        · have := lAcc_nn1 (S.ln p) tn r n u
          have := HS0.out.1 p hp
          omega
        · exact Nat.le_succ_of_le (HS0.out.1 k hk), fun q Q hQ => Nat.le_succ_of_le (HS0.out.2 q Q hQ)⟩⟩)
    clear HAC HST HS hW0 hc9 hOnly B0 M0 HB0
    go_wp2_with fail
    exact bodyPost_ret (v := .tuple #[.slice none 0 0, .bool true]) (by simp [results, Try.results55, go_sem]) rfl ⟨_, _, _, _, _, _, rfl, HT.out⟩
  exact ar_nil

end Go.Proofs.Ytlgljcfkoakogaa
