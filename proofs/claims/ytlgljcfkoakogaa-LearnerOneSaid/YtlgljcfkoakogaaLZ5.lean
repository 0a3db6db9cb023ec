import Derived.Test.YtlgljcfkoakogaaLZ4
import Derived.OwnWalk
import Derived.Deep.DeepCutAuto
namespace Go.Proofs.Ytlgljcfkoakogaa
open Go.RowKit
set_option linter.unusedSimpArgs false
set_option linter.unusedVariables false


open Go.Maps Go.Shelf
set_option maxRecDepth 100000
set_option maxHeartbeats 6400000
theorem get_ps {S : Sys} {A : Nat → Int → Prop} (hI : Inv S A) {p : Nat} (hp : p < S.ps.length) : ∃ P, S.ps[p]? = some P ∧ P.r = (p : Int) + 1 ∧ P.n = S.nd ((p : Int) + 1) ∧ POk S.N P ∧ S.at ((p : Int) + 1) = some P := by
  have hP := List.getElem?_eq_getElem hp
  have hat := at_get hP
  refine ⟨_, hP, (hI.bal _ _ hP).1, ?_, (hI.bal _ _ hP).2, hat⟩
  unfold Sys.nd
  rw [hat]
theorem taken3 {W : World} {col : Nat → Col} {S : Sys} {A : Nat → Int → Prop} {gA gL mL : Nat → Nat} {pp : Nat → PAt} {sn sh sa : Value} {M : Nat} (h : Mem W col S gA gL mL pp sn sh sa) (hI : Inv S A) (hS : Small S M) (hM : M < 999999) (p tn : Nat) (r n : Int) (c : Vt) (u : ByteArray) (hm : MsgOk S A ⟨3, p, tn, r, n, c, u⟩) :
    Calls Try.prog 55 #[.agg #[.int .i64 3, .int .i64 (p : Nat), .int .i64 (tn : Nat), .int .u64 r, .int .i64 n, .bool c.has, .int .u64 c.r, .int .i64 c.n, .string c.val, .string u], sn, sh, sa, .int .i64 S.N] W (TakenPost W col S A gA gL mL sn sh sa M) := by
  have hkk : p < S.ps.length ∧ r = (p : Int) + 1 ∧ n = S.nd r ∧ A tn r := by
    rcases hm.kinds with ⟨h0, _⟩ | ⟨h0, _⟩ | ⟨h0, _⟩ | ⟨_, h1, h2⟩ | ⟨h0, _⟩
    · cases h0
    · cases h0
    · cases h0
    · exact ⟨h1.p, h1.r, h1.n, h2⟩
    · cases h0
  obtain ⟨hp, rfl, rfl, hA⟩ := hkk
  have htn : tn < S.N := hm.tn
  obtain ⟨P, hP, hPr, hPn, hPok, hPat⟩ := get_ps hI hp
  have hen : enB P.N P.order.length = true := by
    obtain ⟨Q, hQ, hq⟩ := (hI.a1 _ _ hA).2.2.1
    rw [hPat] at hQ
    injection hQ with hQ
    subst hQ
    rw [hPok.hN]
    exact hq
  have hnm : mayB ((p : Int) + 1) (S.nd ((p : Int) + 1)) = true := (named_split (named_all hI (r := (p : Int) + 1) (by rw [hPat]; simp))).1
  generalize hnn : S.nd ((p : Int) + 1) = n at *
  generalize hrr : (p : Int) + 1 = r at *
  have hb0 := (Below.refl W.heap.size W).alloc (Nat.le_refl _) (.cells #[.int .i64 3, .int .i64 (p : Nat), .int .i64 (tn : Nat), .int .u64 r, .int .i64 n, .bool c.has, .int .u64 c.r, .int .i64 c.n, .string c.val, .string u] 105)
  have B0 := Lib.hid (Bk.new W #[.int .i64 3, .int .i64 (p : Nat), .int .i64 (tn : Nat), .int .u64 r, .int .i64 n, .bool c.has, .int .u64 c.r, .int .i64 c.n, .string c.val, .string u] 105)
  have M0 := Lib.hid (h.keep hb0)
  have HH := Lib.hid hI
  have HS0 := Lib.hid hS
  have HB0 := Lib.hid hb0
  have HP := Lib.hid (And.intro hP (And.intro hA (And.intro hPr hPn)))
  have hrr' := Lib.hid hrr
  obtain ⟨ba, ca, rfl, hcell⟩ := ptr_cell M0.out.all.1 hp
  have k0 : (W.alloc (.cells #[.int .i64 3, .int .i64 (p : Nat), .int .i64 (tn : Nat), .int .u64 r, .int .i64 n, .bool c.has, .int .u64 c.r, .int .i64 c.n, .string c.val, .string u] 105)).cell? ⟨W.heap.size, 0, none⟩ = some (.int .i64 3) := B0.out.cell 0
  clear h hI hS hm hb0 hP hA hPr hPn hnn hrr hPat hPok
  go_enter Try.func55, Try.ntmps55
  go_upto_region 29 with fail
  generalize W.alloc (.cells #[.int .i64 3, .int .i64 (p : Nat), .int .i64 (tn : Nat), .int .u64 r, .int .i64 n, .bool c.has, .int .u64 c.r, .int .i64 c.n, .string c.val, .string u] 105) = w1 at B0 M0 HB0 hcell ⊢
  have HS := Lib.hid (show ∀ w', Bel w1 w' → w'.cell? ⟨ba, p, none⟩ = some (.pointer (some ⟨(pp p).g, 0, none⟩)) ∧ w'.cell? ⟨W.heap.size, 1, none⟩ = some (.int .i64 (p : Nat)) ∧ w'.cell? ⟨W.heap.size, 2, none⟩ = some (.int .i64 (tn : Nat)) ∧ w'.cell? ⟨W.heap.size, 3, none⟩ = some (.int .u64 r) ∧ w'.cell? ⟨W.heap.size, 4, none⟩ = some (.int .i64 n) from
    fun w' hw => ⟨Bel.cell hw hcell, (B0.out.bel hw).cell 1, (B0.out.bel hw).cell 2, (B0.out.bel hw).cell 3, (B0.out.bel hw).cell 4⟩)
  have hW0 : Bel w1 w1.drew := (Bel.refl w1).drew
  have hPA := (M0.out.prp p P HP.out.1).1.keep hW0
  have hac := paccepted_any (tn : Int) hPA (by omega) (by rw [((HH.out.bal _ _ HP.out.1).2).hN]; omega) (by rw [HP.out.2.2.1, HP.out.2.2.2]; exact hnm) hen (by have := HS0.out.2 p P HP.out.1; omega)
  rw [HP.out.2.2.1, HP.out.2.2.2] at hac
  have HAC := Lib.hid hac
  have HPA := Lib.hid hPA
  have hps : (p : Int) < (S.ps.length : Int) := by omega
  clear hac hcell hPA hnm
  refine wp_aw 15 #[false, false, false, false, false, false, false, false, false, false, false, false, false, false, false] rfl rfl ?_
  refine aw_join 6 ?LEA_0 ?FEA_0 w1.drew (fun EA_0 => ?_) ?_; rotate_left 2
  refine aw_join 7 ?LEA_1 ?FEA_1 w1.drew (fun EA_1 => ?_) ?_; rotate_left 2
  refine aw_join 7 ?LEA_2 ?FEA_2 w1.drew (fun EA_2 => ?_) ?_; rotate_left 2
  refine aw_join 7 ?LEA_3 ?FEA_3 w1.drew (fun EA_3 => ?_) ?_; rotate_left 2
  refine aw_join 8 ?LEA_4 ?FEA_4 w1.drew (fun EA_4 => ?_) ?_; rotate_left 2
  refine aw_join 8 ?LEA_5 ?FEA_5 w1.drew (fun EA_5 => ?_) ?_; rotate_left 2
  refine aw_join 8 ?LEA_6 ?FEA_6 w1.drew (fun EA_6 => ?_) ?_; rotate_left 2
  refine aw_join 9 ?LEA_7 ?FEA_7 w1.drew (fun EA_7 => ?_) ?_; rotate_left 2
  refine aw_join 9 ?LEA_8 ?FEA_8 w1.drew (fun EA_8 => ?_) ?_; rotate_left 2
  refine aw_join 10 ?LEA_9 ?FEA_9 w1.drew (fun EA_9 => ?_) ?_; rotate_left 2
  refine aw_join 10 ?LEA_10 ?FEA_10 w1.drew (fun EA_10 => ?_) ?_; rotate_left 2
  · refine awt1 0 3 (o := ({ dst := some 165, op := Go.Op.move (Go.Operand.tmp 3), type := 100, pos := "law.go:207", after := #[], guard := none })) (v := ?_) rfl (by kernel_rfl) (by kernel_rfl) (by kernel_rfl) (fun _ _ _ h => h) (by rfl) (by rfl) (fun ev hc hf h0 W => ?_) ?_; rotate_left; (focus (first | (go_simp; done) | (go_simp; with_reducible rfl))); rotate_left; simp only [Act.put, List.setIfInBounds_toArray, List.set_cons_zero, List.set_cons_succ]
    refine awt1 1 5 (o := ({ dst := some 166, op := Go.Op.fieldAddr 105 (Go.Operand.tmp 5) 1, type := 0, pos := "law.go:207", after := #[], guard := none })) (v := ?_) rfl (by kernel_rfl) (by kernel_rfl) (by kernel_rfl) (fun _ _ _ h => h) (by rfl) (by rfl) (fun ev hc hf h0 W => ?_) ?_; rotate_left; (focus (first | (go_simp; done) | (go_simp; with_reducible rfl))); rotate_left; simp only [Act.put, List.setIfInBounds_toArray, List.set_cons_zero, List.set_cons_succ]
    refine awt1 5 5 (o := ({ dst := some 170, op := Go.Op.fieldAddr 105 (Go.Operand.tmp 5) 2, type := 0, pos := "law.go:207", after := #[], guard := none })) (v := ?_) rfl (by kernel_rfl) (by kernel_rfl) (by kernel_rfl) (fun _ _ _ h => h) (by rfl) (by rfl) (fun ev hc hf h0 W => ?_) ?_; rotate_left; (focus (first | (go_simp; done) | (go_simp; with_reducible rfl))); rotate_left; simp only [Act.put, List.setIfInBounds_toArray, List.set_cons_zero, List.set_cons_succ]
    refine awt1 7 5 (o := ({ dst := some 172, op := Go.Op.fieldAddr 105 (Go.Operand.tmp 5) 3, type := 0, pos := "law.go:207", after := #[], guard := none })) (v := ?_) rfl (by kernel_rfl) (by kernel_rfl) (by kernel_rfl) (fun _ _ _ h => h) (by rfl) (by rfl) (fun ev hc hf h0 W => ?_) ?_; rotate_left; (focus (first | (go_simp; done) | (go_simp; with_reducible rfl))); rotate_left; simp only [Act.put, List.setIfInBounds_toArray, List.set_cons_zero, List.set_cons_succ]
    refine aw_all [2, 6, 8] (by kernel_rfl) (by simp) ?_
    refine arv1 (o := ({ dst := some 167, op := Go.Op.load 3 (Go.Operand.tmp 166), type := 3, pos := "law.go:207", after := #[{ on := 1, ground := Go.Ground.data }], guard := none })) 166 (v := ?_) (W' := ?_) rfl (by rfl) (by rfl) (fun ev hc hf h0 => ?_) ?_ ?_; rotate_left 2; (focus (obtain ⟨e0, e1, e2, e3, e4⟩ := HS.out _ hW0; first | (go_simp; done) | (go_simp; with_reducible rfl) | (go_simp; constructor <;> with_reducible rfl)))
    · simp only [Act.put, List.setIfInBounds_toArray, List.set_cons_zero, List.set_cons_succ]
      refine awt2 3 165 167 (o := ({ dst := some 168, op := Go.Op.indexAddr 100 (Go.Operand.tmp 165) (Go.Operand.tmp 167), type := 0, pos := "law.go:207", after := #[{ on := 0, ground := Go.Ground.data }, { on := 2, ground := Go.Ground.data }], guard := none })) (v := ?_) rfl (by kernel_rfl) (by kernel_rfl) (by kernel_rfl) (fun _ _ _ h => h) (by rfl) (by rfl) (by rfl) (fun ev hc hf h0 h1 W => ?_) ?_; rotate_left; (focus (first | (go_simp; done) | (go_simp; with_reducible rfl))); rotate_left; simp only [Act.put, List.setIfInBounds_toArray, List.set_cons_zero, List.set_cons_succ]
      exact EA_8
    refine arv1 (o := ({ dst := some 171, op := Go.Op.load 3 (Go.Operand.tmp 170), type := 3, pos := "law.go:207", after := #[{ on := 5, ground := Go.Ground.data }], guard := none })) 170 (v := ?_) (W' := ?_) rfl (by rfl) (by rfl) (fun ev hc hf h0 => ?_) ?_ ?_; rotate_left 2; (focus (obtain ⟨e0, e1, e2, e3, e4⟩ := HS.out _ hW0; first | (go_simp; done) | (go_simp; with_reducible rfl) | (go_simp; constructor <;> with_reducible rfl)))
    · simp only [Act.put, List.setIfInBounds_toArray, List.set_cons_zero, List.set_cons_succ]
      exact EA_10
    refine arv1 (o := ({ dst := some 173, op := Go.Op.load 24 (Go.Operand.tmp 172), type := 24, pos := "law.go:207", after := #[{ on := 7, ground := Go.Ground.data }], guard := none })) 172 (v := ?_) (W' := ?_) rfl (by rfl) (by rfl) (fun ev hc hf h0 => ?_) ?_ ?_; rotate_left 2; (focus (obtain ⟨e0, e1, e2, e3, e4⟩ := HS.out _ hW0; first | (go_simp; done) | (go_simp; with_reducible rfl) | (go_simp; constructor <;> with_reducible rfl)))
    · simp only [Act.put, List.setIfInBounds_toArray, List.set_cons_zero, List.set_cons_succ]
      exact EA_9
    exact ar_nil
  · refine aw_all [2, 8] (by kernel_rfl) (by simp) ?_
    refine arv1 (o := ({ dst := some 167, op := Go.Op.load 3 (Go.Operand.tmp 166), type := 3, pos := "law.go:207", after := #[{ on := 1, ground := Go.Ground.data }], guard := none })) 166 (v := ?_) (W' := ?_) rfl (by rfl) (by rfl) (fun ev hc hf h0 => ?_) ?_ ?_; rotate_left 2; (focus (obtain ⟨e0, e1, e2, e3, e4⟩ := HS.out _ hW0; first | (go_simp; done) | (go_simp; with_reducible rfl) | (go_simp; constructor <;> with_reducible rfl)))
    · simp only [Act.put, List.setIfInBounds_toArray, List.set_cons_zero, List.set_cons_succ]
      refine awt2 3 165 167 (o := ({ dst := some 168, op := Go.Op.indexAddr 100 (Go.Operand.tmp 165) (Go.Operand.tmp 167), type := 0, pos := "law.go:207", after := #[{ on := 0, ground := Go.Ground.data }, { on := 2, ground := Go.Ground.data }], guard := none })) (v := ?_) rfl (by kernel_rfl) (by kernel_rfl) (by kernel_rfl) (fun _ _ _ h => h) (by rfl) (by rfl) (by rfl) (fun ev hc hf h0 h1 W => ?_) ?_; rotate_left; (focus (first | (go_simp; done) | (go_simp; with_reducible rfl))); rotate_left; simp only [Act.put, List.setIfInBounds_toArray, List.set_cons_zero, List.set_cons_succ]
      exact EA_5
    refine arv1 (o := ({ dst := some 173, op := Go.Op.load 24 (Go.Operand.tmp 172), type := 24, pos := "law.go:207", after := #[{ on := 7, ground := Go.Ground.data }], guard := none })) 172 (v := ?_) (W' := ?_) rfl (by rfl) (by rfl) (fun ev hc hf h0 => ?_) ?_ ?_; rotate_left 2; (focus (obtain ⟨e0, e1, e2, e3, e4⟩ := HS.out _ hW0; first | (go_simp; done) | (go_simp; with_reducible rfl) | (go_simp; constructor <;> with_reducible rfl)))
    · simp only [Act.put, List.setIfInBounds_toArray, List.set_cons_zero, List.set_cons_succ]
      exact EA_7
    exact ar_nil
  · refine aw_all [2, 6] (by kernel_rfl) (by simp) ?_
    refine arv1 (o := ({ dst := some 167, op := Go.Op.load 3 (Go.Operand.tmp 166), type := 3, pos := "law.go:207", after := #[{ on := 1, ground := Go.Ground.data }], guard := none })) 166 (v := ?_) (W' := ?_) rfl (by rfl) (by rfl) (fun ev hc hf h0 => ?_) ?_ ?_; rotate_left 2; (focus (obtain ⟨e0, e1, e2, e3, e4⟩ := HS.out _ hW0; first | (go_simp; done) | (go_simp; with_reducible rfl) | (go_simp; constructor <;> with_reducible rfl)))
    · simp only [Act.put, List.setIfInBounds_toArray, List.set_cons_zero, List.set_cons_succ]
      refine awt2 3 165 167 (o := ({ dst := some 168, op := Go.Op.indexAddr 100 (Go.Operand.tmp 165) (Go.Operand.tmp 167), type := 0, pos := "law.go:207", after := #[{ on := 0, ground := Go.Ground.data }, { on := 2, ground := Go.Ground.data }], guard := none })) (v := ?_) rfl (by kernel_rfl) (by kernel_rfl) (by kernel_rfl) (fun _ _ _ h => h) (by rfl) (by rfl) (by rfl) (fun ev hc hf h0 h1 W => ?_) ?_; rotate_left; (focus (first | (go_simp; done) | (go_simp; with_reducible rfl))); rotate_left; simp only [Act.put, List.setIfInBounds_toArray, List.set_cons_zero, List.set_cons_succ]
      exact EA_4
    refine arv1 (o := ({ dst := some 171, op := Go.Op.load 3 (Go.Operand.tmp 170), type := 3, pos := "law.go:207", after := #[{ on := 5, ground := Go.Ground.data }], guard := none })) 170 (v := ?_) (W' := ?_) rfl (by rfl) (by rfl) (fun ev hc hf h0 => ?_) ?_ ?_; rotate_left 2; (focus (obtain ⟨e0, e1, e2, e3, e4⟩ := HS.out _ hW0; first | (go_simp; done) | (go_simp; with_reducible rfl) | (go_simp; constructor <;> with_reducible rfl)))
    · simp only [Act.put, List.setIfInBounds_toArray, List.set_cons_zero, List.set_cons_succ]
      exact EA_7
    exact ar_nil
  · refine aw_all [4, 6, 8] (by kernel_rfl) (by simp) ?_
    refine arv1 (o := ({ dst := some 169, op := Go.Op.load 86 (Go.Operand.tmp 168), type := 86, pos := "law.go:207", after := #[{ on := 3, ground := Go.Ground.data }], guard := none })) 168 (v := ?_) (W' := ?_) rfl (by rfl) (by rfl) (fun ev hc hf h0 => ?_) ?_ ?_; rotate_left 2; (focus (obtain ⟨e0, e1, e2, e3, e4⟩ := HS.out _ hW0; first | (go_simp; done) | (go_simp; with_reducible rfl) | (go_simp; constructor <;> with_reducible rfl)))
    · simp only [Act.put, List.setIfInBounds_toArray, List.set_cons_zero, List.set_cons_succ]
      exact EA_6
    refine arv1 (o := ({ dst := some 171, op := Go.Op.load 3 (Go.Operand.tmp 170), type := 3, pos := "law.go:207", after := #[{ on := 5, ground := Go.Ground.data }], guard := none })) 170 (v := ?_) (W' := ?_) rfl (by rfl) (by rfl) (fun ev hc hf h0 => ?_) ?_ ?_; rotate_left 2; (focus (obtain ⟨e0, e1, e2, e3, e4⟩ := HS.out _ hW0; first | (go_simp; done) | (go_simp; with_reducible rfl) | (go_simp; constructor <;> with_reducible rfl)))
    · simp only [Act.put, List.setIfInBounds_toArray, List.set_cons_zero, List.set_cons_succ]
      exact EA_5
    refine arv1 (o := ({ dst := some 173, op := Go.Op.load 24 (Go.Operand.tmp 172), type := 24, pos := "law.go:207", after := #[{ on := 7, ground := Go.Ground.data }], guard := none })) 172 (v := ?_) (W' := ?_) rfl (by rfl) (by rfl) (fun ev hc hf h0 => ?_) ?_ ?_; rotate_left 2; (focus (obtain ⟨e0, e1, e2, e3, e4⟩ := HS.out _ hW0; first | (go_simp; done) | (go_simp; with_reducible rfl) | (go_simp; constructor <;> with_reducible rfl)))
    · simp only [Act.put, List.setIfInBounds_toArray, List.set_cons_zero, List.set_cons_succ]
      exact EA_4
    exact ar_nil
  · refine aw_all [2] (by kernel_rfl) (by simp) ?_
    refine arv1 (o := ({ dst := some 167, op := Go.Op.load 3 (Go.Operand.tmp 166), type := 3, pos := "law.go:207", after := #[{ on := 1, ground := Go.Ground.data }], guard := none })) 166 (v := ?_) (W' := ?_) rfl (by rfl) (by rfl) (fun ev hc hf h0 => ?_) ?_ ?_; rotate_left 2; (focus (obtain ⟨e0, e1, e2, e3, e4⟩ := HS.out _ hW0; first | (go_simp; done) | (go_simp; with_reducible rfl) | (go_simp; constructor <;> with_reducible rfl)))
    · simp only [Act.put, List.setIfInBounds_toArray, List.set_cons_zero, List.set_cons_succ]
      refine awt2 3 165 167 (o := ({ dst := some 168, op := Go.Op.indexAddr 100 (Go.Operand.tmp 165) (Go.Operand.tmp 167), type := 0, pos := "law.go:207", after := #[{ on := 0, ground := Go.Ground.data }, { on := 2, ground := Go.Ground.data }], guard := none })) (v := ?_) rfl (by kernel_rfl) (by kernel_rfl) (by kernel_rfl) (fun _ _ _ h => h) (by rfl) (by rfl) (by rfl) (fun ev hc hf h0 h1 W => ?_) ?_; rotate_left; (focus (first | (go_simp; done) | (go_simp; with_reducible rfl))); rotate_left; simp only [Act.put, List.setIfInBounds_toArray, List.set_cons_zero, List.set_cons_succ]
      exact EA_1
    exact ar_nil
  · refine aw_all [6, 8] (by kernel_rfl) (by simp) ?_
    refine arv1 (o := ({ dst := some 171, op := Go.Op.load 3 (Go.Operand.tmp 170), type := 3, pos := "law.go:207", after := #[{ on := 5, ground := Go.Ground.data }], guard := none })) 170 (v := ?_) (W' := ?_) rfl (by rfl) (by rfl) (fun ev hc hf h0 => ?_) ?_ ?_; rotate_left 2; (focus (obtain ⟨e0, e1, e2, e3, e4⟩ := HS.out _ hW0; first | (go_simp; done) | (go_simp; with_reducible rfl) | (go_simp; constructor <;> with_reducible rfl)))
    · simp only [Act.put, List.setIfInBounds_toArray, List.set_cons_zero, List.set_cons_succ]
      exact EA_3
    refine arv1 (o := ({ dst := some 173, op := Go.Op.load 24 (Go.Operand.tmp 172), type := 24, pos := "law.go:207", after := #[{ on := 7, ground := Go.Ground.data }], guard := none })) 172 (v := ?_) (W' := ?_) rfl (by rfl) (by rfl) (fun ev hc hf h0 => ?_) ?_ ?_; rotate_left 2; (focus (obtain ⟨e0, e1, e2, e3, e4⟩ := HS.out _ hW0; first | (go_simp; done) | (go_simp; with_reducible rfl) | (go_simp; constructor <;> with_reducible rfl)))
    · simp only [Act.put, List.setIfInBounds_toArray, List.set_cons_zero, List.set_cons_succ]
      exact EA_2
    exact ar_nil
  · refine aw_all [4, 8] (by kernel_rfl) (by simp) ?_
    refine arv1 (o := ({ dst := some 169, op := Go.Op.load 86 (Go.Operand.tmp 168), type := 86, pos := "law.go:207", after := #[{ on := 3, ground := Go.Ground.data }], guard := none })) 168 (v := ?_) (W' := ?_) rfl (by rfl) (by rfl) (fun ev hc hf h0 => ?_) ?_ ?_; rotate_left 2; (focus (obtain ⟨e0, e1, e2, e3, e4⟩ := HS.out _ hW0; first | (go_simp; done) | (go_simp; with_reducible rfl) | (go_simp; constructor <;> with_reducible rfl)))
    · simp only [Act.put, List.setIfInBounds_toArray, List.set_cons_zero, List.set_cons_succ]
      exact EA_3
    refine arv1 (o := ({ dst := some 173, op := Go.Op.load 24 (Go.Operand.tmp 172), type := 24, pos := "law.go:207", after := #[{ on := 7, ground := Go.Ground.data }], guard := none })) 172 (v := ?_) (W' := ?_) rfl (by rfl) (by rfl) (fun ev hc hf h0 => ?_) ?_ ?_; rotate_left 2; (focus (obtain ⟨e0, e1, e2, e3, e4⟩ := HS.out _ hW0; first | (go_simp; done) | (go_simp; with_reducible rfl) | (go_simp; constructor <;> with_reducible rfl)))
    · simp only [Act.put, List.setIfInBounds_toArray, List.set_cons_zero, List.set_cons_succ]
      exact EA_1
    exact ar_nil
  · refine aw_all [4, 6] (by kernel_rfl) (by simp) ?_
    refine arv1 (o := ({ dst := some 169, op := Go.Op.load 86 (Go.Operand.tmp 168), type := 86, pos := "law.go:207", after := #[{ on := 3, ground := Go.Ground.data }], guard := none })) 168 (v := ?_) (W' := ?_) rfl (by rfl) (by rfl) (fun ev hc hf h0 => ?_) ?_ ?_; rotate_left 2; (focus (obtain ⟨e0, e1, e2, e3, e4⟩ := HS.out _ hW0; first | (go_simp; done) | (go_simp; with_reducible rfl) | (go_simp; constructor <;> with_reducible rfl)))
    · simp only [Act.put, List.setIfInBounds_toArray, List.set_cons_zero, List.set_cons_succ]
      exact EA_2
    refine arv1 (o := ({ dst := some 171, op := Go.Op.load 3 (Go.Operand.tmp 170), type := 3, pos := "law.go:207", after := #[{ on := 5, ground := Go.Ground.data }], guard := none })) 170 (v := ?_) (W' := ?_) rfl (by rfl) (by rfl) (fun ev hc hf h0 => ?_) ?_ ?_; rotate_left 2; (focus (obtain ⟨e0, e1, e2, e3, e4⟩ := HS.out _ hW0; first | (go_simp; done) | (go_simp; with_reducible rfl) | (go_simp; constructor <;> with_reducible rfl)))
    · simp only [Act.put, List.setIfInBounds_toArray, List.set_cons_zero, List.set_cons_succ]
      exact EA_1
    exact ar_nil
  · refine aw_all [8] (by kernel_rfl) (by simp) ?_
    refine arv1 (o := ({ dst := some 173, op := Go.Op.load 24 (Go.Operand.tmp 172), type := 24, pos := "law.go:207", after := #[{ on := 7, ground := Go.Ground.data }], guard := none })) 172 (v := ?_) (W' := ?_) rfl (by rfl) (by rfl) (fun ev hc hf h0 => ?_) ?_ ?_; rotate_left 2; (focus (obtain ⟨e0, e1, e2, e3, e4⟩ := HS.out _ hW0; first | (go_simp; done) | (go_simp; with_reducible rfl) | (go_simp; constructor <;> with_reducible rfl)))
    · simp only [Act.put, List.setIfInBounds_toArray, List.set_cons_zero, List.set_cons_succ]
      exact EA_0
    exact ar_nil
  · refine aw_all [6] (by kernel_rfl) (by simp) ?_
    refine arv1 (o := ({ dst := some 171, op := Go.Op.load 3 (Go.Operand.tmp 170), type := 3, pos := "law.go:207", after := #[{ on := 5, ground := Go.Ground.data }], guard := none })) 170 (v := ?_) (W' := ?_) rfl (by rfl) (by rfl) (fun ev hc hf h0 => ?_) ?_ ?_; rotate_left 2; (focus (obtain ⟨e0, e1, e2, e3, e4⟩ := HS.out _ hW0; first | (go_simp; done) | (go_simp; with_reducible rfl) | (go_simp; constructor <;> with_reducible rfl)))
    · simp only [Act.put, List.setIfInBounds_toArray, List.set_cons_zero, List.set_cons_succ]
      exact EA_0
    exact ar_nil
  · refine aw_all [4] (by kernel_rfl) (by simp) ?_
    refine arv1 (o := ({ dst := some 169, op := Go.Op.load 86 (Go.Operand.tmp 168), type := 86, pos := "law.go:207", after := #[{ on := 3, ground := Go.Ground.data }], guard := none })) 168 (v := ?_) (W' := ?_) rfl (by rfl) (by rfl) (fun ev hc hf h0 => ?_) ?_ ?_; rotate_left 2; (focus (obtain ⟨e0, e1, e2, e3, e4⟩ := HS.out _ hW0; first | (go_simp; done) | (go_simp; with_reducible rfl) | (go_simp; constructor <;> with_reducible rfl)))
    · simp only [Act.put, List.setIfInBounds_toArray, List.set_cons_zero, List.set_cons_succ]
      exact EA_0
    exact ar_nil
  refine aw_all [9] (by kernel_rfl) (by simp) ?_
  refine arc3 (o := ({ dst := some 174, op := Go.Op.call { callee := Go.Callee.value (Go.Operand.func 49), args := #[Go.Operand.tmp 169, Go.Operand.tmp 171, Go.Operand.tmp 173], argTypes := #[86, 3, 24] }, type := 35, pos := "law.go:207", after := #[{ on := 4, ground := Go.Ground.data }, { on := 6, ground := Go.Ground.data }, { on := 8, ground := Go.Ground.data }], guard := none })) 169 171 173 _ _ _ rfl (by rfl) (by rfl) (by rfl) (by rfl) (fun ev hc hf h0 h1 h2 => ?_) HAC.out (fun w9 hc9 => ?_) ?_
  · focus (go_simp; done)
  · simp only [Act.put, List.setIfInBounds_toArray, List.set_cons_zero, List.set_cons_succ]
    refine awt1 10 174 (o := ({ dst := some 164, op := Go.Op.move (Go.Operand.tmp 174), type := 35, pos := "law.go:207", after := #[{ on := 9, ground := Go.Ground.data }], guard := none })) (v := ?_) rfl (by kernel_rfl) (by kernel_rfl) (by kernel_rfl) (fun _ _ _ h => h) (by rfl) (by rfl) (fun ev hc hf h0 W => ?_) ?_; rotate_left; (focus (first | (go_simp; done) | (go_simp; with_reducible rfl))); rotate_left; simp only [Act.put, List.setIfInBounds_toArray, List.set_cons_zero, List.set_cons_succ]
    refine awt1 11 164 (o := ({ dst := some 175, op := Go.Op.extract (Go.Operand.tmp 164) 0, type := 4, pos := "law.go:207", after := #[{ on := 10, ground := Go.Ground.data }], guard := none })) (v := ?_) rfl (by kernel_rfl) (by kernel_rfl) (by kernel_rfl) (fun _ _ _ h => h) (by rfl) (by rfl) (fun ev hc hf h0 W => ?_) ?_; rotate_left; (focus (first | (go_simp; done) | (go_simp; with_reducible rfl))); rotate_left; simp only [Act.put, List.setIfInBounds_toArray, List.set_cons_zero, List.set_cons_succ]
    refine awt1 12 164 (o := ({ dst := some 176, op := Go.Op.extract (Go.Operand.tmp 164) 1, type := 30, pos := "law.go:207", after := #[{ on := 10, ground := Go.Ground.data }, { on := 13, ground := Go.Ground.gcOnly Go.Departure.lateStores }], guard := none })) (v := ?_) rfl (by kernel_rfl) (by kernel_rfl) (by kernel_rfl) (fun _ _ _ h => h) (by rfl) (by rfl) (fun ev hc hf h0 W => ?_) ?_; rotate_left; (focus (first | (go_simp; done) | (go_simp; with_reducible rfl))); rotate_left; simp only [Act.put, List.setIfInBounds_toArray, List.set_cons_zero, List.set_cons_succ]
    refine awt1 13 175 (o := ({ dst := some 24, op := Go.Op.assign (Go.Operand.tmp 175), type := 4, pos := "law.go:207", after := #[{ on := 11, ground := Go.Ground.data }, { on := 9, ground := Go.Ground.chain }, { on := 0, ground := Go.Ground.phase }, { on := 1, ground := Go.Ground.phase }, { on := 2, ground := Go.Ground.phase }, { on := 3, ground := Go.Ground.phase }, { on := 4, ground := Go.Ground.phase }, { on := 5, ground := Go.Ground.phase }, { on := 6, ground := Go.Ground.phase }, { on := 7, ground := Go.Ground.phase }, { on := 8, ground := Go.Ground.phase }, { on := 9, ground := Go.Ground.phase }, { on := 10, ground := Go.Ground.phase }, { on := 11, ground := Go.Ground.phase }, { on := 12, ground := Go.Ground.textOnly Go.Departure.lateStores }], guard := none })) (v := ?_) rfl (by kernel_rfl) (by kernel_rfl) (by kernel_rfl) (fun _ _ _ h => h) (by rfl) (by rfl) (fun ev hc hf h0 W => ?_) ?_; rotate_left; (focus (first | (go_simp; done) | (go_simp; with_reducible rfl))); rotate_left; simp only [Act.put, List.setIfInBounds_toArray, List.set_cons_zero, List.set_cons_succ]
    refine awt1 14 176 (o := ({ dst := some 25, op := Go.Op.assign (Go.Operand.tmp 176), type := 30, pos := "law.go:207", after := #[{ on := 12, ground := Go.Ground.data }, { on := 13, ground := Go.Ground.chain }, { on := 0, ground := Go.Ground.phase }, { on := 1, ground := Go.Ground.phase }, { on := 2, ground := Go.Ground.phase }, { on := 3, ground := Go.Ground.phase }, { on := 4, ground := Go.Ground.phase }, { on := 5, ground := Go.Ground.phase }, { on := 6, ground := Go.Ground.phase }, { on := 7, ground := Go.Ground.phase }, { on := 8, ground := Go.Ground.phase }, { on := 9, ground := Go.Ground.phase }, { on := 10, ground := Go.Ground.phase }, { on := 11, ground := Go.Ground.phase }, { on := 12, ground := Go.Ground.phase }, { on := 13, ground := Go.Ground.phase }], guard := none })) (v := ?_) rfl (by kernel_rfl) (by kernel_rfl) (by kernel_rfl) (fun _ _ _ h => h) (by rfl) (by rfl) (fun ev hc hf h0 W => ?_) ?_; rotate_left; (focus (first | (go_simp; done) | (go_simp; with_reducible rfl))); rotate_left; simp only [Act.put, List.setIfInBounds_toArray, List.set_cons_zero, List.set_cons_succ]
    refine aw_done (by kernel_rfl) ?_
    obtain ⟨hMem, hOnly⟩ := (M0.out.keep hW0).prp_turn HP.out.1 hc9
    obtain ⟨hInv, hExt⟩ := acc_turn HH.out HP.out.1 (x := (tn : Int)) (by omega) (by rw [Int.toNat_natCast, hrr'.out]; exact HP.out.2.1) HPA.out.aor
    have HT := Lib.hid (show Taken W col S A gA gL mL sn sh (.slice (some ⟨ba, 0, none⟩) S.ps.length ca) M w9 (.slice none 0 0) (fresh col w1.drew.heap.size (.prp p)) (S.turn p (pAcc P tn).2) A (setP pp p ⟨(pp p).g, (pp p).pm, (pp p).am, (pp p).s⟩) [] from
      ⟨hMem, hInv, hExt, List.length_set, (fun m hm => by cases hm), World.ownsRow_nil _ _ _ _, Nat.zero_le _, (Kept.of_below HB0.out).trans ((Kept.of_below hW0).trans (hOnly.far (by simp) (by simp))), (fun k hk => fresh_old (Nat.lt_of_lt_of_le hk HB0.out.size)), ⟨fun k hk => Nat.le_succ_of_le (HS0.out.1 k hk), fun q Q hQ => by
        rw [turn_get HP.out.1] at hQ
        split at hQ
        · injection hQ with hQ
          subst hQ
          exact Nat.succ_le_succ (HS0.out.2 p P HP.out.1)
        · exact Nat.le_succ_of_le (HS0.out.2 q Q hQ)⟩⟩)
    clear HAC HS hW0 hc9 hOnly B0 M0 HB0 hMem hInv hExt HPA
    go_wp2_with fail
    exact bodyPost_ret (v := .tuple #[.slice none 0 0, .bool true]) (by simp [results, Try.results55, go_sem]) rfl ⟨_, _, _, _, _, _, rfl, HT.out⟩
  exact ar_nil

end Go.Proofs.Ytlgljcfkoakogaa

namespace Go.Proofs.Ytlgljcfkoakogaa
open Go.RowKit
set_option linter.unusedSimpArgs false
set_option linter.unusedVariables false


open Go.Maps Go.Shelf
theorem cells_new (w : World) (cs : Array Value) (t : TypeId) : ∀ j u, cs.toList[j]? = some u → (w.alloc (.cells cs t)).cell? ((⟨w.heap.size, 0, none⟩ : Addr).add j) = some u := by
  intro j u hj
  have hb := Bk.new w cs t
  rw [Go.WideShapes.add_plain, hb.cell, Nat.zero_add]
  simpa using hj
theorem row_base {w : World} {base base' size n : Nat} {e : TypeId} {v : Value} {xs : List Value} (h : w.ownsRow base e size v n xs) (hb : base' ≤ base) : w.ownsRow base' e size v n xs := by
  refine ⟨h.1, ?_⟩
  rcases h.2 with k | ⟨g, cap, cur, k1, k2, k3⟩
  · exact .inl k
  · exact .inr ⟨g, cap, cur, k1, Nat.le_trans hb k2, k3⟩
theorem flatN_snoc (l : List Nt) (m : Nt) : flatN (l ++ [m]) = flatN l ++ m.cells := by simp [flatN, List.flatMap_append]
theorem Try.info105 : (Try.prog.info? 105).map (fun i => (i.zero, i.size, i.bytes)) = some (some (.agg #[.int .i64 0, .int .i64 0, .int .i64 0, .int .u64 0, .int .i64 0, .bool false, .int .u64 0, .int .i64 0, .string ⟨#[]⟩, .string ⟨#[]⟩]), 10, 96) := by kernel_rfl
theorem setA_same (ac : Nat → Acc) (j : Nat) : setA ac j (ac j) = ac := by
  funext i
  unfold setA
  split
  · rename_i e; rw [e]
  · rfl
/-- What an acceptor's yes brings forth, up to learner k. -/
def outs (p tn : Nat) (r n : Int) (u : ByteArray) (k : Nat) : List Nt := ⟨3, p, tn, r, n, Vt.zero, u⟩ :: (List.range k).map fun i => ⟨4, i, tn, r, n, Vt.zero, u⟩
theorem outs_succ (p tn : Nat) (r n : Int) (u : ByteArray) (k : Nat) : outs p tn r n u (k + 1) = outs p tn r n u k ++ [⟨4, k, tn, r, n, Vt.zero, u⟩] := by
  unfold outs
  rw [List.range_succ, List.map_append]
  rfl
theorem outs_len (p tn : Nat) (r n : Int) (u : ByteArray) (k : Nat) : (outs p tn r n u k).length = k + 1 := by simp [outs]
set_option maxRecDepth 100000
set_option maxHeartbeats 6400000
theorem taken2 {W : World} {col : Nat → Col} {S : Sys} {A : Nat → Int → Prop} {gA gL mL : Nat → Nat} {pp : Nat → PAt} {sn sh sa : Value} {M : Nat} (h : Mem W col S gA gL mL pp sn sh sa) (hI : Inv S A) (hS : Small S M) (p tn : Nat) (r n : Int) (c : Vt) (u : ByteArray) (hm : MsgOk S A ⟨2, p, tn, r, n, c, u⟩) :
    Calls Try.prog 55 #[.agg #[.int .i64 2, .int .i64 (p : Nat), .int .i64 (tn : Nat), .int .u64 r, .int .i64 n, .bool c.has, .int .u64 c.r, .int .i64 c.n, .string c.val, .string u], sn, sh, sa, .int .i64 S.N] W (TakenPost W col S A gA gL mL sn sh sa M) := by
  have hkk : p < S.ps.length ∧ r = (p : Int) + 1 ∧ n = S.nd r ∧ S.En r ∧ u = S.val r := by
    rcases hm.kinds with ⟨h0, _⟩ | ⟨h0, _⟩ | ⟨_, h1, h2, h3⟩ | ⟨h0, _⟩ | ⟨h0, _⟩
    · cases h0
    · cases h0
    · exact ⟨h1.p, h1.r, h1.n, h2, h3⟩
    · cases h0
    · cases h0
  have htn : tn < S.N := hm.tn
  have hus : (u.size : Int) ≤ 8192 := hm.size
  have hnm : namedB r n = true := by rw [hkk.2.2.1]; exact named_all hI (En.at hkk.2.2.2.1)
  have hr1 := (at_range hI (En.at hkk.2.2.2.1)).1
  have HM := Lib.hid hkk
  have hb0 := (Below.refl W.heap.size W).alloc (Nat.le_refl _) (.cells #[.int .i64 2, .int .i64 (p : Nat), .int .i64 (tn : Nat), .int .u64 r, .int .i64 n, .bool c.has, .int .u64 c.r, .int .i64 c.n, .string c.val, .string u] 105)
  have B0 := Lib.hid (Bk.new W #[.int .i64 2, .int .i64 (p : Nat), .int .i64 (tn : Nat), .int .u64 r, .int .i64 n, .bool c.has, .int .u64 c.r, .int .i64 c.n, .string c.val, .string u] 105)
  have M0 := Lib.hid (h.keep hb0)
  have HH := Lib.hid hI
  have HS0 := Lib.hid hS
  have HB0 := Lib.hid hb0
  have hgW : gA tn < W.heap.size := (h.acc tn htn).1.lt
  obtain ⟨bn, cn, rfl, hcell⟩ := ptr_cell M0.out.nodes.1 htn
  have k0 : (W.alloc (.cells #[.int .i64 2, .int .i64 (p : Nat), .int .i64 (tn : Nat), .int .u64 r, .int .i64 n, .bool c.has, .int .u64 c.r, .int .i64 c.n, .string c.val, .string u] 105)).cell? ⟨W.heap.size, 0, none⟩ = some (.int .i64 2) := B0.out.cell 0
  obtain ⟨i0, hi, iz0, iz1, iz2⟩ := info_parts Try.info105
  have hN7 := hI.pos.2
  clear h hI hS hm hkk hb0
  go_enter Try.func55, Try.ntmps55
  go_upto_region 19 with fail
  generalize W.alloc (.cells #[.int .i64 2, .int .i64 (p : Nat), .int .i64 (tn : Nat), .int .u64 r, .int .i64 n, .bool c.has, .int .u64 c.r, .int .i64 c.n, .string c.val, .string u] 105) = w1 at B0 M0 HB0 hcell ⊢
  have HS := Lib.hid (show ∀ w', Bel w1 w' → w'.cell? ⟨bn, tn, none⟩ = some (.pointer (some ⟨gA tn, 0, none⟩)) ∧ w'.cell? ⟨W.heap.size, 2, none⟩ = some (.int .i64 (tn : Nat)) ∧ w'.cell? ⟨W.heap.size, 3, none⟩ = some (.int .u64 r) ∧ w'.cell? ⟨W.heap.size, 4, none⟩ = some (.int .i64 n) ∧ w'.cell? ⟨W.heap.size, 9, none⟩ = some (.string u) from
    fun w' hw => ⟨Bel.cell hw hcell, (B0.out.bel hw).cell 2, (B0.out.bel hw).cell 3, (B0.out.bel hw).cell 4, (B0.out.bel hw).cell 9⟩)
  have hW0 : Bel w1 w1.drew := (Bel.refl w1).drew
  have hac := accept_any (gA tn) (S.ac tn) r n u w1.drew ((M0.out.acc tn htn).1.bel hW0) (by omega)
  unfold AcptPost at hac
  have HAC := Lib.hid hac
  have hts : (tn : Int) < (S.N : Int) := by omega
  clear hac hcell
  refine wp_aw 15 #[false, false, false, false, false, false, false, false, false, false, false, false, false, false, false] rfl rfl ?_
  refine aw_join 6 ?LEA_0 ?FEA_0 w1.drew (fun EA_0 => ?_) ?_; rotate_left 2
  refine aw_join 7 ?LEA_1 ?FEA_1 w1.drew (fun EA_1 => ?_) ?_; rotate_left 2
  refine aw_join 7 ?LEA_2 ?FEA_2 w1.drew (fun EA_2 => ?_) ?_; rotate_left 2
  refine aw_join 7 ?LEA_3 ?FEA_3 w1.drew (fun EA_3 => ?_) ?_; rotate_left 2
  refine aw_join 8 ?LEA_4 ?FEA_4 w1.drew (fun EA_4 => ?_) ?_; rotate_left 2
  refine aw_join 8 ?LEA_5 ?FEA_5 w1.drew (fun EA_5 => ?_) ?_; rotate_left 2
  refine aw_join 8 ?LEA_6 ?FEA_6 w1.drew (fun EA_6 => ?_) ?_; rotate_left 2
  refine aw_join 9 ?LEA_7 ?FEA_7 w1.drew (fun EA_7 => ?_) ?_; rotate_left 2
  refine aw_join 9 ?LEA_8 ?FEA_8 w1.drew (fun EA_8 => ?_) ?_; rotate_left 2
  refine aw_join 10 ?LEA_9 ?FEA_9 w1.drew (fun EA_9 => ?_) ?_; rotate_left 2
  refine aw_join 10 ?LEA_10 ?FEA_10 w1.drew (fun EA_10 => ?_) ?_; rotate_left 2
  · refine awt1 0 1 (o := ({ dst := some 119, op := Go.Op.move (Go.Operand.tmp 1), type := 92, pos := "law.go:196", after := #[], guard := none })) (v := ?_) rfl (by kernel_rfl) (by kernel_rfl) (by kernel_rfl) (fun _ _ _ h => h) (by rfl) (by rfl) (fun ev hc hf h0 W => ?_) ?_; rotate_left; (focus (first | (go_simp; done) | (go_simp; with_reducible rfl))); rotate_left; simp only [Act.put, List.setIfInBounds_toArray, List.set_cons_zero, List.set_cons_succ]
    refine awt1 1 5 (o := ({ dst := some 120, op := Go.Op.fieldAddr 105 (Go.Operand.tmp 5) 2, type := 0, pos := "law.go:196", after := #[], guard := none })) (v := ?_) rfl (by kernel_rfl) (by kernel_rfl) (by kernel_rfl) (fun _ _ _ h => h) (by rfl) (by rfl) (fun ev hc hf h0 W => ?_) ?_; rotate_left; (focus (first | (go_simp; done) | (go_simp; with_reducible rfl))); rotate_left; simp only [Act.put, List.setIfInBounds_toArray, List.set_cons_zero, List.set_cons_succ]
    refine awt1 5 5 (o := ({ dst := some 124, op := Go.Op.fieldAddr 105 (Go.Operand.tmp 5) 3, type := 0, pos := "law.go:196", after := #[], guard := none })) (v := ?_) rfl (by kernel_rfl) (by kernel_rfl) (by kernel_rfl) (fun _ _ _ h => h) (by rfl) (by rfl) (fun ev hc hf h0 W => ?_) ?_; rotate_left; (focus (first | (go_simp; done) | (go_simp; with_reducible rfl))); rotate_left; simp only [Act.put, List.setIfInBounds_toArray, List.set_cons_zero, List.set_cons_succ]
    refine awt1 7 5 (o := ({ dst := some 126, op := Go.Op.fieldAddr 105 (Go.Operand.tmp 5) 5, type := 0, pos := "law.go:196", after := #[], guard := none })) (v := ?_) rfl (by kernel_rfl) (by kernel_rfl) (by kernel_rfl) (fun _ _ _ h => h) (by rfl) (by rfl) (fun ev hc hf h0 W => ?_) ?_; rotate_left; (focus (first | (go_simp; done) | (go_simp; with_reducible rfl))); rotate_left; simp only [Act.put, List.setIfInBounds_toArray, List.set_cons_zero, List.set_cons_succ]
    refine aw_all [2, 6, 8] (by kernel_rfl) (by simp) ?_
    refine arv1 (o := ({ dst := some 121, op := Go.Op.load 3 (Go.Operand.tmp 120), type := 3, pos := "law.go:196", after := #[{ on := 1, ground := Go.Ground.data }], guard := none })) 120 (v := ?_) (W' := ?_) rfl (by rfl) (by rfl) (fun ev hc hf h0 => ?_) ?_ ?_; rotate_left 2; (focus (obtain ⟨e0, e1, e2, e3, e4⟩ := HS.out _ hW0; first | (go_simp; done) | (go_simp; with_reducible rfl) | (go_simp; constructor <;> with_reducible rfl)))
    · simp only [Act.put, List.setIfInBounds_toArray, List.set_cons_zero, List.set_cons_succ]
      refine awt2 3 119 121 (o := ({ dst := some 122, op := Go.Op.indexAddr 92 (Go.Operand.tmp 119) (Go.Operand.tmp 121), type := 0, pos := "law.go:196", after := #[{ on := 0, ground := Go.Ground.data }, { on := 2, ground := Go.Ground.data }], guard := none })) (v := ?_) rfl (by kernel_rfl) (by kernel_rfl) (by kernel_rfl) (fun _ _ _ h => h) (by rfl) (by rfl) (by rfl) (fun ev hc hf h0 h1 W => ?_) ?_; rotate_left; (focus (first | (go_simp; done) | (go_simp; with_reducible rfl))); rotate_left; simp only [Act.put, List.setIfInBounds_toArray, List.set_cons_zero, List.set_cons_succ]
      exact EA_8
    refine arv1 (o := ({ dst := some 125, op := Go.Op.load 24 (Go.Operand.tmp 124), type := 24, pos := "law.go:196", after := #[{ on := 5, ground := Go.Ground.data }], guard := none })) 124 (v := ?_) (W' := ?_) rfl (by rfl) (by rfl) (fun ev hc hf h0 => ?_) ?_ ?_; rotate_left 2; (focus (obtain ⟨e0, e1, e2, e3, e4⟩ := HS.out _ hW0; first | (go_simp; done) | (go_simp; with_reducible rfl) | (go_simp; constructor <;> with_reducible rfl)))
    · simp only [Act.put, List.setIfInBounds_toArray, List.set_cons_zero, List.set_cons_succ]
      exact EA_10
    refine arv1 (o := ({ dst := some 127, op := Go.Op.load 9 (Go.Operand.tmp 126), type := 9, pos := "law.go:196", after := #[{ on := 7, ground := Go.Ground.data }], guard := none })) 126 (v := ?_) (W' := ?_) rfl (by rfl) (by rfl) (fun ev hc hf h0 => ?_) ?_ ?_; rotate_left 2; (focus (obtain ⟨e0, e1, e2, e3, e4⟩ := HS.out _ hW0; first | (go_simp; done) | (go_simp; with_reducible rfl) | (go_simp; constructor <;> with_reducible rfl)))
    · simp only [Act.put, List.setIfInBounds_toArray, List.set_cons_zero, List.set_cons_succ]
      exact EA_9
    exact ar_nil
  · refine aw_all [2, 8] (by kernel_rfl) (by simp) ?_
    refine arv1 (o := ({ dst := some 121, op := Go.Op.load 3 (Go.Operand.tmp 120), type := 3, pos := "law.go:196", after := #[{ on := 1, ground := Go.Ground.data }], guard := none })) 120 (v := ?_) (W' := ?_) rfl (by rfl) (by rfl) (fun ev hc hf h0 => ?_) ?_ ?_; rotate_left 2; (focus (obtain ⟨e0, e1, e2, e3, e4⟩ := HS.out _ hW0; first | (go_simp; done) | (go_simp; with_reducible rfl) | (go_simp; constructor <;> with_reducible rfl)))
    · simp only [Act.put, List.setIfInBounds_toArray, List.set_cons_zero, List.set_cons_succ]
      refine awt2 3 119 121 (o := ({ dst := some 122, op := Go.Op.indexAddr 92 (Go.Operand.tmp 119) (Go.Operand.tmp 121), type := 0, pos := "law.go:196", after := #[{ on := 0, ground := Go.Ground.data }, { on := 2, ground := Go.Ground.data }], guard := none })) (v := ?_) rfl (by kernel_rfl) (by kernel_rfl) (by kernel_rfl) (fun _ _ _ h => h) (by rfl) (by rfl) (by rfl) (fun ev hc hf h0 h1 W => ?_) ?_; rotate_left; (focus (first | (go_simp; done) | (go_simp; with_reducible rfl))); rotate_left; simp only [Act.put, List.setIfInBounds_toArray, List.set_cons_zero, List.set_cons_succ]
      exact EA_5
    refine arv1 (o := ({ dst := some 127, op := Go.Op.load 9 (Go.Operand.tmp 126), type := 9, pos := "law.go:196", after := #[{ on := 7, ground := Go.Ground.data }], guard := none })) 126 (v := ?_) (W' := ?_) rfl (by rfl) (by rfl) (fun ev hc hf h0 => ?_) ?_ ?_; rotate_left 2; (focus (obtain ⟨e0, e1, e2, e3, e4⟩ := HS.out _ hW0; first | (go_simp; done) | (go_simp; with_reducible rfl) | (go_simp; constructor <;> with_reducible rfl)))
    · simp only [Act.put, List.setIfInBounds_toArray, List.set_cons_zero, List.set_cons_succ]
      exact EA_7
    exact ar_nil
  · refine aw_all [2, 6] (by kernel_rfl) (by simp) ?_
    refine arv1 (o := ({ dst := some 121, op := Go.Op.load 3 (Go.Operand.tmp 120), type := 3, pos := "law.go:196", after := #[{ on := 1, ground := Go.Ground.data }], guard := none })) 120 (v := ?_) (W' := ?_) rfl (by rfl) (by rfl) (fun ev hc hf h0 => ?_) ?_ ?_; rotate_left 2; (focus (obtain ⟨e0, e1, e2, e3, e4⟩ := HS.out _ hW0; first | (go_simp; done) | (go_simp; with_reducible rfl) | (go_simp; constructor <;> with_reducible rfl)))
    · simp only [Act.put, List.setIfInBounds_toArray, List.set_cons_zero, List.set_cons_succ]
      refine awt2 3 119 121 (o := ({ dst := some 122, op := Go.Op.indexAddr 92 (Go.Operand.tmp 119) (Go.Operand.tmp 121), type := 0, pos := "law.go:196", after := #[{ on := 0, ground := Go.Ground.data }, { on := 2, ground := Go.Ground.data }], guard := none })) (v := ?_) rfl (by kernel_rfl) (by kernel_rfl) (by kernel_rfl) (fun _ _ _ h => h) (by rfl) (by rfl) (by rfl) (fun ev hc hf h0 h1 W => ?_) ?_; rotate_left; (focus (first | (go_simp; done) | (go_simp; with_reducible rfl))); rotate_left; simp only [Act.put, List.setIfInBounds_toArray, List.set_cons_zero, List.set_cons_succ]
      exact EA_4
    refine arv1 (o := ({ dst := some 125, op := Go.Op.load 24 (Go.Operand.tmp 124), type := 24, pos := "law.go:196", after := #[{ on := 5, ground := Go.Ground.data }], guard := none })) 124 (v := ?_) (W' := ?_) rfl (by rfl) (by rfl) (fun ev hc hf h0 => ?_) ?_ ?_; rotate_left 2; (focus (obtain ⟨e0, e1, e2, e3, e4⟩ := HS.out _ hW0; first | (go_simp; done) | (go_simp; with_reducible rfl) | (go_simp; constructor <;> with_reducible rfl)))
    · simp only [Act.put, List.setIfInBounds_toArray, List.set_cons_zero, List.set_cons_succ]
      exact EA_7
    exact ar_nil
  · refine aw_all [4, 6, 8] (by kernel_rfl) (by simp) ?_
    refine arv1 (o := ({ dst := some 123, op := Go.Op.load 44 (Go.Operand.tmp 122), type := 44, pos := "law.go:196", after := #[{ on := 3, ground := Go.Ground.data }], guard := none })) 122 (v := ?_) (W' := ?_) rfl (by rfl) (by rfl) (fun ev hc hf h0 => ?_) ?_ ?_; rotate_left 2; (focus (obtain ⟨e0, e1, e2, e3, e4⟩ := HS.out _ hW0; first | (go_simp; done) | (go_simp; with_reducible rfl) | (go_simp; constructor <;> with_reducible rfl)))
    · simp only [Act.put, List.setIfInBounds_toArray, List.set_cons_zero, List.set_cons_succ]
      exact EA_6
    refine arv1 (o := ({ dst := some 125, op := Go.Op.load 24 (Go.Operand.tmp 124), type := 24, pos := "law.go:196", after := #[{ on := 5, ground := Go.Ground.data }], guard := none })) 124 (v := ?_) (W' := ?_) rfl (by rfl) (by rfl) (fun ev hc hf h0 => ?_) ?_ ?_; rotate_left 2; (focus (obtain ⟨e0, e1, e2, e3, e4⟩ := HS.out _ hW0; first | (go_simp; done) | (go_simp; with_reducible rfl) | (go_simp; constructor <;> with_reducible rfl)))
    · simp only [Act.put, List.setIfInBounds_toArray, List.set_cons_zero, List.set_cons_succ]
      exact EA_5
    refine arv1 (o := ({ dst := some 127, op := Go.Op.load 9 (Go.Operand.tmp 126), type := 9, pos := "law.go:196", after := #[{ on := 7, ground := Go.Ground.data }], guard := none })) 126 (v := ?_) (W' := ?_) rfl (by rfl) (by rfl) (fun ev hc hf h0 => ?_) ?_ ?_; rotate_left 2; (focus (obtain ⟨e0, e1, e2, e3, e4⟩ := HS.out _ hW0; first | (go_simp; done) | (go_simp; with_reducible rfl) | (go_simp; constructor <;> with_reducible rfl)))
    · simp only [Act.put, List.setIfInBounds_toArray, List.set_cons_zero, List.set_cons_succ]
      exact EA_4
    exact ar_nil
  · refine aw_all [2] (by kernel_rfl) (by simp) ?_
    refine arv1 (o := ({ dst := some 121, op := Go.Op.load 3 (Go.Operand.tmp 120), type := 3, pos := "law.go:196", after := #[{ on := 1, ground := Go.Ground.data }], guard := none })) 120 (v := ?_) (W' := ?_) rfl (by rfl) (by rfl) (fun ev hc hf h0 => ?_) ?_ ?_; rotate_left 2; (focus (obtain ⟨e0, e1, e2, e3, e4⟩ := HS.out _ hW0; first | (go_simp; done) | (go_simp; with_reducible rfl) | (go_simp; constructor <;> with_reducible rfl)))
    · simp only [Act.put, List.setIfInBounds_toArray, List.set_cons_zero, List.set_cons_succ]
      refine awt2 3 119 121 (o := ({ dst := some 122, op := Go.Op.indexAddr 92 (Go.Operand.tmp 119) (Go.Operand.tmp 121), type := 0, pos := "law.go:196", after := #[{ on := 0, ground := Go.Ground.data }, { on := 2, ground := Go.Ground.data }], guard := none })) (v := ?_) rfl (by kernel_rfl) (by kernel_rfl) (by kernel_rfl) (fun _ _ _ h => h) (by rfl) (by rfl) (by rfl) (fun ev hc hf h0 h1 W => ?_) ?_; rotate_left; (focus (first | (go_simp; done) | (go_simp; with_reducible rfl))); rotate_left; simp only [Act.put, List.setIfInBounds_toArray, List.set_cons_zero, List.set_cons_succ]
      exact EA_1
    exact ar_nil
  · refine aw_all [6, 8] (by kernel_rfl) (by simp) ?_
    refine arv1 (o := ({ dst := some 125, op := Go.Op.load 24 (Go.Operand.tmp 124), type := 24, pos := "law.go:196", after := #[{ on := 5, ground := Go.Ground.data }], guard := none })) 124 (v := ?_) (W' := ?_) rfl (by rfl) (by rfl) (fun ev hc hf h0 => ?_) ?_ ?_; rotate_left 2; (focus (obtain ⟨e0, e1, e2, e3, e4⟩ := HS.out _ hW0; first | (go_simp; done) | (go_simp; with_reducible rfl) | (go_simp; constructor <;> with_reducible rfl)))
    · simp only [Act.put, List.setIfInBounds_toArray, List.set_cons_zero, List.set_cons_succ]
      exact EA_3
    refine arv1 (o := ({ dst := some 127, op := Go.Op.load 9 (Go.Operand.tmp 126), type := 9, pos := "law.go:196", after := #[{ on := 7, ground := Go.Ground.data }], guard := none })) 126 (v := ?_) (W' := ?_) rfl (by rfl) (by rfl) (fun ev hc hf h0 => ?_) ?_ ?_; rotate_left 2; (focus (obtain ⟨e0, e1, e2, e3, e4⟩ := HS.out _ hW0; first | (go_simp; done) | (go_simp; with_reducible rfl) | (go_simp; constructor <;> with_reducible rfl)))
    · simp only [Act.put, List.setIfInBounds_toArray, List.set_cons_zero, List.set_cons_succ]
      exact EA_2
    exact ar_nil
  · refine aw_all [4, 8] (by kernel_rfl) (by simp) ?_
    refine arv1 (o := ({ dst := some 123, op := Go.Op.load 44 (Go.Operand.tmp 122), type := 44, pos := "law.go:196", after := #[{ on := 3, ground := Go.Ground.data }], guard := none })) 122 (v := ?_) (W' := ?_) rfl (by rfl) (by rfl) (fun ev hc hf h0 => ?_) ?_ ?_; rotate_left 2; (focus (obtain ⟨e0, e1, e2, e3, e4⟩ := HS.out _ hW0; first | (go_simp; done) | (go_simp; with_reducible rfl) | (go_simp; constructor <;> with_reducible rfl)))
    · simp only [Act.put, List.setIfInBounds_toArray, List.set_cons_zero, List.set_cons_succ]
      exact EA_3
    refine arv1 (o := ({ dst := some 127, op := Go.Op.load 9 (Go.Operand.tmp 126), type := 9, pos := "law.go:196", after := #[{ on := 7, ground := Go.Ground.data }], guard := none })) 126 (v := ?_) (W' := ?_) rfl (by rfl) (by rfl) (fun ev hc hf h0 => ?_) ?_ ?_; rotate_left 2; (focus (obtain ⟨e0, e1, e2, e3, e4⟩ := HS.out _ hW0; first | (go_simp; done) | (go_simp; with_reducible rfl) | (go_simp; constructor <;> with_reducible rfl)))
    · simp only [Act.put, List.setIfInBounds_toArray, List.set_cons_zero, List.set_cons_succ]
      exact EA_1
    exact ar_nil
  · refine aw_all [4, 6] (by kernel_rfl) (by simp) ?_
    refine arv1 (o := ({ dst := some 123, op := Go.Op.load 44 (Go.Operand.tmp 122), type := 44, pos := "law.go:196", after := #[{ on := 3, ground := Go.Ground.data }], guard := none })) 122 (v := ?_) (W' := ?_) rfl (by rfl) (by rfl) (fun ev hc hf h0 => ?_) ?_ ?_; rotate_left 2; (focus (obtain ⟨e0, e1, e2, e3, e4⟩ := HS.out _ hW0; first | (go_simp; done) | (go_simp; with_reducible rfl) | (go_simp; constructor <;> with_reducible rfl)))
    · simp only [Act.put, List.setIfInBounds_toArray, List.set_cons_zero, List.set_cons_succ]
      exact EA_2
    refine arv1 (o := ({ dst := some 125, op := Go.Op.load 24 (Go.Operand.tmp 124), type := 24, pos := "law.go:196", after := #[{ on := 5, ground := Go.Ground.data }], guard := none })) 124 (v := ?_) (W' := ?_) rfl (by rfl) (by rfl) (fun ev hc hf h0 => ?_) ?_ ?_; rotate_left 2; (focus (obtain ⟨e0, e1, e2, e3, e4⟩ := HS.out _ hW0; first | (go_simp; done) | (go_simp; with_reducible rfl) | (go_simp; constructor <;> with_reducible rfl)))
    · simp only [Act.put, List.setIfInBounds_toArray, List.set_cons_zero, List.set_cons_succ]
      exact EA_1
    exact ar_nil
  · refine aw_all [8] (by kernel_rfl) (by simp) ?_
    refine arv1 (o := ({ dst := some 127, op := Go.Op.load 9 (Go.Operand.tmp 126), type := 9, pos := "law.go:196", after := #[{ on := 7, ground := Go.Ground.data }], guard := none })) 126 (v := ?_) (W' := ?_) rfl (by rfl) (by rfl) (fun ev hc hf h0 => ?_) ?_ ?_; rotate_left 2; (focus (obtain ⟨e0, e1, e2, e3, e4⟩ := HS.out _ hW0; first | (go_simp; done) | (go_simp; with_reducible rfl) | (go_simp; constructor <;> with_reducible rfl)))
    · simp only [Act.put, List.setIfInBounds_toArray, List.set_cons_zero, List.set_cons_succ]
      exact EA_0
    exact ar_nil
  · refine aw_all [6] (by kernel_rfl) (by simp) ?_
    refine arv1 (o := ({ dst := some 125, op := Go.Op.load 24 (Go.Operand.tmp 124), type := 24, pos := "law.go:196", after := #[{ on := 5, ground := Go.Ground.data }], guard := none })) 124 (v := ?_) (W' := ?_) rfl (by rfl) (by rfl) (fun ev hc hf h0 => ?_) ?_ ?_; rotate_left 2; (focus (obtain ⟨e0, e1, e2, e3, e4⟩ := HS.out _ hW0; first | (go_simp; done) | (go_simp; with_reducible rfl) | (go_simp; constructor <;> with_reducible rfl)))
    · simp only [Act.put, List.setIfInBounds_toArray, List.set_cons_zero, List.set_cons_succ]
      exact EA_0
    exact ar_nil
  · refine aw_all [4] (by kernel_rfl) (by simp) ?_
    refine arv1 (o := ({ dst := some 123, op := Go.Op.load 44 (Go.Operand.tmp 122), type := 44, pos := "law.go:196", after := #[{ on := 3, ground := Go.Ground.data }], guard := none })) 122 (v := ?_) (W' := ?_) rfl (by rfl) (by rfl) (fun ev hc hf h0 => ?_) ?_ ?_; rotate_left 2; (focus (obtain ⟨e0, e1, e2, e3, e4⟩ := HS.out _ hW0; first | (go_simp; done) | (go_simp; with_reducible rfl) | (go_simp; constructor <;> with_reducible rfl)))
    · simp only [Act.put, List.setIfInBounds_toArray, List.set_cons_zero, List.set_cons_succ]
      exact EA_0
    exact ar_nil
  refine aw_all [9] (by kernel_rfl) (by simp) ?_
  refine arc3 (o := ({ dst := some 128, op := Go.Op.call { callee := Go.Callee.value (Go.Operand.func 30), args := #[Go.Operand.tmp 123, Go.Operand.tmp 125, Go.Operand.tmp 127], argTypes := #[44, 24, 9] }, type := 35, pos := "law.go:196", after := #[{ on := 4, ground := Go.Ground.data }, { on := 6, ground := Go.Ground.data }, { on := 8, ground := Go.Ground.data }], guard := none })) 123 125 127 _ _ _ rfl (by rfl) (by rfl) (by rfl) (by rfl) (fun ev hc hf h0 h1 h2 => ?_) HAC.out (fun w9 hc9 => ?_) ?_
  · focus (go_simp; done)
  · simp only [Act.put, List.setIfInBounds_toArray, List.set_cons_zero, List.set_cons_succ]
    refine awt1 10 128 (o := ({ dst := some 118, op := Go.Op.move (Go.Operand.tmp 128), type := 35, pos := "law.go:196", after := #[{ on := 9, ground := Go.Ground.data }], guard := none })) (v := ?_) rfl (by kernel_rfl) (by kernel_rfl) (by kernel_rfl) (fun _ _ _ h => h) (by rfl) (by rfl) (fun ev hc hf h0 W => ?_) ?_; rotate_left; (focus (first | (go_simp; done) | (go_simp; with_reducible rfl))); rotate_left; simp only [Act.put, List.setIfInBounds_toArray, List.set_cons_zero, List.set_cons_succ]
    refine awt1 11 118 (o := ({ dst := some 129, op := Go.Op.extract (Go.Operand.tmp 118) 0, type := 4, pos := "law.go:196", after := #[{ on := 10, ground := Go.Ground.data }], guard := none })) (v := ?_) rfl (by kernel_rfl) (by kernel_rfl) (by kernel_rfl) (fun _ _ _ h => h) (by rfl) (by rfl) (fun ev hc hf h0 W => ?_) ?_; rotate_left; (focus (first | (go_simp; done) | (go_simp; with_reducible rfl))); rotate_left; simp only [Act.put, List.setIfInBounds_toArray, List.set_cons_zero, List.set_cons_succ]
    refine awt1 12 118 (o := ({ dst := some 130, op := Go.Op.extract (Go.Operand.tmp 118) 1, type := 30, pos := "law.go:196", after := #[{ on := 10, ground := Go.Ground.data }, { on := 13, ground := Go.Ground.gcOnly Go.Departure.lateStores }], guard := none })) (v := ?_) rfl (by kernel_rfl) (by kernel_rfl) (by kernel_rfl) (fun _ _ _ h => h) (by rfl) (by rfl) (fun ev hc hf h0 W => ?_) ?_; rotate_left; (focus (first | (go_simp; done) | (go_simp; with_reducible rfl))); rotate_left; simp only [Act.put, List.setIfInBounds_toArray, List.set_cons_zero, List.set_cons_succ]
    refine awt1 13 129 (o := ({ dst := some 21, op := Go.Op.assign (Go.Operand.tmp 129), type := 4, pos := "law.go:196", after := #[{ on := 11, ground := Go.Ground.data }, { on := 9, ground := Go.Ground.chain }, { on := 0, ground := Go.Ground.phase }, { on := 1, ground := Go.Ground.phase }, { on := 2, ground := Go.Ground.phase }, { on := 3, ground := Go.Ground.phase }, { on := 4, ground := Go.Ground.phase }, { on := 5, ground := Go.Ground.phase }, { on := 6, ground := Go.Ground.phase }, { on := 7, ground := Go.Ground.phase }, { on := 8, ground := Go.Ground.phase }, { on := 9, ground := Go.Ground.phase }, { on := 10, ground := Go.Ground.phase }, { on := 11, ground := Go.Ground.phase }, { on := 12, ground := Go.Ground.textOnly Go.Departure.lateStores }], guard := none })) (v := ?_) rfl (by kernel_rfl) (by kernel_rfl) (by kernel_rfl) (fun _ _ _ h => h) (by rfl) (by rfl) (fun ev hc hf h0 W => ?_) ?_; rotate_left; (focus (first | (go_simp; done) | (go_simp; with_reducible rfl))); rotate_left; simp only [Act.put, List.setIfInBounds_toArray, List.set_cons_zero, List.set_cons_succ]
    refine awt1 14 130 (o := ({ dst := some 22, op := Go.Op.assign (Go.Operand.tmp 130), type := 30, pos := "law.go:196", after := #[{ on := 12, ground := Go.Ground.data }, { on := 13, ground := Go.Ground.chain }, { on := 0, ground := Go.Ground.phase }, { on := 1, ground := Go.Ground.phase }, { on := 2, ground := Go.Ground.phase }, { on := 3, ground := Go.Ground.phase }, { on := 4, ground := Go.Ground.phase }, { on := 5, ground := Go.Ground.phase }, { on := 6, ground := Go.Ground.phase }, { on := 7, ground := Go.Ground.phase }, { on := 8, ground := Go.Ground.phase }, { on := 9, ground := Go.Ground.phase }, { on := 10, ground := Go.Ground.phase }, { on := 11, ground := Go.Ground.phase }, { on := 12, ground := Go.Ground.phase }, { on := 13, ground := Go.Ground.phase }], guard := none })) (v := ?_) rfl (by kernel_rfl) (by kernel_rfl) (by kernel_rfl) (fun _ _ _ h => h) (by rfl) (by rfl) (fun ev hc hf h0 W => ?_) ?_; rotate_left; (focus (first | (go_simp; done) | (go_simp; with_reducible rfl))); rotate_left; simp only [Act.put, List.setIfInBounds_toArray, List.set_cons_zero, List.set_cons_succ]
    refine aw_done (by kernel_rfl) ?_
    have hOnly : Only col (.acc tn) w1.drew w9 := (show Kept (fun k => col k = .acc tn) w1.drew w1.drew from Kept.refl _ _).grownF hc9.2 (fun k e => by injection e with e; rw [← e]; exact .inl (M0.out.acc tn htn).2)
    have hMem := (M0.out.keep hW0).acc_turn htn _ hc9.1 hOnly
    have hK := (Kept.of_below HB0.out).trans ((Kept.of_below hW0).trans (hOnly.far (by simp) (by simp)))
    have B9 := Lib.hid ((B0.out.bel hW0).grown hc9.2 (by simp; omega))
    have hsz9 : W.heap.size ≤ w9.heap.size := hK.size
    unfold acpt at hMem ⊢
    rw [if_pos hnm, if_neg (show ¬ 8192 < u.size by omega)] at hMem ⊢
    by_cases hlt : cmpB r n (S.ac tn).pr (S.ac tn).pn < 0
    · rw [if_pos hlt] at hMem ⊢
      dsimp only at hMem ⊢
      rw [setA_same] at hMem
      have HT := Lib.hid (show Taken W col S A gA gL mL (.slice (some ⟨bn, 0, none⟩) S.N cn) sh sa M w9 (.slice none 0 0) col S A pp [] from
        ⟨hMem, HH.out, Ext.refl _ _, rfl, (fun m hm => by cases hm), World.ownsRow_nil _ _ _ _, Nat.zero_le _, hK, fun _ _ => rfl, ⟨fun k hk => Nat.le_succ_of_le (HS0.out.1 k hk), fun q Q hQ => Nat.le_succ_of_le (HS0.out.2 q Q hQ)⟩⟩)
      clear HAC HS hW0 hc9 hOnly B0 M0 HB0 hMem hK
      go_wp2_with fail
      exact bodyPost_ret (v := .tuple #[.slice none 0 0, .bool true]) (by simp [results, Try.results55, go_sem]) rfl ⟨_, _, _, _, _, _, rfl, HT.out⟩
    · rw [if_neg hlt] at hMem ⊢
      dsimp only at hMem ⊢
      have hpr := prep_le hlt
      have hInv := Lib.hid (HH.out.accept htn hr1 HM.out.2.2.2.1 HM.out.2.2.1 HM.out.2.2.2.2 hpr)
      have hExt := Lib.hid (ext_accept (S := S) A (n := n) (u := u) hpr)
      have HMem := Lib.hid (show Mem w9 col (S.accept tn r n u) gA gL mL pp (.slice (some ⟨bn, 0, none⟩) S.N cn) sh sa from hMem)
      have HK := Lib.hid hK
      have hq0 : w9.cell? ⟨W.heap.size, 0, none⟩ = some (.int .i64 2) := B9.out.cell 0
      obtain ⟨q1, q2, q3, q4, q9⟩ : w9.cell? ⟨W.heap.size, 1, none⟩ = some (.int .i64 (p : Nat)) ∧ w9.cell? ⟨W.heap.size, 2, none⟩ = some (.int .i64 (tn : Nat)) ∧ w9.cell? ⟨W.heap.size, 3, none⟩ = some (.int .u64 r) ∧ w9.cell? ⟨W.heap.size, 4, none⟩ = some (.int .i64 n) ∧ w9.cell? ⟨W.heap.size, 9, none⟩ = some (.string u) := ⟨B9.out.cell 1, B9.out.cell 2, B9.out.cell 3, B9.out.cell 4, B9.out.cell 9⟩
      clear HAC HS hW0 hc9 hOnly B0 M0 HB0 hMem hK hpr hlt
      go_wp2_with (at_builtin; refine wpList_append_own _ rfl _ _ 101 rfl w9.heap.size 105 i0 _ 10 96 Try.underlying101 hi iz0 iz1 iz2 rfl (by decide) _ _ _ rfl ((World.ownsRow_nil w9 w9.heap.size 105 10).alloc _) ⟨w9.heap.size, 0, none⟩ 1 1 [.int .i64 3, .int .i64 (p : Nat), .int .i64 (tn : Nat), .int .u64 r, .int .i64 n, .bool false, .int .u64 0, .int .i64 0, .string ⟨#[]⟩, .string u] rfl rfl (cells_new _ _ _) (by simp [Value.oneCell']) (by unfold maxLen; omega) (by omega) (by first | (simp; done) | (simp; omega)) ?_; intro s2 w6 hown' hgrow _)
      have hB1 : Below w9.heap.size w9 w6 := ((Below.refl w9.heap.size w9).alloc (Nat.le_refl _) _).grown hgrow (by simp) (fun k e => by cases e)
      have hrow0 : w6.ownsRow w9.heap.size 105 10 s2 1 (flatN (outs p tn r n u 0)) := hown'
      clear hgrow hown' q1 q2 q3 q4 q9 hq0
      go_wp2_with fail
      go_loopw [12, 23] (fun z i wr => ∃ (k : Nat) (y : Value), y = z ∧ k ≤ S.N ∧ i = .int .i64 k ∧ wr.ownsRow w9.heap.size 105 10 y (k + 1) (flatN (outs p tn r n u k)) ∧ Below w9.heap.size w9 wr) (fun _ i _ => S.N + 1 - (intOf i).toNat)
      case atStart => exact ⟨0, _, rfl, Nat.zero_le _, rfl, hrow0, hB1⟩
      case round =>
        obtain ⟨k, y, rfl, hk, rfl, hrow, HB⟩ := hrel
        clear hrow0 hB1
        have hki : (k : Int) ≤ (S.N : Int) := by omega
        have hszr := HB.size
        by_cases hkl : k < S.N
        · have hne : (k : Int) < (S.N : Int) := by omega
          have Br := B9.out.bel HB
          obtain ⟨q2, q3, q4, q9⟩ : wr.cell? ⟨W.heap.size, 2, none⟩ = some (.int .i64 (tn : Nat)) ∧ wr.cell? ⟨W.heap.size, 3, none⟩ = some (.int .u64 r) ∧ wr.cell? ⟨W.heap.size, 4, none⟩ = some (.int .i64 n) ∧ wr.cell? ⟨W.heap.size, 9, none⟩ = some (.string u) := ⟨Br.cell 2, Br.cell 3, Br.cell 4, Br.cell 9⟩
          clear Br
          go_wp2_with (at_builtin; refine wpList_append_own _ rfl _ _ 101 rfl w9.heap.size 105 i0 _ 10 96 Try.underlying101 hi iz0 iz1 iz2 rfl (by decide) _ _ _ rfl (hrow.alloc _) ⟨wr.heap.size, 0, none⟩ 1 1 [.int .i64 4, .int .i64 (k : Nat), .int .i64 (tn : Nat), .int .u64 r, .int .i64 n, .bool false, .int .u64 0, .int .i64 0, .string ⟨#[]⟩, .string u] rfl rfl (cells_new _ _ _) (by simp [Value.oneCell']) (by unfold maxLen; omega) (by omega) (by first | (simp; done) | (simp; omega)) ?_; intro s2 w6 hown' hgrow _)
          have hB2 := (HB.alloc hszr (.cells #[.int .i64 4, .int .i64 (k : Nat), .int .i64 (tn : Nat), .int .u64 r, .int .i64 n, .bool false, .int .u64 0, .int .i64 0, .string ⟨#[]⟩, .string u] 105)).grown hgrow (by simp; omega) (fun j e => (hrow.lt j e).1)
          have hfl : w6.ownsRow w9.heap.size 105 10 s2 (k + 1 + 1) (flatN (outs p tn r n u (k + 1))) := by
            rw [outs_succ, flatN_snoc]
            exact hown'
          clear hown' hgrow q2 q3 q4 q9
          go_roundw
          case rel => exact ⟨k + 1, _, rfl, by omega, by go_num, hfl, hB2⟩
          case measure => simp [intOf]; omega
        · have hkN : k = S.N := by omega
          have hlen := outs_len p tn r n u S.N
          have HT := Lib.hid (show Taken W col S A gA gL mL (.slice (some ⟨bn, 0, none⟩) S.N cn) sh sa M wr y col (S.accept tn r n u) (more A tn r) pp (outs p tn r n u S.N) from
            ⟨HMem.out.keep HB, hInv.out, hExt.out, rfl, fun m hm => by
              have hA' : more A tn r tn r := .inr ⟨rfl, rfl⟩
              have hen : (S.accept tn r n u).En r := HM.out.2.2.2.1
              unfold outs at hm
              rcases List.mem_cons.1 hm with rfl | hm
              · exact ⟨htn, hus, .inr (.inr (.inr (.inl ⟨rfl, ⟨HM.out.1, HM.out.2.1, HM.out.2.2.1⟩, hA'⟩)))⟩
              · obtain ⟨i, hi, rfl⟩ := List.mem_map.1 hm
                exact ⟨htn, hus, .inr (.inr (.inr (.inr ⟨rfl, List.mem_range.1 hi, hA', HM.out.2.2.1, HM.out.2.2.2.2⟩)))⟩,
              by rw [hlen, ← hkN]; exact row_base hrow hsz9, by rw [hlen]; omega, HK.out.trans (Kept.of_below HB), fun _ _ => rfl, ⟨fun k hk => Nat.le_succ_of_le (HS0.out.1 k hk), fun q Q hQ => Nat.le_succ_of_le (HS0.out.2 q Q hQ)⟩⟩)
          clear hrow HB HMem hInv hExt HK
          go_wp2_with fail
          exact bodyPost_ret (v := .tuple #[y, .bool true]) (by simp [results, Try.results55, go_sem]) rfl ⟨_, _, _, _, _, _, rfl, HT.out⟩
  exact ar_nil

end Go.Proofs.Ytlgljcfkoakogaa
