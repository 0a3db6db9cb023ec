import Derived.Test.YtlgljcfkoakogaaLZ5
namespace Go.Proofs.Ytlgljcfkoakogaa
open Go.RowKit
set_option linter.unusedSimpArgs false
set_option linter.unusedVariables false


open Go.Maps Go.Shelf
theorem prom_nn (P : Prp) (x : Int) (v : Vt) : (pProm P x v).2.nn ≤ P.nn + 1 := by
  rcases prom_cases P x v with ⟨h, _⟩ | ⟨_, _, h⟩
  · rw [h]; omega
  · rw [h]; exact Nat.le_refl _
/-- What a proposer sends once it may. -/
def sent (p : Nat) (r n : Int) (u : ByteArray) (k : Nat) : List Nt := (List.range k).map fun i => ⟨2, p, i, r, n, Vt.zero, u⟩
theorem sent_succ (p : Nat) (r n : Int) (u : ByteArray) (k : Nat) : sent p r n u (k + 1) = sent p r n u k ++ [⟨2, p, k, r, n, Vt.zero, u⟩] := by
  unfold sent
  rw [List.range_succ, List.map_append]
  rfl
theorem sent_len (p : Nat) (r n : Int) (u : ByteArray) (k : Nat) : (sent p r n u k).length = k := by simp [sent]
set_option maxRecDepth 100000
set_option maxHeartbeats 6400000
theorem taken1 {W : World} {col : Nat → Col} {S : Sys} {A : Nat → Int → Prop} {gA gL mL : Nat → Nat} {pp : Nat → PAt} {sn sh sa : Value} {M : Nat} (h : Mem W col S gA gL mL pp sn sh sa) (hI : Inv S A) (hS : Small S M) (hM : M < 999999) (p tn : Nat) (r n : Int) (c : Vt) (u : ByteArray) (hm : MsgOk S A ⟨1, p, tn, r, n, c, u⟩) :
    Calls Try.prog 55 #[.agg #[.int .i64 1, .int .i64 (p : Nat), .int .i64 (tn : Nat), .int .u64 r, .int .i64 n, .bool c.has, .int .u64 c.r, .int .i64 c.n, .string c.val, .string u], sn, sh, sa, .int .i64 S.N] W (TakenPost W col S A gA gL mL sn sh sa M) := by
  have hkk : p < S.ps.length ∧ r = (p : Int) + 1 ∧ n = S.nd r ∧ PR S A tn r c := by
    rcases hm.kinds with ⟨h0, _⟩ | ⟨_, h1, h2⟩ | ⟨h0, _⟩ | ⟨h0, _⟩ | ⟨h0, _⟩
    · cases h0
    · exact ⟨h1.p, h1.r, h1.n, h2⟩
    · cases h0
    · cases h0
    · cases h0
  obtain ⟨hp, rfl, rfl, hPR⟩ := hkk
  have htn : tn < S.N := hm.tn
  obtain ⟨P, hP, hPr, hPn, hPok, hPat⟩ := get_ps hI hp
  have hpm := pmay_ok hI hP hPR
  have hnm : mayB ((p : Int) + 1) (S.nd ((p : Int) + 1)) = true := (named_split (named_all hI (r := (p : Int) + 1) (by rw [hPat]; simp))).1
  obtain ⟨bm, P', hpp⟩ : ∃ bm P', pProm P (tn : Int) c = (bm, P') := ⟨_, _, rfl⟩
  have hPnn := prom_nn P (tn : Int) c
  have hnf : ¬ Foot (pp p).g (pp p).pm (pp p).am (pp p).s W.heap.size := by
    obtain ⟨h1, _⟩ := h.prp p P hP
    rintro (e | e | e | e)
    · have := h1.bk.lt; omega
    · have := h1.pr.lt; omega
    · have := h1.ac.lt; omega
    · have := (h1.row.lt _ e).2; omega
  have hturn := prom_turn hI hP (x := (tn : Int)) (v := c) (by omega) (by rw [Int.toNat_natCast]; exact hPR)
  rw [hpp] at hturn hPnn
  dsimp only at hturn hPnn
  obtain ⟨hInv, hExt, hSend⟩ := hturn
  generalize hnn : S.nd ((p : Int) + 1) = n at *
  generalize hrr : (p : Int) + 1 = r at *
  have hb0 := (Below.refl W.heap.size W).alloc (Nat.le_refl _) (.cells #[.int .i64 1, .int .i64 (p : Nat), .int .i64 (tn : Nat), .int .u64 r, .int .i64 n, .bool c.has, .int .u64 c.r, .int .i64 c.n, .string c.val, .string u] 105)
  have B0 := Lib.hid (Bk.new W #[.int .i64 1, .int .i64 (p : Nat), .int .i64 (tn : Nat), .int .u64 r, .int .i64 n, .bool c.has, .int .u64 c.r, .int .i64 c.n, .string c.val, .string u] 105)
  have M0 := Lib.hid (h.keep hb0)
  have HH := Lib.hid hI
  have HS0 := Lib.hid hS
  have HB0 := Lib.hid hb0
  have HP := Lib.hid (And.intro hP (And.intro hPr (And.intro hPn (And.intro hPok hp))))
  have hrr' := Lib.hid hrr
  have hnn' := Lib.hid hnn
  have hInv := Lib.hid hInv
  have hExt := Lib.hid hExt
  have HSend := Lib.hid hSend
  have hPnn := Lib.hid hPnn
  have hnf := Lib.hid hnf
  have hpp := Lib.hid hpp
  obtain ⟨i0, hi, iz0, iz1, iz2⟩ := info_parts Try.info105
  have hN7 := hI.pos.2
  obtain ⟨ba, ca, rfl, hcell⟩ := ptr_cell M0.out.all.1 hp
  have k0 : (W.alloc (.cells #[.int .i64 1, .int .i64 (p : Nat), .int .i64 (tn : Nat), .int .u64 r, .int .i64 n, .bool c.has, .int .u64 c.r, .int .i64 c.n, .string c.val, .string u] 105)).cell? ⟨W.heap.size, 0, none⟩ = some (.int .i64 1) := B0.out.cell 0
  clear h hI hS hm hb0 hP hPr hPn hnn hrr hPat hPok hPR hSend
  go_enter Try.func55, Try.ntmps55
  go_upto_region 10 with fail
  have hszw1 := Lib.hid (show W.heap.size ≤ (W.alloc (.cells #[.int .i64 1, .int .i64 (p : Nat), .int .i64 (tn : Nat), .int .u64 r, .int .i64 n, .bool c.has, .int .u64 c.r, .int .i64 c.n, .string c.val, .string u] 105)).drew.heap.size by simp)
  generalize W.alloc (.cells #[.int .i64 1, .int .i64 (p : Nat), .int .i64 (tn : Nat), .int .u64 r, .int .i64 n, .bool c.has, .int .u64 c.r, .int .i64 c.n, .string c.val, .string u] 105) = w1 at B0 M0 HB0 hcell hszw1 ⊢
  have HS := Lib.hid (show ∀ w', Bel w1 w' → w'.cell? ⟨ba, p, none⟩ = some (.pointer (some ⟨(pp p).g, 0, none⟩)) ∧ w'.cell? ⟨W.heap.size, 1, none⟩ = some (.int .i64 (p : Nat)) ∧ w'.cell? ⟨W.heap.size, 2, none⟩ = some (.int .i64 (tn : Nat)) ∧ w'.cell? ⟨W.heap.size, 3, none⟩ = some (.int .u64 r) ∧ w'.cell? ⟨W.heap.size, 4, none⟩ = some (.int .i64 n) ∧ w'.cell? ⟨W.heap.size, 5, none⟩ = some (.bool c.has) ∧ w'.cell? ⟨W.heap.size, 6, none⟩ = some (.int .u64 c.r) ∧ w'.cell? ⟨W.heap.size, 7, none⟩ = some (.int .i64 c.n) ∧ w'.cell? ⟨W.heap.size, 8, none⟩ = some (.string c.val) from
    fun w' hw => ⟨Bel.cell hw hcell, (B0.out.bel hw).cell 1, (B0.out.bel hw).cell 2, (B0.out.bel hw).cell 3, (B0.out.bel hw).cell 4, (B0.out.bel hw).cell 5, (B0.out.bel hw).cell 6, (B0.out.bel hw).cell 7, (B0.out.bel hw).cell 8⟩)
  have hW0 : Bel w1 w1.drew := (Bel.refl w1).drew
  have hPA := (M0.out.prp p P HP.out.1).1.keep hW0
  have hac := ppromise_any (tn : Int) c hPA (by omega) (by rw [HP.out.2.2.2.1.hN]; omega) (by rw [HP.out.2.1, HP.out.2.2.1]; exact hnm) hpm (by have := HS0.out.2 p P HP.out.1; omega)
  rw [HP.out.2.1, HP.out.2.2.1, hpp.out] at hac
  unfold Vt.v at hac
  have HAC := Lib.hid hac
  have hps : (p : Int) < (S.ps.length : Int) := by omega
  clear hac hcell hPA hnm hpm
  refine wp_aw 17 #[false, false, false, false, false, false, false, false, false, false, false, false, false, false, false, false, false] rfl rfl ?_
  refine aw_join 6 ?LEA_0 ?FEA_0 w1.drew (fun EA_0 => ?_) ?_; rotate_left 2
  refine aw_join 7 ?LEA_1 ?FEA_1 w1.drew (fun EA_1 => ?_) ?_; rotate_left 2
  refine aw_join 7 ?LEA_2 ?FEA_2 w1.drew (fun EA_2 => ?_) ?_; rotate_left 2
  refine aw_join 7 ?LEA_3 ?FEA_3 w1.drew (fun EA_3 => ?_) ?_; rotate_left 2
  refine aw_join 7 ?LEA_4 ?FEA_4 w1.drew (fun EA_4 => ?_) ?_; rotate_left 2
  refine aw_join 8 ?LEA_5 ?FEA_5 w1.drew (fun EA_5 => ?_) ?_; rotate_left 2
  refine aw_join 8 ?LEA_6 ?FEA_6 w1.drew (fun EA_6 => ?_) ?_; rotate_left 2
  refine aw_join 8 ?LEA_7 ?FEA_7 w1.drew (fun EA_7 => ?_) ?_; rotate_left 2
  refine aw_join 8 ?LEA_8 ?FEA_8 w1.drew (fun EA_8 => ?_) ?_; rotate_left 2
  refine aw_join 8 ?LEA_9 ?FEA_9 w1.drew (fun EA_9 => ?_) ?_; rotate_left 2
  refine aw_join 8 ?LEA_10 ?FEA_10 w1.drew (fun EA_10 => ?_) ?_; rotate_left 2
  refine aw_join 9 ?LEA_11 ?FEA_11 w1.drew (fun EA_11 => ?_) ?_; rotate_left 2
  refine aw_join 9 ?LEA_12 ?FEA_12 w1.drew (fun EA_12 => ?_) ?_; rotate_left 2
  refine aw_join 9 ?LEA_13 ?FEA_13 w1.drew (fun EA_13 => ?_) ?_; rotate_left 2
  refine aw_join 9 ?LEA_14 ?FEA_14 w1.drew (fun EA_14 => ?_) ?_; rotate_left 2
  refine aw_join 9 ?LEA_15 ?FEA_15 w1.drew (fun EA_15 => ?_) ?_; rotate_left 2
  refine aw_join 10 ?LEA_16 ?FEA_16 w1.drew (fun EA_16 => ?_) ?_; rotate_left 2
  refine aw_join 10 ?LEA_17 ?FEA_17 w1.drew (fun EA_17 => ?_) ?_; rotate_left 2
  refine aw_join 10 ?LEA_18 ?FEA_18 w1.drew (fun EA_18 => ?_) ?_; rotate_left 2
  refine aw_join 10 ?LEA_19 ?FEA_19 w1.drew (fun EA_19 => ?_) ?_; rotate_left 2
  refine aw_join 11 ?LEA_20 ?FEA_20 w1.drew (fun EA_20 => ?_) ?_; rotate_left 2
  refine aw_join 11 ?LEA_21 ?FEA_21 w1.drew (fun EA_21 => ?_) ?_; rotate_left 2
  refine aw_join 11 ?LEA_22 ?FEA_22 w1.drew (fun EA_22 => ?_) ?_; rotate_left 2
  · refine awt1 0 3 (o := ({ dst := some 73, op := Go.Op.move (Go.Operand.tmp 3), type := 100, pos := "law.go:187", after := #[], guard := none })) (v := ?_) rfl (by kernel_rfl) (by kernel_rfl) (by kernel_rfl) (fun _ _ _ h => h) (by rfl) (by rfl) (fun ev hc hf h0 W => ?_) ?_; rotate_left; (focus (first | (go_simp; done) | (go_simp; with_reducible rfl))); rotate_left; simp only [Act.put, List.setIfInBounds_toArray, List.set_cons_zero, List.set_cons_succ]
    refine awt1 1 5 (o := ({ dst := some 74, op := Go.Op.fieldAddr 105 (Go.Operand.tmp 5) 1, type := 0, pos := "law.go:187", after := #[], guard := none })) (v := ?_) rfl (by kernel_rfl) (by kernel_rfl) (by kernel_rfl) (fun _ _ _ h => h) (by rfl) (by rfl) (fun ev hc hf h0 W => ?_) ?_; rotate_left; (focus (first | (go_simp; done) | (go_simp; with_reducible rfl))); rotate_left; simp only [Act.put, List.setIfInBounds_toArray, List.set_cons_zero, List.set_cons_succ]
    refine awt1 5 5 (o := ({ dst := some 78, op := Go.Op.fieldAddr 105 (Go.Operand.tmp 5) 2, type := 0, pos := "law.go:187", after := #[], guard := none })) (v := ?_) rfl (by kernel_rfl) (by kernel_rfl) (by kernel_rfl) (fun _ _ _ h => h) (by rfl) (by rfl) (fun ev hc hf h0 W => ?_) ?_; rotate_left; (focus (first | (go_simp; done) | (go_simp; with_reducible rfl))); rotate_left; simp only [Act.put, List.setIfInBounds_toArray, List.set_cons_zero, List.set_cons_succ]
    refine awt1 7 5 (o := ({ dst := some 80, op := Go.Op.fieldAddr 105 (Go.Operand.tmp 5) 3, type := 0, pos := "law.go:187", after := #[], guard := none })) (v := ?_) rfl (by kernel_rfl) (by kernel_rfl) (by kernel_rfl) (fun _ _ _ h => h) (by rfl) (by rfl) (fun ev hc hf h0 W => ?_) ?_; rotate_left; (focus (first | (go_simp; done) | (go_simp; with_reducible rfl))); rotate_left; simp only [Act.put, List.setIfInBounds_toArray, List.set_cons_zero, List.set_cons_succ]
    refine awt1 9 5 (o := ({ dst := some 82, op := Go.Op.fieldAddr 105 (Go.Operand.tmp 5) 4, type := 0, pos := "law.go:187", after := #[], guard := none })) (v := ?_) rfl (by kernel_rfl) (by kernel_rfl) (by kernel_rfl) (fun _ _ _ h => h) (by rfl) (by rfl) (fun ev hc hf h0 W => ?_) ?_; rotate_left; (focus (first | (go_simp; done) | (go_simp; with_reducible rfl))); rotate_left; simp only [Act.put, List.setIfInBounds_toArray, List.set_cons_zero, List.set_cons_succ]
    refine aw_all [2, 6, 8, 10] (by kernel_rfl) (by simp) ?_
    refine arv1 (o := ({ dst := some 75, op := Go.Op.load 3 (Go.Operand.tmp 74), type := 3, pos := "law.go:187", after := #[{ on := 1, ground := Go.Ground.data }], guard := none })) 74 (v := ?_) (W' := ?_) rfl (by rfl) (by rfl) (fun ev hc hf h0 => ?_) ?_ ?_; rotate_left 2; (focus (obtain ⟨e0, e1, e2, e3, e4, e5, e6, e7, e8⟩ := HS.out _ hW0; first | (go_simp; done) | (go_simp; with_reducible rfl) | (go_simp; constructor <;> with_reducible rfl)))
    · simp only [Act.put, List.setIfInBounds_toArray, List.set_cons_zero, List.set_cons_succ]
      refine awt2 3 73 75 (o := ({ dst := some 76, op := Go.Op.indexAddr 100 (Go.Operand.tmp 73) (Go.Operand.tmp 75), type := 0, pos := "law.go:187", after := #[{ on := 0, ground := Go.Ground.data }, { on := 2, ground := Go.Ground.data }], guard := none })) (v := ?_) rfl (by kernel_rfl) (by kernel_rfl) (by kernel_rfl) (fun _ _ _ h => h) (by rfl) (by rfl) (by rfl) (fun ev hc hf h0 h1 W => ?_) ?_; rotate_left; (focus (first | (go_simp; done) | (go_simp; with_reducible rfl))); rotate_left; simp only [Act.put, List.setIfInBounds_toArray, List.set_cons_zero, List.set_cons_succ]
      exact EA_19
    refine arv1 (o := ({ dst := some 79, op := Go.Op.load 3 (Go.Operand.tmp 78), type := 3, pos := "law.go:187", after := #[{ on := 5, ground := Go.Ground.data }], guard := none })) 78 (v := ?_) (W' := ?_) rfl (by rfl) (by rfl) (fun ev hc hf h0 => ?_) ?_ ?_; rotate_left 2; (focus (obtain ⟨e0, e1, e2, e3, e4, e5, e6, e7, e8⟩ := HS.out _ hW0; first | (go_simp; done) | (go_simp; with_reducible rfl) | (go_simp; constructor <;> with_reducible rfl)))
    · simp only [Act.put, List.setIfInBounds_toArray, List.set_cons_zero, List.set_cons_succ]
      exact EA_22
    refine arv1 (o := ({ dst := some 81, op := Go.Op.load 24 (Go.Operand.tmp 80), type := 24, pos := "law.go:187", after := #[{ on := 7, ground := Go.Ground.data }], guard := none })) 80 (v := ?_) (W' := ?_) rfl (by rfl) (by rfl) (fun ev hc hf h0 => ?_) ?_ ?_; rotate_left 2; (focus (obtain ⟨e0, e1, e2, e3, e4, e5, e6, e7, e8⟩ := HS.out _ hW0; first | (go_simp; done) | (go_simp; with_reducible rfl) | (go_simp; constructor <;> with_reducible rfl)))
    · simp only [Act.put, List.setIfInBounds_toArray, List.set_cons_zero, List.set_cons_succ]
      exact EA_21
    refine arv1 (o := ({ dst := some 83, op := Go.Op.load 46 (Go.Operand.tmp 82), type := 46, pos := "law.go:187", after := #[{ on := 9, ground := Go.Ground.data }], guard := none })) 82 (v := ?_) (W' := ?_) rfl (by rfl) (by rfl) (fun ev hc hf h0 => ?_) ?_ ?_; rotate_left 2; (focus (obtain ⟨e0, e1, e2, e3, e4, e5, e6, e7, e8⟩ := HS.out _ hW0; first | (go_simp; done) | (go_simp; with_reducible rfl) | (go_simp; constructor <;> with_reducible rfl)))
    · simp only [Act.put, List.setIfInBounds_toArray, List.set_cons_zero, List.set_cons_succ]
      exact EA_20
    exact ar_nil
  · refine aw_all [2, 8, 10] (by kernel_rfl) (by simp) ?_
    refine arv1 (o := ({ dst := some 75, op := Go.Op.load 3 (Go.Operand.tmp 74), type := 3, pos := "law.go:187", after := #[{ on := 1, ground := Go.Ground.data }], guard := none })) 74 (v := ?_) (W' := ?_) rfl (by rfl) (by rfl) (fun ev hc hf h0 => ?_) ?_ ?_; rotate_left 2; (focus (obtain ⟨e0, e1, e2, e3, e4, e5, e6, e7, e8⟩ := HS.out _ hW0; first | (go_simp; done) | (go_simp; with_reducible rfl) | (go_simp; constructor <;> with_reducible rfl)))
    · simp only [Act.put, List.setIfInBounds_toArray, List.set_cons_zero, List.set_cons_succ]
      refine awt2 3 73 75 (o := ({ dst := some 76, op := Go.Op.indexAddr 100 (Go.Operand.tmp 73) (Go.Operand.tmp 75), type := 0, pos := "law.go:187", after := #[{ on := 0, ground := Go.Ground.data }, { on := 2, ground := Go.Ground.data }], guard := none })) (v := ?_) rfl (by kernel_rfl) (by kernel_rfl) (by kernel_rfl) (fun _ _ _ h => h) (by rfl) (by rfl) (by rfl) (fun ev hc hf h0 h1 W => ?_) ?_; rotate_left; (focus (first | (go_simp; done) | (go_simp; with_reducible rfl))); rotate_left; simp only [Act.put, List.setIfInBounds_toArray, List.set_cons_zero, List.set_cons_succ]
      exact EA_14
    refine arv1 (o := ({ dst := some 81, op := Go.Op.load 24 (Go.Operand.tmp 80), type := 24, pos := "law.go:187", after := #[{ on := 7, ground := Go.Ground.data }], guard := none })) 80 (v := ?_) (W' := ?_) rfl (by rfl) (by rfl) (fun ev hc hf h0 => ?_) ?_ ?_; rotate_left 2; (focus (obtain ⟨e0, e1, e2, e3, e4, e5, e6, e7, e8⟩ := HS.out _ hW0; first | (go_simp; done) | (go_simp; with_reducible rfl) | (go_simp; constructor <;> with_reducible rfl)))
    · simp only [Act.put, List.setIfInBounds_toArray, List.set_cons_zero, List.set_cons_succ]
      exact EA_18
    refine arv1 (o := ({ dst := some 83, op := Go.Op.load 46 (Go.Operand.tmp 82), type := 46, pos := "law.go:187", after := #[{ on := 9, ground := Go.Ground.data }], guard := none })) 82 (v := ?_) (W' := ?_) rfl (by rfl) (by rfl) (fun ev hc hf h0 => ?_) ?_ ?_; rotate_left 2; (focus (obtain ⟨e0, e1, e2, e3, e4, e5, e6, e7, e8⟩ := HS.out _ hW0; first | (go_simp; done) | (go_simp; with_reducible rfl) | (go_simp; constructor <;> with_reducible rfl)))
    · simp only [Act.put, List.setIfInBounds_toArray, List.set_cons_zero, List.set_cons_succ]
      exact EA_17
    exact ar_nil
  · refine aw_all [2, 6, 10] (by kernel_rfl) (by simp) ?_
    refine arv1 (o := ({ dst := some 75, op := Go.Op.load 3 (Go.Operand.tmp 74), type := 3, pos := "law.go:187", after := #[{ on := 1, ground := Go.Ground.data }], guard := none })) 74 (v := ?_) (W' := ?_) rfl (by rfl) (by rfl) (fun ev hc hf h0 => ?_) ?_ ?_; rotate_left 2; (focus (obtain ⟨e0, e1, e2, e3, e4, e5, e6, e7, e8⟩ := HS.out _ hW0; first | (go_simp; done) | (go_simp; with_reducible rfl) | (go_simp; constructor <;> with_reducible rfl)))
    · simp only [Act.put, List.setIfInBounds_toArray, List.set_cons_zero, List.set_cons_succ]
      refine awt2 3 73 75 (o := ({ dst := some 76, op := Go.Op.indexAddr 100 (Go.Operand.tmp 73) (Go.Operand.tmp 75), type := 0, pos := "law.go:187", after := #[{ on := 0, ground := Go.Ground.data }, { on := 2, ground := Go.Ground.data }], guard := none })) (v := ?_) rfl (by kernel_rfl) (by kernel_rfl) (by kernel_rfl) (fun _ _ _ h => h) (by rfl) (by rfl) (by rfl) (fun ev hc hf h0 h1 W => ?_) ?_; rotate_left; (focus (first | (go_simp; done) | (go_simp; with_reducible rfl))); rotate_left; simp only [Act.put, List.setIfInBounds_toArray, List.set_cons_zero, List.set_cons_succ]
      exact EA_13
    refine arv1 (o := ({ dst := some 79, op := Go.Op.load 3 (Go.Operand.tmp 78), type := 3, pos := "law.go:187", after := #[{ on := 5, ground := Go.Ground.data }], guard := none })) 78 (v := ?_) (W' := ?_) rfl (by rfl) (by rfl) (fun ev hc hf h0 => ?_) ?_ ?_; rotate_left 2; (focus (obtain ⟨e0, e1, e2, e3, e4, e5, e6, e7, e8⟩ := HS.out _ hW0; first | (go_simp; done) | (go_simp; with_reducible rfl) | (go_simp; constructor <;> with_reducible rfl)))
    · simp only [Act.put, List.setIfInBounds_toArray, List.set_cons_zero, List.set_cons_succ]
      exact EA_18
    refine arv1 (o := ({ dst := some 83, op := Go.Op.load 46 (Go.Operand.tmp 82), type := 46, pos := "law.go:187", after := #[{ on := 9, ground := Go.Ground.data }], guard := none })) 82 (v := ?_) (W' := ?_) rfl (by rfl) (by rfl) (fun ev hc hf h0 => ?_) ?_ ?_; rotate_left 2; (focus (obtain ⟨e0, e1, e2, e3, e4, e5, e6, e7, e8⟩ := HS.out _ hW0; first | (go_simp; done) | (go_simp; with_reducible rfl) | (go_simp; constructor <;> with_reducible rfl)))
    · simp only [Act.put, List.setIfInBounds_toArray, List.set_cons_zero, List.set_cons_succ]
      exact EA_16
    exact ar_nil
  · refine aw_all [2, 6, 8] (by kernel_rfl) (by simp) ?_
    refine arv1 (o := ({ dst := some 75, op := Go.Op.load 3 (Go.Operand.tmp 74), type := 3, pos := "law.go:187", after := #[{ on := 1, ground := Go.Ground.data }], guard := none })) 74 (v := ?_) (W' := ?_) rfl (by rfl) (by rfl) (fun ev hc hf h0 => ?_) ?_ ?_; rotate_left 2; (focus (obtain ⟨e0, e1, e2, e3, e4, e5, e6, e7, e8⟩ := HS.out _ hW0; first | (go_simp; done) | (go_simp; with_reducible rfl) | (go_simp; constructor <;> with_reducible rfl)))
    · simp only [Act.put, List.setIfInBounds_toArray, List.set_cons_zero, List.set_cons_succ]
      refine awt2 3 73 75 (o := ({ dst := some 76, op := Go.Op.indexAddr 100 (Go.Operand.tmp 73) (Go.Operand.tmp 75), type := 0, pos := "law.go:187", after := #[{ on := 0, ground := Go.Ground.data }, { on := 2, ground := Go.Ground.data }], guard := none })) (v := ?_) rfl (by kernel_rfl) (by kernel_rfl) (by kernel_rfl) (fun _ _ _ h => h) (by rfl) (by rfl) (by rfl) (fun ev hc hf h0 h1 W => ?_) ?_; rotate_left; (focus (first | (go_simp; done) | (go_simp; with_reducible rfl))); rotate_left; simp only [Act.put, List.setIfInBounds_toArray, List.set_cons_zero, List.set_cons_succ]
      exact EA_12
    refine arv1 (o := ({ dst := some 79, op := Go.Op.load 3 (Go.Operand.tmp 78), type := 3, pos := "law.go:187", after := #[{ on := 5, ground := Go.Ground.data }], guard := none })) 78 (v := ?_) (W' := ?_) rfl (by rfl) (by rfl) (fun ev hc hf h0 => ?_) ?_ ?_; rotate_left 2; (focus (obtain ⟨e0, e1, e2, e3, e4, e5, e6, e7, e8⟩ := HS.out _ hW0; first | (go_simp; done) | (go_simp; with_reducible rfl) | (go_simp; constructor <;> with_reducible rfl)))
    · simp only [Act.put, List.setIfInBounds_toArray, List.set_cons_zero, List.set_cons_succ]
      exact EA_17
    refine arv1 (o := ({ dst := some 81, op := Go.Op.load 24 (Go.Operand.tmp 80), type := 24, pos := "law.go:187", after := #[{ on := 7, ground := Go.Ground.data }], guard := none })) 80 (v := ?_) (W' := ?_) rfl (by rfl) (by rfl) (fun ev hc hf h0 => ?_) ?_ ?_; rotate_left 2; (focus (obtain ⟨e0, e1, e2, e3, e4, e5, e6, e7, e8⟩ := HS.out _ hW0; first | (go_simp; done) | (go_simp; with_reducible rfl) | (go_simp; constructor <;> with_reducible rfl)))
    · simp only [Act.put, List.setIfInBounds_toArray, List.set_cons_zero, List.set_cons_succ]
      exact EA_16
    exact ar_nil
  · refine aw_all [4, 6, 8, 10] (by kernel_rfl) (by simp) ?_
    refine arv1 (o := ({ dst := some 77, op := Go.Op.load 86 (Go.Operand.tmp 76), type := 86, pos := "law.go:187", after := #[{ on := 3, ground := Go.Ground.data }], guard := none })) 76 (v := ?_) (W' := ?_) rfl (by rfl) (by rfl) (fun ev hc hf h0 => ?_) ?_ ?_; rotate_left 2; (focus (obtain ⟨e0, e1, e2, e3, e4, e5, e6, e7, e8⟩ := HS.out _ hW0; first | (go_simp; done) | (go_simp; with_reducible rfl) | (go_simp; constructor <;> with_reducible rfl)))
    · simp only [Act.put, List.setIfInBounds_toArray, List.set_cons_zero, List.set_cons_succ]
      exact EA_15
    refine arv1 (o := ({ dst := some 79, op := Go.Op.load 3 (Go.Operand.tmp 78), type := 3, pos := "law.go:187", after := #[{ on := 5, ground := Go.Ground.data }], guard := none })) 78 (v := ?_) (W' := ?_) rfl (by rfl) (by rfl) (fun ev hc hf h0 => ?_) ?_ ?_; rotate_left 2; (focus (obtain ⟨e0, e1, e2, e3, e4, e5, e6, e7, e8⟩ := HS.out _ hW0; first | (go_simp; done) | (go_simp; with_reducible rfl) | (go_simp; constructor <;> with_reducible rfl)))
    · simp only [Act.put, List.setIfInBounds_toArray, List.set_cons_zero, List.set_cons_succ]
      exact EA_14
    refine arv1 (o := ({ dst := some 81, op := Go.Op.load 24 (Go.Operand.tmp 80), type := 24, pos := "law.go:187", after := #[{ on := 7, ground := Go.Ground.data }], guard := none })) 80 (v := ?_) (W' := ?_) rfl (by rfl) (by rfl) (fun ev hc hf h0 => ?_) ?_ ?_; rotate_left 2; (focus (obtain ⟨e0, e1, e2, e3, e4, e5, e6, e7, e8⟩ := HS.out _ hW0; first | (go_simp; done) | (go_simp; with_reducible rfl) | (go_simp; constructor <;> with_reducible rfl)))
    · simp only [Act.put, List.setIfInBounds_toArray, List.set_cons_zero, List.set_cons_succ]
      exact EA_13
    refine arv1 (o := ({ dst := some 83, op := Go.Op.load 46 (Go.Operand.tmp 82), type := 46, pos := "law.go:187", after := #[{ on := 9, ground := Go.Ground.data }], guard := none })) 82 (v := ?_) (W' := ?_) rfl (by rfl) (by rfl) (fun ev hc hf h0 => ?_) ?_ ?_; rotate_left 2; (focus (obtain ⟨e0, e1, e2, e3, e4, e5, e6, e7, e8⟩ := HS.out _ hW0; first | (go_simp; done) | (go_simp; with_reducible rfl) | (go_simp; constructor <;> with_reducible rfl)))
    · simp only [Act.put, List.setIfInBounds_toArray, List.set_cons_zero, List.set_cons_succ]
      exact EA_12
    exact ar_nil
  · refine aw_all [2, 10] (by kernel_rfl) (by simp) ?_
    refine arv1 (o := ({ dst := some 75, op := Go.Op.load 3 (Go.Operand.tmp 74), type := 3, pos := "law.go:187", after := #[{ on := 1, ground := Go.Ground.data }], guard := none })) 74 (v := ?_) (W' := ?_) rfl (by rfl) (by rfl) (fun ev hc hf h0 => ?_) ?_ ?_; rotate_left 2; (focus (obtain ⟨e0, e1, e2, e3, e4, e5, e6, e7, e8⟩ := HS.out _ hW0; first | (go_simp; done) | (go_simp; with_reducible rfl) | (go_simp; constructor <;> with_reducible rfl)))
    · simp only [Act.put, List.setIfInBounds_toArray, List.set_cons_zero, List.set_cons_succ]
      refine awt2 3 73 75 (o := ({ dst := some 76, op := Go.Op.indexAddr 100 (Go.Operand.tmp 73) (Go.Operand.tmp 75), type := 0, pos := "law.go:187", after := #[{ on := 0, ground := Go.Ground.data }, { on := 2, ground := Go.Ground.data }], guard := none })) (v := ?_) rfl (by kernel_rfl) (by kernel_rfl) (by kernel_rfl) (fun _ _ _ h => h) (by rfl) (by rfl) (by rfl) (fun ev hc hf h0 h1 W => ?_) ?_; rotate_left; (focus (first | (go_simp; done) | (go_simp; with_reducible rfl))); rotate_left; simp only [Act.put, List.setIfInBounds_toArray, List.set_cons_zero, List.set_cons_succ]
      exact EA_8
    refine arv1 (o := ({ dst := some 83, op := Go.Op.load 46 (Go.Operand.tmp 82), type := 46, pos := "law.go:187", after := #[{ on := 9, ground := Go.Ground.data }], guard := none })) 82 (v := ?_) (W' := ?_) rfl (by rfl) (by rfl) (fun ev hc hf h0 => ?_) ?_ ?_; rotate_left 2; (focus (obtain ⟨e0, e1, e2, e3, e4, e5, e6, e7, e8⟩ := HS.out _ hW0; first | (go_simp; done) | (go_simp; with_reducible rfl) | (go_simp; constructor <;> with_reducible rfl)))
    · simp only [Act.put, List.setIfInBounds_toArray, List.set_cons_zero, List.set_cons_succ]
      exact EA_11
    exact ar_nil
  · refine aw_all [2, 8] (by kernel_rfl) (by simp) ?_
    refine arv1 (o := ({ dst := some 75, op := Go.Op.load 3 (Go.Operand.tmp 74), type := 3, pos := "law.go:187", after := #[{ on := 1, ground := Go.Ground.data }], guard := none })) 74 (v := ?_) (W' := ?_) rfl (by rfl) (by rfl) (fun ev hc hf h0 => ?_) ?_ ?_; rotate_left 2; (focus (obtain ⟨e0, e1, e2, e3, e4, e5, e6, e7, e8⟩ := HS.out _ hW0; first | (go_simp; done) | (go_simp; with_reducible rfl) | (go_simp; constructor <;> with_reducible rfl)))
    · simp only [Act.put, List.setIfInBounds_toArray, List.set_cons_zero, List.set_cons_succ]
      refine awt2 3 73 75 (o := ({ dst := some 76, op := Go.Op.indexAddr 100 (Go.Operand.tmp 73) (Go.Operand.tmp 75), type := 0, pos := "law.go:187", after := #[{ on := 0, ground := Go.Ground.data }, { on := 2, ground := Go.Ground.data }], guard := none })) (v := ?_) rfl (by kernel_rfl) (by kernel_rfl) (by kernel_rfl) (fun _ _ _ h => h) (by rfl) (by rfl) (by rfl) (fun ev hc hf h0 h1 W => ?_) ?_; rotate_left; (focus (first | (go_simp; done) | (go_simp; with_reducible rfl))); rotate_left; simp only [Act.put, List.setIfInBounds_toArray, List.set_cons_zero, List.set_cons_succ]
      exact EA_6
    refine arv1 (o := ({ dst := some 81, op := Go.Op.load 24 (Go.Operand.tmp 80), type := 24, pos := "law.go:187", after := #[{ on := 7, ground := Go.Ground.data }], guard := none })) 80 (v := ?_) (W' := ?_) rfl (by rfl) (by rfl) (fun ev hc hf h0 => ?_) ?_ ?_; rotate_left 2; (focus (obtain ⟨e0, e1, e2, e3, e4, e5, e6, e7, e8⟩ := HS.out _ hW0; first | (go_simp; done) | (go_simp; with_reducible rfl) | (go_simp; constructor <;> with_reducible rfl)))
    · simp only [Act.put, List.setIfInBounds_toArray, List.set_cons_zero, List.set_cons_succ]
      exact EA_11
    exact ar_nil
  · refine aw_all [2, 6] (by kernel_rfl) (by simp) ?_
    refine arv1 (o := ({ dst := some 75, op := Go.Op.load 3 (Go.Operand.tmp 74), type := 3, pos := "law.go:187", after := #[{ on := 1, ground := Go.Ground.data }], guard := none })) 74 (v := ?_) (W' := ?_) rfl (by rfl) (by rfl) (fun ev hc hf h0 => ?_) ?_ ?_; rotate_left 2; (focus (obtain ⟨e0, e1, e2, e3, e4, e5, e6, e7, e8⟩ := HS.out _ hW0; first | (go_simp; done) | (go_simp; with_reducible rfl) | (go_simp; constructor <;> with_reducible rfl)))
    · simp only [Act.put, List.setIfInBounds_toArray, List.set_cons_zero, List.set_cons_succ]
      refine awt2 3 73 75 (o := ({ dst := some 76, op := Go.Op.indexAddr 100 (Go.Operand.tmp 73) (Go.Operand.tmp 75), type := 0, pos := "law.go:187", after := #[{ on := 0, ground := Go.Ground.data }, { on := 2, ground := Go.Ground.data }], guard := none })) (v := ?_) rfl (by kernel_rfl) (by kernel_rfl) (by kernel_rfl) (fun _ _ _ h => h) (by rfl) (by rfl) (by rfl) (fun ev hc hf h0 h1 W => ?_) ?_; rotate_left; (focus (first | (go_simp; done) | (go_simp; with_reducible rfl))); rotate_left; simp only [Act.put, List.setIfInBounds_toArray, List.set_cons_zero, List.set_cons_succ]
      exact EA_5
    refine arv1 (o := ({ dst := some 79, op := Go.Op.load 3 (Go.Operand.tmp 78), type := 3, pos := "law.go:187", after := #[{ on := 5, ground := Go.Ground.data }], guard := none })) 78 (v := ?_) (W' := ?_) rfl (by rfl) (by rfl) (fun ev hc hf h0 => ?_) ?_ ?_; rotate_left 2; (focus (obtain ⟨e0, e1, e2, e3, e4, e5, e6, e7, e8⟩ := HS.out _ hW0; first | (go_simp; done) | (go_simp; with_reducible rfl) | (go_simp; constructor <;> with_reducible rfl)))
    · simp only [Act.put, List.setIfInBounds_toArray, List.set_cons_zero, List.set_cons_succ]
      exact EA_11
    exact ar_nil
  · refine aw_all [6, 8, 10] (by kernel_rfl) (by simp) ?_
    refine arv1 (o := ({ dst := some 79, op := Go.Op.load 3 (Go.Operand.tmp 78), type := 3, pos := "law.go:187", after := #[{ on := 5, ground := Go.Ground.data }], guard := none })) 78 (v := ?_) (W' := ?_) rfl (by rfl) (by rfl) (fun ev hc hf h0 => ?_) ?_ ?_; rotate_left 2; (focus (obtain ⟨e0, e1, e2, e3, e4, e5, e6, e7, e8⟩ := HS.out _ hW0; first | (go_simp; done) | (go_simp; with_reducible rfl) | (go_simp; constructor <;> with_reducible rfl)))
    · simp only [Act.put, List.setIfInBounds_toArray, List.set_cons_zero, List.set_cons_succ]
      exact EA_10
    refine arv1 (o := ({ dst := some 81, op := Go.Op.load 24 (Go.Operand.tmp 80), type := 24, pos := "law.go:187", after := #[{ on := 7, ground := Go.Ground.data }], guard := none })) 80 (v := ?_) (W' := ?_) rfl (by rfl) (by rfl) (fun ev hc hf h0 => ?_) ?_ ?_; rotate_left 2; (focus (obtain ⟨e0, e1, e2, e3, e4, e5, e6, e7, e8⟩ := HS.out _ hW0; first | (go_simp; done) | (go_simp; with_reducible rfl) | (go_simp; constructor <;> with_reducible rfl)))
    · simp only [Act.put, List.setIfInBounds_toArray, List.set_cons_zero, List.set_cons_succ]
      exact EA_9
    refine arv1 (o := ({ dst := some 83, op := Go.Op.load 46 (Go.Operand.tmp 82), type := 46, pos := "law.go:187", after := #[{ on := 9, ground := Go.Ground.data }], guard := none })) 82 (v := ?_) (W' := ?_) rfl (by rfl) (by rfl) (fun ev hc hf h0 => ?_) ?_ ?_; rotate_left 2; (focus (obtain ⟨e0, e1, e2, e3, e4, e5, e6, e7, e8⟩ := HS.out _ hW0; first | (go_simp; done) | (go_simp; with_reducible rfl) | (go_simp; constructor <;> with_reducible rfl)))
    · simp only [Act.put, List.setIfInBounds_toArray, List.set_cons_zero, List.set_cons_succ]
      exact EA_7
    exact ar_nil
  · refine aw_all [4, 8, 10] (by kernel_rfl) (by simp) ?_
    refine arv1 (o := ({ dst := some 77, op := Go.Op.load 86 (Go.Operand.tmp 76), type := 86, pos := "law.go:187", after := #[{ on := 3, ground := Go.Ground.data }], guard := none })) 76 (v := ?_) (W' := ?_) rfl (by rfl) (by rfl) (fun ev hc hf h0 => ?_) ?_ ?_; rotate_left 2; (focus (obtain ⟨e0, e1, e2, e3, e4, e5, e6, e7, e8⟩ := HS.out _ hW0; first | (go_simp; done) | (go_simp; with_reducible rfl) | (go_simp; constructor <;> with_reducible rfl)))
    · simp only [Act.put, List.setIfInBounds_toArray, List.set_cons_zero, List.set_cons_succ]
      exact EA_10
    refine arv1 (o := ({ dst := some 81, op := Go.Op.load 24 (Go.Operand.tmp 80), type := 24, pos := "law.go:187", after := #[{ on := 7, ground := Go.Ground.data }], guard := none })) 80 (v := ?_) (W' := ?_) rfl (by rfl) (by rfl) (fun ev hc hf h0 => ?_) ?_ ?_; rotate_left 2; (focus (obtain ⟨e0, e1, e2, e3, e4, e5, e6, e7, e8⟩ := HS.out _ hW0; first | (go_simp; done) | (go_simp; with_reducible rfl) | (go_simp; constructor <;> with_reducible rfl)))
    · simp only [Act.put, List.setIfInBounds_toArray, List.set_cons_zero, List.set_cons_succ]
      exact EA_8
    refine arv1 (o := ({ dst := some 83, op := Go.Op.load 46 (Go.Operand.tmp 82), type := 46, pos := "law.go:187", after := #[{ on := 9, ground := Go.Ground.data }], guard := none })) 82 (v := ?_) (W' := ?_) rfl (by rfl) (by rfl) (fun ev hc hf h0 => ?_) ?_ ?_; rotate_left 2; (focus (obtain ⟨e0, e1, e2, e3, e4, e5, e6, e7, e8⟩ := HS.out _ hW0; first | (go_simp; done) | (go_simp; with_reducible rfl) | (go_simp; constructor <;> with_reducible rfl)))
    · simp only [Act.put, List.setIfInBounds_toArray, List.set_cons_zero, List.set_cons_succ]
      exact EA_6
    exact ar_nil
  · refine aw_all [4, 6, 10] (by kernel_rfl) (by simp) ?_
    refine arv1 (o := ({ dst := some 77, op := Go.Op.load 86 (Go.Operand.tmp 76), type := 86, pos := "law.go:187", after := #[{ on := 3, ground := Go.Ground.data }], guard := none })) 76 (v := ?_) (W' := ?_) rfl (by rfl) (by rfl) (fun ev hc hf h0 => ?_) ?_ ?_; rotate_left 2; (focus (obtain ⟨e0, e1, e2, e3, e4, e5, e6, e7, e8⟩ := HS.out _ hW0; first | (go_simp; done) | (go_simp; with_reducible rfl) | (go_simp; constructor <;> with_reducible rfl)))
    · simp only [Act.put, List.setIfInBounds_toArray, List.set_cons_zero, List.set_cons_succ]
      exact EA_9
    refine arv1 (o := ({ dst := some 79, op := Go.Op.load 3 (Go.Operand.tmp 78), type := 3, pos := "law.go:187", after := #[{ on := 5, ground := Go.Ground.data }], guard := none })) 78 (v := ?_) (W' := ?_) rfl (by rfl) (by rfl) (fun ev hc hf h0 => ?_) ?_ ?_; rotate_left 2; (focus (obtain ⟨e0, e1, e2, e3, e4, e5, e6, e7, e8⟩ := HS.out _ hW0; first | (go_simp; done) | (go_simp; with_reducible rfl) | (go_simp; constructor <;> with_reducible rfl)))
    · simp only [Act.put, List.setIfInBounds_toArray, List.set_cons_zero, List.set_cons_succ]
      exact EA_8
    refine arv1 (o := ({ dst := some 83, op := Go.Op.load 46 (Go.Operand.tmp 82), type := 46, pos := "law.go:187", after := #[{ on := 9, ground := Go.Ground.data }], guard := none })) 82 (v := ?_) (W' := ?_) rfl (by rfl) (by rfl) (fun ev hc hf h0 => ?_) ?_ ?_; rotate_left 2; (focus (obtain ⟨e0, e1, e2, e3, e4, e5, e6, e7, e8⟩ := HS.out _ hW0; first | (go_simp; done) | (go_simp; with_reducible rfl) | (go_simp; constructor <;> with_reducible rfl)))
    · simp only [Act.put, List.setIfInBounds_toArray, List.set_cons_zero, List.set_cons_succ]
      exact EA_5
    exact ar_nil
  · refine aw_all [4, 6, 8] (by kernel_rfl) (by simp) ?_
    refine arv1 (o := ({ dst := some 77, op := Go.Op.load 86 (Go.Operand.tmp 76), type := 86, pos := "law.go:187", after := #[{ on := 3, ground := Go.Ground.data }], guard := none })) 76 (v := ?_) (W' := ?_) rfl (by rfl) (by rfl) (fun ev hc hf h0 => ?_) ?_ ?_; rotate_left 2; (focus (obtain ⟨e0, e1, e2, e3, e4, e5, e6, e7, e8⟩ := HS.out _ hW0; first | (go_simp; done) | (go_simp; with_reducible rfl) | (go_simp; constructor <;> with_reducible rfl)))
    · simp only [Act.put, List.setIfInBounds_toArray, List.set_cons_zero, List.set_cons_succ]
      exact EA_7
    refine arv1 (o := ({ dst := some 79, op := Go.Op.load 3 (Go.Operand.tmp 78), type := 3, pos := "law.go:187", after := #[{ on := 5, ground := Go.Ground.data }], guard := none })) 78 (v := ?_) (W' := ?_) rfl (by rfl) (by rfl) (fun ev hc hf h0 => ?_) ?_ ?_; rotate_left 2; (focus (obtain ⟨e0, e1, e2, e3, e4, e5, e6, e7, e8⟩ := HS.out _ hW0; first | (go_simp; done) | (go_simp; with_reducible rfl) | (go_simp; constructor <;> with_reducible rfl)))
    · simp only [Act.put, List.setIfInBounds_toArray, List.set_cons_zero, List.set_cons_succ]
      exact EA_6
    refine arv1 (o := ({ dst := some 81, op := Go.Op.load 24 (Go.Operand.tmp 80), type := 24, pos := "law.go:187", after := #[{ on := 7, ground := Go.Ground.data }], guard := none })) 80 (v := ?_) (W' := ?_) rfl (by rfl) (by rfl) (fun ev hc hf h0 => ?_) ?_ ?_; rotate_left 2; (focus (obtain ⟨e0, e1, e2, e3, e4, e5, e6, e7, e8⟩ := HS.out _ hW0; first | (go_simp; done) | (go_simp; with_reducible rfl) | (go_simp; constructor <;> with_reducible rfl)))
    · simp only [Act.put, List.setIfInBounds_toArray, List.set_cons_zero, List.set_cons_succ]
      exact EA_5
    exact ar_nil
  · refine aw_all [2] (by kernel_rfl) (by simp) ?_
    refine arv1 (o := ({ dst := some 75, op := Go.Op.load 3 (Go.Operand.tmp 74), type := 3, pos := "law.go:187", after := #[{ on := 1, ground := Go.Ground.data }], guard := none })) 74 (v := ?_) (W' := ?_) rfl (by rfl) (by rfl) (fun ev hc hf h0 => ?_) ?_ ?_; rotate_left 2; (focus (obtain ⟨e0, e1, e2, e3, e4, e5, e6, e7, e8⟩ := HS.out _ hW0; first | (go_simp; done) | (go_simp; with_reducible rfl) | (go_simp; constructor <;> with_reducible rfl)))
    · simp only [Act.put, List.setIfInBounds_toArray, List.set_cons_zero, List.set_cons_succ]
      refine awt2 3 73 75 (o := ({ dst := some 76, op := Go.Op.indexAddr 100 (Go.Operand.tmp 73) (Go.Operand.tmp 75), type := 0, pos := "law.go:187", after := #[{ on := 0, ground := Go.Ground.data }, { on := 2, ground := Go.Ground.data }], guard := none })) (v := ?_) rfl (by kernel_rfl) (by kernel_rfl) (by kernel_rfl) (fun _ _ _ h => h) (by rfl) (by rfl) (by rfl) (fun ev hc hf h0 h1 W => ?_) ?_; rotate_left; (focus (first | (go_simp; done) | (go_simp; with_reducible rfl))); rotate_left; simp only [Act.put, List.setIfInBounds_toArray, List.set_cons_zero, List.set_cons_succ]
      exact EA_1
    exact ar_nil
  · refine aw_all [8, 10] (by kernel_rfl) (by simp) ?_
    refine arv1 (o := ({ dst := some 81, op := Go.Op.load 24 (Go.Operand.tmp 80), type := 24, pos := "law.go:187", after := #[{ on := 7, ground := Go.Ground.data }], guard := none })) 80 (v := ?_) (W' := ?_) rfl (by rfl) (by rfl) (fun ev hc hf h0 => ?_) ?_ ?_; rotate_left 2; (focus (obtain ⟨e0, e1, e2, e3, e4, e5, e6, e7, e8⟩ := HS.out _ hW0; first | (go_simp; done) | (go_simp; with_reducible rfl) | (go_simp; constructor <;> with_reducible rfl)))
    · simp only [Act.put, List.setIfInBounds_toArray, List.set_cons_zero, List.set_cons_succ]
      exact EA_4
    refine arv1 (o := ({ dst := some 83, op := Go.Op.load 46 (Go.Operand.tmp 82), type := 46, pos := "law.go:187", after := #[{ on := 9, ground := Go.Ground.data }], guard := none })) 82 (v := ?_) (W' := ?_) rfl (by rfl) (by rfl) (fun ev hc hf h0 => ?_) ?_ ?_; rotate_left 2; (focus (obtain ⟨e0, e1, e2, e3, e4, e5, e6, e7, e8⟩ := HS.out _ hW0; first | (go_simp; done) | (go_simp; with_reducible rfl) | (go_simp; constructor <;> with_reducible rfl)))
    · simp only [Act.put, List.setIfInBounds_toArray, List.set_cons_zero, List.set_cons_succ]
      exact EA_3
    exact ar_nil
  · refine aw_all [6, 10] (by kernel_rfl) (by simp) ?_
    refine arv1 (o := ({ dst := some 79, op := Go.Op.load 3 (Go.Operand.tmp 78), type := 3, pos := "law.go:187", after := #[{ on := 5, ground := Go.Ground.data }], guard := none })) 78 (v := ?_) (W' := ?_) rfl (by rfl) (by rfl) (fun ev hc hf h0 => ?_) ?_ ?_; rotate_left 2; (focus (obtain ⟨e0, e1, e2, e3, e4, e5, e6, e7, e8⟩ := HS.out _ hW0; first | (go_simp; done) | (go_simp; with_reducible rfl) | (go_simp; constructor <;> with_reducible rfl)))
    · simp only [Act.put, List.setIfInBounds_toArray, List.set_cons_zero, List.set_cons_succ]
      exact EA_4
    refine arv1 (o := ({ dst := some 83, op := Go.Op.load 46 (Go.Operand.tmp 82), type := 46, pos := "law.go:187", after := #[{ on := 9, ground := Go.Ground.data }], guard := none })) 82 (v := ?_) (W' := ?_) rfl (by rfl) (by rfl) (fun ev hc hf h0 => ?_) ?_ ?_; rotate_left 2; (focus (obtain ⟨e0, e1, e2, e3, e4, e5, e6, e7, e8⟩ := HS.out _ hW0; first | (go_simp; done) | (go_simp; with_reducible rfl) | (go_simp; constructor <;> with_reducible rfl)))
    · simp only [Act.put, List.setIfInBounds_toArray, List.set_cons_zero, List.set_cons_succ]
      exact EA_2
    exact ar_nil
  · refine aw_all [4, 10] (by kernel_rfl) (by simp) ?_
    refine arv1 (o := ({ dst := some 77, op := Go.Op.load 86 (Go.Operand.tmp 76), type := 86, pos := "law.go:187", after := #[{ on := 3, ground := Go.Ground.data }], guard := none })) 76 (v := ?_) (W' := ?_) rfl (by rfl) (by rfl) (fun ev hc hf h0 => ?_) ?_ ?_; rotate_left 2; (focus (obtain ⟨e0, e1, e2, e3, e4, e5, e6, e7, e8⟩ := HS.out _ hW0; first | (go_simp; done) | (go_simp; with_reducible rfl) | (go_simp; constructor <;> with_reducible rfl)))
    · simp only [Act.put, List.setIfInBounds_toArray, List.set_cons_zero, List.set_cons_succ]
      exact EA_4
    refine arv1 (o := ({ dst := some 83, op := Go.Op.load 46 (Go.Operand.tmp 82), type := 46, pos := "law.go:187", after := #[{ on := 9, ground := Go.Ground.data }], guard := none })) 82 (v := ?_) (W' := ?_) rfl (by rfl) (by rfl) (fun ev hc hf h0 => ?_) ?_ ?_; rotate_left 2; (focus (obtain ⟨e0, e1, e2, e3, e4, e5, e6, e7, e8⟩ := HS.out _ hW0; first | (go_simp; done) | (go_simp; with_reducible rfl) | (go_simp; constructor <;> with_reducible rfl)))
    · simp only [Act.put, List.setIfInBounds_toArray, List.set_cons_zero, List.set_cons_succ]
      exact EA_1
    exact ar_nil
  · refine aw_all [6, 8] (by kernel_rfl) (by simp) ?_
    refine arv1 (o := ({ dst := some 79, op := Go.Op.load 3 (Go.Operand.tmp 78), type := 3, pos := "law.go:187", after := #[{ on := 5, ground := Go.Ground.data }], guard := none })) 78 (v := ?_) (W' := ?_) rfl (by rfl) (by rfl) (fun ev hc hf h0 => ?_) ?_ ?_; rotate_left 2; (focus (obtain ⟨e0, e1, e2, e3, e4, e5, e6, e7, e8⟩ := HS.out _ hW0; first | (go_simp; done) | (go_simp; with_reducible rfl) | (go_simp; constructor <;> with_reducible rfl)))
    · simp only [Act.put, List.setIfInBounds_toArray, List.set_cons_zero, List.set_cons_succ]
      exact EA_3
    refine arv1 (o := ({ dst := some 81, op := Go.Op.load 24 (Go.Operand.tmp 80), type := 24, pos := "law.go:187", after := #[{ on := 7, ground := Go.Ground.data }], guard := none })) 80 (v := ?_) (W' := ?_) rfl (by rfl) (by rfl) (fun ev hc hf h0 => ?_) ?_ ?_; rotate_left 2; (focus (obtain ⟨e0, e1, e2, e3, e4, e5, e6, e7, e8⟩ := HS.out _ hW0; first | (go_simp; done) | (go_simp; with_reducible rfl) | (go_simp; constructor <;> with_reducible rfl)))
    · simp only [Act.put, List.setIfInBounds_toArray, List.set_cons_zero, List.set_cons_succ]
      exact EA_2
    exact ar_nil
  · refine aw_all [4, 8] (by kernel_rfl) (by simp) ?_
    refine arv1 (o := ({ dst := some 77, op := Go.Op.load 86 (Go.Operand.tmp 76), type := 86, pos := "law.go:187", after := #[{ on := 3, ground := Go.Ground.data }], guard := none })) 76 (v := ?_) (W' := ?_) rfl (by rfl) (by rfl) (fun ev hc hf h0 => ?_) ?_ ?_; rotate_left 2; (focus (obtain ⟨e0, e1, e2, e3, e4, e5, e6, e7, e8⟩ := HS.out _ hW0; first | (go_simp; done) | (go_simp; with_reducible rfl) | (go_simp; constructor <;> with_reducible rfl)))
    · simp only [Act.put, List.setIfInBounds_toArray, List.set_cons_zero, List.set_cons_succ]
      exact EA_3
    refine arv1 (o := ({ dst := some 81, op := Go.Op.load 24 (Go.Operand.tmp 80), type := 24, pos := "law.go:187", after := #[{ on := 7, ground := Go.Ground.data }], guard := none })) 80 (v := ?_) (W' := ?_) rfl (by rfl) (by rfl) (fun ev hc hf h0 => ?_) ?_ ?_; rotate_left 2; (focus (obtain ⟨e0, e1, e2, e3, e4, e5, e6, e7, e8⟩ := HS.out _ hW0; first | (go_simp; done) | (go_simp; with_reducible rfl) | (go_simp; constructor <;> with_reducible rfl)))
    · simp only [Act.put, List.setIfInBounds_toArray, List.set_cons_zero, List.set_cons_succ]
      exact EA_1
    exact ar_nil
  · refine aw_all [4, 6] (by kernel_rfl) (by simp) ?_
    refine arv1 (o := ({ dst := some 77, op := Go.Op.load 86 (Go.Operand.tmp 76), type := 86, pos := "law.go:187", after := #[{ on := 3, ground := Go.Ground.data }], guard := none })) 76 (v := ?_) (W' := ?_) rfl (by rfl) (by rfl) (fun ev hc hf h0 => ?_) ?_ ?_; rotate_left 2; (focus (obtain ⟨e0, e1, e2, e3, e4, e5, e6, e7, e8⟩ := HS.out _ hW0; first | (go_simp; done) | (go_simp; with_reducible rfl) | (go_simp; constructor <;> with_reducible rfl)))
    · simp only [Act.put, List.setIfInBounds_toArray, List.set_cons_zero, List.set_cons_succ]
      exact EA_2
    refine arv1 (o := ({ dst := some 79, op := Go.Op.load 3 (Go.Operand.tmp 78), type := 3, pos := "law.go:187", after := #[{ on := 5, ground := Go.Ground.data }], guard := none })) 78 (v := ?_) (W' := ?_) rfl (by rfl) (by rfl) (fun ev hc hf h0 => ?_) ?_ ?_; rotate_left 2; (focus (obtain ⟨e0, e1, e2, e3, e4, e5, e6, e7, e8⟩ := HS.out _ hW0; first | (go_simp; done) | (go_simp; with_reducible rfl) | (go_simp; constructor <;> with_reducible rfl)))
    · simp only [Act.put, List.setIfInBounds_toArray, List.set_cons_zero, List.set_cons_succ]
      exact EA_1
    exact ar_nil
  · refine aw_all [10] (by kernel_rfl) (by simp) ?_
    refine arv1 (o := ({ dst := some 83, op := Go.Op.load 46 (Go.Operand.tmp 82), type := 46, pos := "law.go:187", after := #[{ on := 9, ground := Go.Ground.data }], guard := none })) 82 (v := ?_) (W' := ?_) rfl (by rfl) (by rfl) (fun ev hc hf h0 => ?_) ?_ ?_; rotate_left 2; (focus (obtain ⟨e0, e1, e2, e3, e4, e5, e6, e7, e8⟩ := HS.out _ hW0; first | (go_simp; done) | (go_simp; with_reducible rfl) | (go_simp; constructor <;> with_reducible rfl)))
    · simp only [Act.put, List.setIfInBounds_toArray, List.set_cons_zero, List.set_cons_succ]
      exact EA_0
    exact ar_nil
  · refine aw_all [8] (by kernel_rfl) (by simp) ?_
    refine arv1 (o := ({ dst := some 81, op := Go.Op.load 24 (Go.Operand.tmp 80), type := 24, pos := "law.go:187", after := #[{ on := 7, ground := Go.Ground.data }], guard := none })) 80 (v := ?_) (W' := ?_) rfl (by rfl) (by rfl) (fun ev hc hf h0 => ?_) ?_ ?_; rotate_left 2; (focus (obtain ⟨e0, e1, e2, e3, e4, e5, e6, e7, e8⟩ := HS.out _ hW0; first | (go_simp; done) | (go_simp; with_reducible rfl) | (go_simp; constructor <;> with_reducible rfl)))
    · simp only [Act.put, List.setIfInBounds_toArray, List.set_cons_zero, List.set_cons_succ]
      exact EA_0
    exact ar_nil
  · refine aw_all [6] (by kernel_rfl) (by simp) ?_
    refine arv1 (o := ({ dst := some 79, op := Go.Op.load 3 (Go.Operand.tmp 78), type := 3, pos := "law.go:187", after := #[{ on := 5, ground := Go.Ground.data }], guard := none })) 78 (v := ?_) (W' := ?_) rfl (by rfl) (by rfl) (fun ev hc hf h0 => ?_) ?_ ?_; rotate_left 2; (focus (obtain ⟨e0, e1, e2, e3, e4, e5, e6, e7, e8⟩ := HS.out _ hW0; first | (go_simp; done) | (go_simp; with_reducible rfl) | (go_simp; constructor <;> with_reducible rfl)))
    · simp only [Act.put, List.setIfInBounds_toArray, List.set_cons_zero, List.set_cons_succ]
      exact EA_0
    exact ar_nil
  · refine aw_all [4] (by kernel_rfl) (by simp) ?_
    refine arv1 (o := ({ dst := some 77, op := Go.Op.load 86 (Go.Operand.tmp 76), type := 86, pos := "law.go:187", after := #[{ on := 3, ground := Go.Ground.data }], guard := none })) 76 (v := ?_) (W' := ?_) rfl (by rfl) (by rfl) (fun ev hc hf h0 => ?_) ?_ ?_; rotate_left 2; (focus (obtain ⟨e0, e1, e2, e3, e4, e5, e6, e7, e8⟩ := HS.out _ hW0; first | (go_simp; done) | (go_simp; with_reducible rfl) | (go_simp; constructor <;> with_reducible rfl)))
    · simp only [Act.put, List.setIfInBounds_toArray, List.set_cons_zero, List.set_cons_succ]
      exact EA_0
    exact ar_nil
  refine aw_all [11] (by kernel_rfl) (by simp) ?_
  refine arc4 (o := ({ dst := some 84, op := Go.Op.call { callee := Go.Callee.value (Go.Operand.func 48), args := #[Go.Operand.tmp 77, Go.Operand.tmp 79, Go.Operand.tmp 81, Go.Operand.tmp 83], argTypes := #[86, 3, 24, 46] }, type := 35, pos := "law.go:187", after := #[{ on := 4, ground := Go.Ground.data }, { on := 6, ground := Go.Ground.data }, { on := 8, ground := Go.Ground.data }, { on := 10, ground := Go.Ground.data }], guard := none })) 77 79 81 83 _ _ _ rfl (by rfl) (by rfl) (by rfl) (by rfl) (by rfl) (fun ev hc hf h0 h1 h2 h3 => ?_) HAC.out (fun w9 hc9 => ?_) ?_
  · focus (go_simp; done)
  · obtain ⟨s', hc9⟩ := hc9
    simp only [Act.put, List.setIfInBounds_toArray, List.set_cons_zero, List.set_cons_succ]
    refine awt1 12 84 (o := ({ dst := some 72, op := Go.Op.move (Go.Operand.tmp 84), type := 35, pos := "law.go:187", after := #[{ on := 11, ground := Go.Ground.data }], guard := none })) (v := ?_) rfl (by kernel_rfl) (by kernel_rfl) (by kernel_rfl) (fun _ _ _ h => h) (by rfl) (by rfl) (fun ev hc hf h0 W => ?_) ?_; rotate_left; (focus (first | (go_simp; done) | (go_simp; with_reducible rfl))); rotate_left; simp only [Act.put, List.setIfInBounds_toArray, List.set_cons_zero, List.set_cons_succ]
    refine awt1 13 72 (o := ({ dst := some 85, op := Go.Op.extract (Go.Operand.tmp 72) 0, type := 4, pos := "law.go:187", after := #[{ on := 12, ground := Go.Ground.data }], guard := none })) (v := ?_) rfl (by kernel_rfl) (by kernel_rfl) (by kernel_rfl) (fun _ _ _ h => h) (by rfl) (by rfl) (fun ev hc hf h0 W => ?_) ?_; rotate_left; (focus (first | (go_simp; done) | (go_simp; with_reducible rfl))); rotate_left; simp only [Act.put, List.setIfInBounds_toArray, List.set_cons_zero, List.set_cons_succ]
    refine awt1 14 72 (o := ({ dst := some 86, op := Go.Op.extract (Go.Operand.tmp 72) 1, type := 30, pos := "law.go:187", after := #[{ on := 12, ground := Go.Ground.data }, { on := 15, ground := Go.Ground.gcOnly Go.Departure.lateStores }], guard := none })) (v := ?_) rfl (by kernel_rfl) (by kernel_rfl) (by kernel_rfl) (fun _ _ _ h => h) (by rfl) (by rfl) (fun ev hc hf h0 W => ?_) ?_; rotate_left; (focus (first | (go_simp; done) | (go_simp; with_reducible rfl))); rotate_left; simp only [Act.put, List.setIfInBounds_toArray, List.set_cons_zero, List.set_cons_succ]
    refine awt1 15 85 (o := ({ dst := some 16, op := Go.Op.assign (Go.Operand.tmp 85), type := 4, pos := "law.go:187", after := #[{ on := 13, ground := Go.Ground.data }, { on := 11, ground := Go.Ground.chain }, { on := 0, ground := Go.Ground.phase }, { on := 1, ground := Go.Ground.phase }, { on := 2, ground := Go.Ground.phase }, { on := 3, ground := Go.Ground.phase }, { on := 4, ground := Go.Ground.phase }, { on := 5, ground := Go.Ground.phase }, { on := 6, ground := Go.Ground.phase }, { on := 7, ground := Go.Ground.phase }, { on := 8, ground := Go.Ground.phase }, { on := 9, ground := Go.Ground.phase }, { on := 10, ground := Go.Ground.phase }, { on := 11, ground := Go.Ground.phase }, { on := 12, ground := Go.Ground.phase }, { on := 13, ground := Go.Ground.phase }, { on := 14, ground := Go.Ground.textOnly Go.Departure.lateStores }], guard := none })) (v := ?_) rfl (by kernel_rfl) (by kernel_rfl) (by kernel_rfl) (fun _ _ _ h => h) (by rfl) (by rfl) (fun ev hc hf h0 W => ?_) ?_; rotate_left; (focus (first | (go_simp; done) | (go_simp; with_reducible rfl))); rotate_left; simp only [Act.put, List.setIfInBounds_toArray, List.set_cons_zero, List.set_cons_succ]
    refine awt1 16 86 (o := ({ dst := some 17, op := Go.Op.assign (Go.Operand.tmp 86), type := 30, pos := "law.go:187", after := #[{ on := 14, ground := Go.Ground.data }, { on := 15, ground := Go.Ground.chain }, { on := 0, ground := Go.Ground.phase }, { on := 1, ground := Go.Ground.phase }, { on := 2, ground := Go.Ground.phase }, { on := 3, ground := Go.Ground.phase }, { on := 4, ground := Go.Ground.phase }, { on := 5, ground := Go.Ground.phase }, { on := 6, ground := Go.Ground.phase }, { on := 7, ground := Go.Ground.phase }, { on := 8, ground := Go.Ground.phase }, { on := 9, ground := Go.Ground.phase }, { on := 10, ground := Go.Ground.phase }, { on := 11, ground := Go.Ground.phase }, { on := 12, ground := Go.Ground.phase }, { on := 13, ground := Go.Ground.phase }, { on := 14, ground := Go.Ground.phase }, { on := 15, ground := Go.Ground.phase }], guard := none })) (v := ?_) rfl (by kernel_rfl) (by kernel_rfl) (by kernel_rfl) (fun _ _ _ h => h) (by rfl) (by rfl) (fun ev hc hf h0 W => ?_) ?_; rotate_left; (focus (first | (go_simp; done) | (go_simp; with_reducible rfl))); rotate_left; simp only [Act.put, List.setIfInBounds_toArray, List.set_cons_zero, List.set_cons_succ]
    refine aw_done (by kernel_rfl) ?_
    obtain ⟨hMem, hOnly⟩ := (M0.out.keep hW0).prp_turn HP.out.1 hc9
    have B9 := Lib.hid (show Bk w9 W.heap.size #[.int .i64 1, .int .i64 (p : Nat), .int .i64 (tn : Nat), .int .u64 r, .int .i64 n, .bool c.has, .int .u64 c.r, .int .i64 c.n, .string c.val, .string u] 105 from (hc9.kept.block _ (Nat.lt_of_lt_of_le B0.out.lt hW0.size) hnf.out).trans (B0.out.bel hW0))
    have hP9 := Lib.hid hc9.at'
    have hK9 := (Kept.of_below HB0.out).trans ((Kept.of_below hW0).trans (hOnly.far (by simp) (by simp)))
    have hsz9 : W.heap.size ≤ w9.heap.size := hK9.size
    obtain ⟨b2, c2, he2, hcell2⟩ := ptr_cell hMem.all.1 (j := p) (by show p < (S.ps.set p P').length; rw [List.length_set]; exact HP.out.2.2.2.2)
    injection he2 with e1 e2 e3
    injection e1 with e1
    injection e1 with e1
    subst e1
    have hg2 : setP pp p ⟨(pp p).g, (pp p).pm, (pp p).am, s'⟩ p = ⟨(pp p).g, (pp p).pm, (pp p).am, s'⟩ := if_pos rfl
    rw [hg2] at hcell2
    have q1 : w9.cell? ⟨W.heap.size, 1, none⟩ = some (.int .i64 (p : Nat)) := B9.out.cell 1
    have hPn9 : P'.nn < 1000000 := by
      have := HS0.out.2 p P HP.out.1
      have := hPnn.out
      omega
    have hMem := Lib.hid hMem
    have hK9 := Lib.hid hK9
    clear HAC HS hW0 hc9 hOnly B0 M0 HB0 e2 e3
    go_wp2_with fail
    refine (pvalue_any hP9.out hPn9).mono ?_
    rintro e w10 ⟨rfl, hb10⟩
    have HMem := Lib.hid (hMem.out.keep hb10)
    have B10 := Lib.hid (B9.out.bel hb10)
    have HK := Lib.hid (hK9.out.trans (Kept.of_below hb10))
    have hsz10 : w9.heap.size ≤ w10.heap.size := hb10.size
    clear hMem hK9 B9 hP9 hcell2 q1
    generalize hu : (pValue P').1 = u at *
    generalize (pValue P').2 = bu at *
    go_wp2_with fail
    go_loopw [12, 20] (fun z i wr => ∃ (k : Nat) (y : Value), y = z ∧ k ≤ S.N ∧ (0 < k → bm = true) ∧ i = .int .i64 k ∧ wr.ownsRow w10.heap.size 105 10 y k (flatN (sent p r n u k)) ∧ Below w10.heap.size w10 wr) (fun _ i _ => S.N + 1 - (intOf i).toNat)
    case atStart => exact ⟨0, _, rfl, Nat.zero_le _, (fun h => by cases h), rfl, World.ownsRow_nil w10 w10.heap.size 105 10, Below.refl _ _⟩
    case round =>
      obtain ⟨k, y, rfl, hk, hbk, rfl, hrow, HB⟩ := hrel
      have hki : (k : Int) ≤ (S.N : Int) := by omega
      have hszr := HB.size
      by_cases hkl : k < S.N
      · have hne : (k : Int) < (S.N : Int) := by omega
        cases hbmm : bm with
        | false =>
          subst hbmm
          have HT := Lib.hid (show Taken W col S A gA gL mL sn sh (.slice (some ⟨ba, 0, none⟩) S.ps.length ca) M wr y (fresh col w1.drew.heap.size (.prp p)) (S.turn p P') A (setP pp p ⟨(pp p).g, (pp p).pm, (pp p).am, s'⟩) (sent p r n u k) from
            ⟨HMem.out.keep HB, hInv.out, hExt.out, List.length_set, fun m hm => by
              obtain ⟨i, hi, rfl⟩ := List.mem_map.1 hm
              have hi := List.mem_range.1 hi
              obtain ⟨he1, he2⟩ := HSend.out (hbk (by omega))
              have hiN : i < S.N := by omega
              have hsz := hInv.out.val_size _ r rfl he1
              rw [he2] at hsz
              exact ⟨hiN, hsz, .inr (.inr (.inl ⟨rfl, ⟨by show p < (S.ps.set p P').length; rw [List.length_set]; exact HP.out.2.2.2.2, hrr'.out.symm, by rw [hExt.out.nd _ (by rw [← hrr'.out]; exact at_lt HP.out.2.2.2.2)]; exact hnn'.out.symm⟩, he1, he2.symm⟩))⟩,
              by rw [sent_len]; exact row_base hrow (Nat.le_trans hsz9 hsz10), by rw [sent_len]; omega, HK.out.trans (Kept.of_below HB), (fun k hk => fresh_old (Nat.lt_of_lt_of_le hk hszw1.out)), ⟨fun k hk => Nat.le_succ_of_le (HS0.out.1 k hk), fun q Q hQ => by
                have hQ := hQ
                rw [turn_get HP.out.1] at hQ
                split at hQ
                · injection hQ with hQ
                  subst hQ
                  have := HS0.out.2 p P HP.out.1
                  have := hPnn.out
                  omega
                · exact Nat.le_succ_of_le (HS0.out.2 q Q hQ)⟩⟩)
          clear hrow HB HMem hInv hExt HK
          go_wp2_with fail
          exact bodyPost_ret (v := .tuple #[y, .bool true]) (by simp [results, Try.results55, go_sem]) rfl ⟨_, _, _, _, _, _, rfl, HT.out⟩
        | true =>
          subst hbmm
          have Br := B10.out.bel HB
          obtain ⟨q1, q3, q4⟩ : wr.cell? ⟨W.heap.size, 1, none⟩ = some (.int .i64 (p : Nat)) ∧ wr.cell? ⟨W.heap.size, 3, none⟩ = some (.int .u64 r) ∧ wr.cell? ⟨W.heap.size, 4, none⟩ = some (.int .i64 n) := ⟨Br.cell 1, Br.cell 3, Br.cell 4⟩
          clear Br
          go_wp2_with (at_builtin; refine wpList_append_own _ rfl _ _ 101 rfl w10.heap.size 105 i0 _ 10 96 Try.underlying101 hi iz0 iz1 iz2 rfl (by decide) _ _ _ rfl (hrow.alloc _) ⟨wr.heap.size, 0, none⟩ 1 1 [.int .i64 2, .int .i64 (p : Nat), .int .i64 (k : Nat), .int .u64 r, .int .i64 n, .bool false, .int .u64 0, .int .i64 0, .string ⟨#[]⟩, .string u] rfl rfl (cells_new _ _ _) (by simp [Value.oneCell']) (by unfold maxLen; omega) (by omega) (by first | (simp; done) | (simp; omega)) ?_; intro s2 w6 hown' hgrow _)
          have hB2 := (HB.alloc hszr (.cells #[.int .i64 2, .int .i64 (p : Nat), .int .i64 (k : Nat), .int .u64 r, .int .i64 n, .bool false, .int .u64 0, .int .i64 0, .string ⟨#[]⟩, .string u] 105)).grown hgrow (by simp; omega) (fun j e => (hrow.lt j e).1)
          have hfl : w6.ownsRow w10.heap.size 105 10 s2 (k + 1) (flatN (sent p r n u (k + 1))) := by
            rw [sent_succ, flatN_snoc]
            exact hown'
          clear hown' hgrow q1 q3 q4
          go_roundw
          case rel => exact ⟨k + 1, _, rfl, by omega, (by intros; first | rfl | trivial), by go_num, hfl, hB2⟩
          case measure => simp [intOf]; omega
      · have hkN : k = S.N := by omega
        have HT := Lib.hid (show Taken W col S A gA gL mL sn sh (.slice (some ⟨ba, 0, none⟩) S.ps.length ca) M wr y (fresh col w1.drew.heap.size (.prp p)) (S.turn p P') A (setP pp p ⟨(pp p).g, (pp p).pm, (pp p).am, s'⟩) (sent p r n u k) from
          ⟨HMem.out.keep HB, hInv.out, hExt.out, List.length_set, fun m hm => by
            obtain ⟨i, hi, rfl⟩ := List.mem_map.1 hm
            have hi := List.mem_range.1 hi
            obtain ⟨he1, he2⟩ := HSend.out (hbk (by omega))
            have hiN : i < S.N := by omega
            have hsz := hInv.out.val_size _ r rfl he1
            rw [he2] at hsz
            exact ⟨hiN, hsz, .inr (.inr (.inl ⟨rfl, ⟨by show p < (S.ps.set p P').length; rw [List.length_set]; exact HP.out.2.2.2.2, hrr'.out.symm, by rw [hExt.out.nd _ (by rw [← hrr'.out]; exact at_lt HP.out.2.2.2.2)]; exact hnn'.out.symm⟩, he1, he2.symm⟩))⟩,
            by rw [sent_len]; exact row_base hrow (Nat.le_trans hsz9 hsz10), by rw [sent_len]; omega, HK.out.trans (Kept.of_below HB), (fun k hk => fresh_old (Nat.lt_of_lt_of_le hk hszw1.out)), ⟨fun k hk => Nat.le_succ_of_le (HS0.out.1 k hk), fun q Q hQ => by
              have hQ := hQ
              rw [turn_get HP.out.1] at hQ
              split at hQ
              · injection hQ with hQ
                subst hQ
                have := HS0.out.2 p P HP.out.1
                have := hPnn.out
                omega
              · exact Nat.le_succ_of_le (HS0.out.2 q Q hQ)⟩⟩)
        clear hrow HB HMem hInv hExt HK
        go_wp2_with fail
        exact bodyPost_ret (v := .tuple #[y, .bool true]) (by simp [results, Try.results55, go_sem]) rfl ⟨_, _, _, _, _, _, rfl, HT.out⟩
  exact ar_nil

end Go.Proofs.Ytlgljcfkoakogaa
