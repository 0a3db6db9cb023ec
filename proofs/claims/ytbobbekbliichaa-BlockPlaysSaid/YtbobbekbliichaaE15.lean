import Derived.Test.YtbobbekbliichaaE14
namespace Go.Proofs.Ytbobbekbliichaa
open Go.RowKit
set_option linter.unusedSimpArgs false
set_option linter.unusedVariables false


set_option maxRecDepth 100000 in
set_option maxHeartbeats 12800000 in
theorem keeps_walk (bl : Int) (A1 A2 A3 : Option Addr) (c1 c2 c3 : Nat) (l1 l2 : List Stp) (ps : List Int) (W : World) (hb : 0 ≤ bl ∧ bl ≤ 255) (s1 : StepsAt W A1 l1) (s2 : StepsAt W A2 l2) (hp : IntsAt W A3 ps)
    (hl : l1.length + l2.length + ps.length ≤ 200) (hA : A3 = none → c3 = 0) (o2 : ∀ s ∈ l2, 0 ≤ s.c ∧ s.c ≤ 255) :
    Calls Try.prog 4 #[.int .u8 bl, .slice A1 l1.length c1, .slice A2 l2.length c2, .slice A3 ps.length c3] W fun e W' => e = .returned (.bool true) ∧ Below W.heap.size W W' := by
  have O2X := Lib.hid o2
  clear o2
  have X := Lib.hid (And.intro s1 (And.intro s2 (And.intro hp hA)))
  have hl' : ¬ ((200 : Int) < (l1.length : Int) + (l2.length : Int) + (ps.length : Int)) := by omega
  have HL := Lib.hid hl
  clear s1 s2 hp hl hA
  go_enter Try.func4, Try.ntmps4
  go_wp2_with fail
  obtain ⟨n, hn, hn1, hn2⟩ : ∃ n : Nat, 1 + bl % 16 = (n : Int) ∧ 1 ≤ n ∧ n ≤ 16 := ⟨(1 + bl % 16).toNat, by omega, by omega, by omega⟩
  rw [hn]
  have HN := Lib.hid (And.intro hn1 hn2)
  clear hn hb hl' hn1 hn2
  refine (own_new n HN.out.1 (Nat.le_trans HN.out.2 (by omega)) W W (Below.refl _ _)).mono ?_
  rintro e w1 ⟨rfl, hO, _⟩
  obtain ⟨g, hg⟩ : ∃ g, g = W.heap.size + 1 := ⟨_, rfl⟩
  rw [← hg] at hO ⊢
  clear hg
  have O1 := Lib.hid (show Own W w1 g (dOf (zeroS n) []) from hO)
  clear hO
  go_wp2_with fail
  go_loopw [12] (fun i wr => ∃ k : Nat, k ≤ l1.length ∧ i = .int .i64 k ∧ Own W wr g (dOf (zeroS n) ((l1.take k).map (wOf n)))) (fun i _ => l1.length - (intOf i).toNat)
  case atStart => exact ⟨0, Nat.zero_le _, rfl, O1.out⟩
  case round =>
    obtain ⟨k, hk, rfl, hO⟩ := hrel
    have O := Lib.hid hO
    clear hO
    by_cases hlt : k < l1.length
    · have hki : (k : Int) < (l1.length : Int) := by omega
      have hkb : (k : Int) ≤ 200 := by have := HL.out; omega
      obtain ⟨s, hs⟩ : ∃ s, l1[k]? = some s := ⟨_, List.getElem?_eq_getElem hlt⟩
      obtain ⟨b, o, rfl, hst⟩ : ∃ b o, A1 = some ⟨b, o, none⟩ ∧ StepAt wr b (o + k * 5) s := by
        rcases (X.out.1.bel O.out.2) with h | ⟨b, o, e, h⟩
        · rw [h] at hlt; simp at hlt
        · exact ⟨b, o, e, h k s hs⟩
      obtain ⟨str, hstr⟩ : ∃ str, (⟨(oneByte s.c).toArray⟩ : ByteArray) = str := ⟨_, rfl⟩
      have HF := Lib.hid (fun w' => hstr ▸ full_any s.c w')
      have HS := Lib.hid (show ∀ w', Bel wr w' → w'.cell? ⟨b, o + k * 5 + 1, none⟩ = some (.int .i64 s.b) ∧ w'.cell? ⟨b, o + k * 5 + 2, none⟩ = some (.int .u8 s.c) from fun w' hw => ⟨Bel.cell hw hst.2.1, Bel.cell hw hst.2.2.1⟩)
      have Y := Lib.hid (And.intro hk (And.intro hlt (And.intro hs hstr)))
      have hW0 : Bel wr wr.drew := (Bel.refl wr).drew
      have hn0 : ¬ (n = 0) := by have := HN.out.1; omega
      obtain ⟨bN, hw1, hw2, hmod⟩ := mod_norm n HN.out.1 s
      have HW := Lib.hid (And.intro hw1 hw2)
      clear hk hlt hs hst hstr hw1 hw2
      go_upto_region 10 with fail
      refine wp_aw 18 #[false, false, false, false, false, false, false, false, false, false, false, false, false, false, false, false, false, false] rfl rfl ?_
      refine aw_meetw 2 ?L10 ?F10 (C := fun w' => Bel wr w') (fun END => ?_) ?_
      case refine_1 =>
        refine awt1 0 10 (o := ({ dst := some 50, op := Go.Op.move (Go.Operand.tmp 10), type := 25, pos := "law.go:118", after := #[], guard := none })) (v := ?_) rfl (by kernel_rfl) (by kernel_rfl) (by kernel_rfl) (fun _ _ _ h => h) (by rfl) (by rfl) (fun ev hc hf h0 W => ?_) ?_; rotate_left; (focus (first | (go_simp; done) | (go_simp; with_reducible rfl))); rotate_left; simp only [Act.put, List.setIfInBounds_toArray, List.set_cons_zero, List.set_cons_succ]
        refine awt1 1 1 (o := ({ dst := some 51, op := Go.Op.move (Go.Operand.tmp 1), type := 22, pos := "law.go:118", after := #[], guard := none })) (v := ?_) rfl (by kernel_rfl) (by kernel_rfl) (by kernel_rfl) (fun _ _ _ h => h) (by rfl) (by rfl) (fun ev hc hf h0 W => ?_) ?_; rotate_left; (focus (first | (go_simp; done) | (go_simp; with_reducible rfl))); rotate_left; simp only [Act.put, List.setIfInBounds_toArray, List.set_cons_zero, List.set_cons_succ]
        refine awt1 2 12 (o := ({ dst := some 52, op := Go.Op.move (Go.Operand.tmp 12), type := 3, pos := "law.go:118", after := #[], guard := none })) (v := ?_) rfl (by kernel_rfl) (by kernel_rfl) (by kernel_rfl) (fun _ _ _ h => h) (by rfl) (by rfl) (fun ev hc hf h0 W => ?_) ?_; rotate_left; (focus (first | (go_simp; done) | (go_simp; with_reducible rfl))); rotate_left; simp only [Act.put, List.setIfInBounds_toArray, List.set_cons_zero, List.set_cons_succ]
        refine awt2 3 51 52 (o := ({ dst := some 53, op := Go.Op.indexAddr 22 (Go.Operand.tmp 51) (Go.Operand.tmp 52), type := 0, pos := "law.go:118", after := #[{ on := 1, ground := Go.Ground.data }, { on := 2, ground := Go.Ground.data }], guard := none })) (v := ?_) rfl (by kernel_rfl) (by kernel_rfl) (by kernel_rfl) (fun _ _ _ h => h) (by rfl) (by rfl) (by rfl) (fun ev hc hf h0 h1 W => ?_) ?_; rotate_left; (focus (first | (go_simp; done) | (go_simp; with_reducible rfl))); rotate_left; simp only [Act.put, List.setIfInBounds_toArray, List.set_cons_zero, List.set_cons_succ]
        refine awt1 4 53 (o := ({ dst := some 54, op := Go.Op.fieldAddr 35 (Go.Operand.tmp 53) 1, type := 0, pos := "law.go:118", after := #[{ on := 3, ground := Go.Ground.data }], guard := none })) (v := ?_) rfl (by kernel_rfl) (by kernel_rfl) (by kernel_rfl) (fun _ _ _ h => h) (by rfl) (by rfl) (fun ev hc hf h0 W => ?_) ?_; rotate_left; (focus (first | (go_simp; done) | (go_simp; with_reducible rfl))); rotate_left; simp only [Act.put, List.setIfInBounds_toArray, List.set_cons_zero, List.set_cons_succ]
        refine awt1 8 9 (o := ({ dst := some 58, op := Go.Op.move (Go.Operand.tmp 9), type := 3, pos := "law.go:118", after := #[], guard := none })) (v := ?_) rfl (by kernel_rfl) (by kernel_rfl) (by kernel_rfl) (fun _ _ _ h => h) (by rfl) (by rfl) (fun ev hc hf h0 W => ?_) ?_; rotate_left; (focus (first | (go_simp; done) | (go_simp; with_reducible rfl))); rotate_left; simp only [Act.put, List.setIfInBounds_toArray, List.set_cons_zero, List.set_cons_succ]
        refine awt1 10 1 (o := ({ dst := some 60, op := Go.Op.move (Go.Operand.tmp 1), type := 22, pos := "law.go:118", after := #[], guard := none })) (v := ?_) rfl (by kernel_rfl) (by kernel_rfl) (by kernel_rfl) (fun _ _ _ h => h) (by rfl) (by rfl) (fun ev hc hf h0 W => ?_) ?_; rotate_left; (focus (first | (go_simp; done) | (go_simp; with_reducible rfl))); rotate_left; simp only [Act.put, List.setIfInBounds_toArray, List.set_cons_zero, List.set_cons_succ]
        refine awt1 11 12 (o := ({ dst := some 61, op := Go.Op.move (Go.Operand.tmp 12), type := 3, pos := "law.go:118", after := #[], guard := none })) (v := ?_) rfl (by kernel_rfl) (by kernel_rfl) (by kernel_rfl) (fun _ _ _ h => h) (by rfl) (by rfl) (fun ev hc hf h0 W => ?_) ?_; rotate_left; (focus (first | (go_simp; done) | (go_simp; with_reducible rfl))); rotate_left; simp only [Act.put, List.setIfInBounds_toArray, List.set_cons_zero, List.set_cons_succ]
        refine awt2 12 60 61 (o := ({ dst := some 62, op := Go.Op.indexAddr 22 (Go.Operand.tmp 60) (Go.Operand.tmp 61), type := 0, pos := "law.go:118", after := #[{ on := 10, ground := Go.Ground.data }, { on := 11, ground := Go.Ground.data }], guard := none })) (v := ?_) rfl (by kernel_rfl) (by kernel_rfl) (by kernel_rfl) (fun _ _ _ h => h) (by rfl) (by rfl) (by rfl) (fun ev hc hf h0 h1 W => ?_) ?_; rotate_left; (focus (first | (go_simp; done) | (go_simp; with_reducible rfl))); rotate_left; simp only [Act.put, List.setIfInBounds_toArray, List.set_cons_zero, List.set_cons_succ]
        refine awt1 13 62 (o := ({ dst := some 63, op := Go.Op.fieldAddr 35 (Go.Operand.tmp 62) 2, type := 0, pos := "law.go:118", after := #[{ on := 12, ground := Go.Ground.data }], guard := none })) (v := ?_) rfl (by kernel_rfl) (by kernel_rfl) (by kernel_rfl) (fun _ _ _ h => h) (by rfl) (by rfl) (fun ev hc hf h0 W => ?_) ?_; rotate_left; (focus (first | (go_simp; done) | (go_simp; with_reducible rfl))); rotate_left; simp only [Act.put, List.setIfInBounds_toArray, List.set_cons_zero, List.set_cons_succ]
        refine aw_all [5, 14] (by kernel_rfl) (by simp) ?_
        refine arv1 (o := ({ dst := some 55, op := Go.Op.load 3 (Go.Operand.tmp 54), type := 3, pos := "law.go:118", after := #[{ on := 4, ground := Go.Ground.data }], guard := none })) 54 (v := ?_) (W' := ?_) rfl (by rfl) (by rfl) (fun ev hc hf h0 => ?_) ?_ ?_; rotate_left 2; (focus (obtain ⟨e1, e2⟩ := HS.out _ hW0; first | (go_simp; done) | (go_simp; with_reducible rfl) | (go_simp; constructor <;> with_reducible rfl)))
        · simp only [Act.put, List.setIfInBounds_toArray, List.set_cons_zero, List.set_cons_succ]
          refine awt1 6 55 (o := ({ dst := some 56, op := Go.Op.convert 3 46 (Go.Operand.tmp 55), type := 46, pos := "law.go:118", after := #[{ on := 5, ground := Go.Ground.data }], guard := none })) (v := ?_) rfl (by kernel_rfl) (by kernel_rfl) (by kernel_rfl) (fun _ _ _ h => h) (by rfl) (by rfl) (fun ev hc hf h0 W => ?_) ?_; rotate_left; (focus (first | (go_simp; done) | (go_simp; with_reducible rfl))); rotate_left; simp only [Act.put, List.setIfInBounds_toArray, List.set_cons_zero, List.set_cons_succ]
          refine awt1 7 56 (o := ({ dst := some 57, op := Go.Op.convert 46 3 (Go.Operand.tmp 56), type := 3, pos := "law.go:118", after := #[{ on := 6, ground := Go.Ground.data }], guard := none })) (v := ?_) rfl (by kernel_rfl) (by kernel_rfl) (by kernel_rfl) (fun _ _ _ h => h) (by rfl) (by rfl) (fun ev hc hf h0 W => ?_) ?_; rotate_left; (focus (first | (go_simp; done) | (go_simp; with_reducible rfl))); rotate_left; simp only [Act.put, List.setIfInBounds_toArray, List.set_cons_zero, List.set_cons_succ]
          refine awt2 9 57 58 (o := ({ dst := some 59, op := Go.Op.binOp Go.BinOp.rem 3 (Go.Operand.tmp 57) (Go.Operand.tmp 58) 3, type := 3, pos := "law.go:118", after := #[{ on := 7, ground := Go.Ground.data }, { on := 8, ground := Go.Ground.data }], guard := none })) (v := ?_) rfl (by kernel_rfl) (by kernel_rfl) (by kernel_rfl) (fun _ _ _ h => h) (by rfl) (by rfl) (by rfl) (fun ev hc hf h0 h1 W => ?_) ?_; rotate_left; (focus (first | (go_simp; done) | (go_simp; with_reducible rfl))); rotate_left; simp only [Act.put, List.setIfInBounds_toArray, List.set_cons_zero, List.set_cons_succ]
          refine aw_all [14] (by kernel_rfl) (by simp) ?_
          refine arv1 (o := ({ dst := some 64, op := Go.Op.load 5 (Go.Operand.tmp 63), type := 5, pos := "law.go:118", after := #[{ on := 13, ground := Go.Ground.data }], guard := none })) 63 (v := ?_) (W' := ?_) rfl (by rfl) (by rfl) (fun ev hc hf h0 => ?_) ?_ ?_; rotate_left 2; (focus (obtain ⟨e1, e2⟩ := HS.out _ hW0; first | (go_simp; done) | (go_simp; with_reducible rfl) | (go_simp; constructor <;> with_reducible rfl)))
          · simp only [Act.put, List.setIfInBounds_toArray, List.set_cons_zero, List.set_cons_succ]
            refine aw_all [15] (by kernel_rfl) (by simp) ?_
            refine arc1 (o := ({ dst := some 65, op := Go.Op.call { callee := Go.Callee.value (Go.Operand.func 17), args := #[Go.Operand.tmp 64], argTypes := #[5] }, type := 9, pos := "law.go:118", after := #[{ on := 14, ground := Go.Ground.data }], guard := none })) 64 _ _ _ rfl (by rfl) (by rfl) (fun ev hc hf h0 => ?_) (HF.out _) (fun W3 hc3 => ?_) ?_
            · focus (go_simp; done)
            · simp only [Act.put, List.setIfInBounds_toArray, List.set_cons_zero, List.set_cons_succ]
              have hW3 := hW0.step hc3
              exact END _ hW3
            exact ar_nil
          exact ar_nil
        refine arv1 (o := ({ dst := some 64, op := Go.Op.load 5 (Go.Operand.tmp 63), type := 5, pos := "law.go:118", after := #[{ on := 13, ground := Go.Ground.data }], guard := none })) 63 (v := ?_) (W' := ?_) rfl (by rfl) (by rfl) (fun ev hc hf h0 => ?_) ?_ ?_; rotate_left 2; (focus (obtain ⟨e1, e2⟩ := HS.out _ hW0; first | (go_simp; done) | (go_simp; with_reducible rfl) | (go_simp; constructor <;> with_reducible rfl)))
        · simp only [Act.put, List.setIfInBounds_toArray, List.set_cons_zero, List.set_cons_succ]
          refine aw_all [5, 15] (by kernel_rfl) (by simp) ?_
          refine arv1 (o := ({ dst := some 55, op := Go.Op.load 3 (Go.Operand.tmp 54), type := 3, pos := "law.go:118", after := #[{ on := 4, ground := Go.Ground.data }], guard := none })) 54 (v := ?_) (W' := ?_) rfl (by rfl) (by rfl) (fun ev hc hf h0 => ?_) ?_ ?_; rotate_left 2; (focus (obtain ⟨e1, e2⟩ := HS.out _ hW0; first | (go_simp; done) | (go_simp; with_reducible rfl) | (go_simp; constructor <;> with_reducible rfl)))
          · simp only [Act.put, List.setIfInBounds_toArray, List.set_cons_zero, List.set_cons_succ]
            refine awt1 6 55 (o := ({ dst := some 56, op := Go.Op.convert 3 46 (Go.Operand.tmp 55), type := 46, pos := "law.go:118", after := #[{ on := 5, ground := Go.Ground.data }], guard := none })) (v := ?_) rfl (by kernel_rfl) (by kernel_rfl) (by kernel_rfl) (fun _ _ _ h => h) (by rfl) (by rfl) (fun ev hc hf h0 W => ?_) ?_; rotate_left; (focus (first | (go_simp; done) | (go_simp; with_reducible rfl))); rotate_left; simp only [Act.put, List.setIfInBounds_toArray, List.set_cons_zero, List.set_cons_succ]
            refine awt1 7 56 (o := ({ dst := some 57, op := Go.Op.convert 46 3 (Go.Operand.tmp 56), type := 3, pos := "law.go:118", after := #[{ on := 6, ground := Go.Ground.data }], guard := none })) (v := ?_) rfl (by kernel_rfl) (by kernel_rfl) (by kernel_rfl) (fun _ _ _ h => h) (by rfl) (by rfl) (fun ev hc hf h0 W => ?_) ?_; rotate_left; (focus (first | (go_simp; done) | (go_simp; with_reducible rfl))); rotate_left; simp only [Act.put, List.setIfInBounds_toArray, List.set_cons_zero, List.set_cons_succ]
            refine awt2 9 57 58 (o := ({ dst := some 59, op := Go.Op.binOp Go.BinOp.rem 3 (Go.Operand.tmp 57) (Go.Operand.tmp 58) 3, type := 3, pos := "law.go:118", after := #[{ on := 7, ground := Go.Ground.data }, { on := 8, ground := Go.Ground.data }], guard := none })) (v := ?_) rfl (by kernel_rfl) (by kernel_rfl) (by kernel_rfl) (fun _ _ _ h => h) (by rfl) (by rfl) (by rfl) (fun ev hc hf h0 h1 W => ?_) ?_; rotate_left; (focus (first | (go_simp; done) | (go_simp; with_reducible rfl))); rotate_left; simp only [Act.put, List.setIfInBounds_toArray, List.set_cons_zero, List.set_cons_succ]
            refine aw_all [15] (by kernel_rfl) (by simp) ?_
            refine arc1 (o := ({ dst := some 65, op := Go.Op.call { callee := Go.Callee.value (Go.Operand.func 17), args := #[Go.Operand.tmp 64], argTypes := #[5] }, type := 9, pos := "law.go:118", after := #[{ on := 14, ground := Go.Ground.data }], guard := none })) 64 _ _ _ rfl (by rfl) (by rfl) (fun ev hc hf h0 => ?_) (HF.out _) (fun W6 hc6 => ?_) ?_
            · focus (go_simp; done)
            · simp only [Act.put, List.setIfInBounds_toArray, List.set_cons_zero, List.set_cons_succ]
              have hW6 := hW0.step hc6
              exact END _ hW6
            exact ar_nil
          refine arc1 (o := ({ dst := some 65, op := Go.Op.call { callee := Go.Callee.value (Go.Operand.func 17), args := #[Go.Operand.tmp 64], argTypes := #[5] }, type := 9, pos := "law.go:118", after := #[{ on := 14, ground := Go.Ground.data }], guard := none })) 64 _ _ _ rfl (by rfl) (by rfl) (fun ev hc hf h0 => ?_) (HF.out _) (fun W7 hc7 => ?_) ?_
          · focus (go_simp; done)
          · simp only [Act.put, List.setIfInBounds_toArray, List.set_cons_zero, List.set_cons_succ]
            have hW7 := hW0.step hc7
            refine aw_all [5] (by kernel_rfl) (by simp) ?_
            refine arv1 (o := ({ dst := some 55, op := Go.Op.load 3 (Go.Operand.tmp 54), type := 3, pos := "law.go:118", after := #[{ on := 4, ground := Go.Ground.data }], guard := none })) 54 (v := ?_) (W' := ?_) rfl (by rfl) (by rfl) (fun ev hc hf h0 => ?_) ?_ ?_; rotate_left 2; (focus (obtain ⟨e1, e2⟩ := HS.out _ hW7; first | (go_simp; done) | (go_simp; with_reducible rfl) | (go_simp; constructor <;> with_reducible rfl)))
            · simp only [Act.put, List.setIfInBounds_toArray, List.set_cons_zero, List.set_cons_succ]
              refine awt1 6 55 (o := ({ dst := some 56, op := Go.Op.convert 3 46 (Go.Operand.tmp 55), type := 46, pos := "law.go:118", after := #[{ on := 5, ground := Go.Ground.data }], guard := none })) (v := ?_) rfl (by kernel_rfl) (by kernel_rfl) (by kernel_rfl) (fun _ _ _ h => h) (by rfl) (by rfl) (fun ev hc hf h0 W => ?_) ?_; rotate_left; (focus (first | (go_simp; done) | (go_simp; with_reducible rfl))); rotate_left; simp only [Act.put, List.setIfInBounds_toArray, List.set_cons_zero, List.set_cons_succ]
              refine awt1 7 56 (o := ({ dst := some 57, op := Go.Op.convert 46 3 (Go.Operand.tmp 56), type := 3, pos := "law.go:118", after := #[{ on := 6, ground := Go.Ground.data }], guard := none })) (v := ?_) rfl (by kernel_rfl) (by kernel_rfl) (by kernel_rfl) (fun _ _ _ h => h) (by rfl) (by rfl) (fun ev hc hf h0 W => ?_) ?_; rotate_left; (focus (first | (go_simp; done) | (go_simp; with_reducible rfl))); rotate_left; simp only [Act.put, List.setIfInBounds_toArray, List.set_cons_zero, List.set_cons_succ]
              refine awt2 9 57 58 (o := ({ dst := some 59, op := Go.Op.binOp Go.BinOp.rem 3 (Go.Operand.tmp 57) (Go.Operand.tmp 58) 3, type := 3, pos := "law.go:118", after := #[{ on := 7, ground := Go.Ground.data }, { on := 8, ground := Go.Ground.data }], guard := none })) (v := ?_) rfl (by kernel_rfl) (by kernel_rfl) (by kernel_rfl) (fun _ _ _ h => h) (by rfl) (by rfl) (by rfl) (fun ev hc hf h0 h1 W => ?_) ?_; rotate_left; (focus (first | (go_simp; done) | (go_simp; with_reducible rfl))); rotate_left; simp only [Act.put, List.setIfInBounds_toArray, List.set_cons_zero, List.set_cons_succ]
              exact END _ hW7
            exact ar_nil
          exact ar_nil
        exact ar_nil
      intro w5 hw5
      refine aw_all [16] (by kernel_rfl) (by simp) ?_
      refine arc3 (o := ({ dst := some 66, op := Go.Op.call { callee := Go.Callee.value (Go.Operand.func 16), args := #[Go.Operand.tmp 50, Go.Operand.tmp 59, Go.Operand.tmp 65], argTypes := #[25, 3, 9] }, type := 26, pos := "law.go:118", after := #[{ on := 0, ground := Go.Ground.data }, { on := 9, ground := Go.Ground.data }, { on := 15, ground := Go.Ground.data }, { on := 15, ground := Go.Ground.chain }], guard := none })) 50 59 65 _ _ _ rfl (by rfl) (by rfl) (by rfl) (by rfl) (fun ev hc hf h0 h1 h2 => ?_) (own_write (bN : Int) str (oneByte s.c) (O.out.keep hw5) (dOf_there _ _ _ (by omega) (by rw [zeroS_len]; have := HW.out.2; omega)) (oneByte_len _) (by rw [← Y.out.2.2.2]) (dOf_len _ _ _ (by rw [List.length_take]; have := HL.out; omega))) (fun w6 h6 => ?_) ?_
      · focus (go_simp; done)
      · simp only [Act.put, List.setIfInBounds_toArray, List.set_cons_zero, List.set_cons_succ]
        have h7 : Own W w6 g (dOf (zeroS n) ((l1.take (k + 1)).map (wOf n))) := by
          have e1 : l1.take (k + 1) = l1.take k ++ [s] := by rw [List.take_add_one, Y.out.2.2.1]; rfl
          have e2 : wOf n s = ((bN : Int), oneByte s.c) := Prod.ext HW.out.1 rfl
          rw [e1, List.map_append, List.map_cons, List.map_nil, e2]
          exact h6
        have O7 := Lib.hid h7
        clear h6 h7 hw5 O
        refine awt1 17 66 (o := ({ dst := some 67, op := Go.Op.binOp Go.BinOp.neq 26 (Go.Operand.tmp 66) (Go.Operand.const (Go.Value.int Go.IntKind.i64 0)) 26, type := 4, pos := "law.go:118", after := #[{ on := 16, ground := Go.Ground.data }], guard := none })) (v := ?_) rfl (by kernel_rfl) (by kernel_rfl) (by kernel_rfl) (fun _ _ _ h => h) (by rfl) (by rfl) (fun ev hc hf h0 W => ?_) ?_; rotate_left; (focus (first | (go_simp; done) | (go_simp; with_reducible rfl))); rotate_left; simp only [Act.put, List.setIfInBounds_toArray, List.set_cons_zero, List.set_cons_succ]
        refine aw_done (by kernel_rfl) ?_
        go_wp2_with fail
        refine ⟨⟨k + 1, by have := Y.out.2.1; omega, by simp, O7.out⟩, ?_⟩
        simp [intOf]
        have := Y.out.2.1
        omega
      exact ar_nil
    · obtain rfl : k = l1.length := by omega
      have O2 := Lib.hid (show Own W wr g (dOf (zeroS n) (l1.map (wOf n))) by have := O.out; rwa [List.take_length] at this)
      clear O hk hlt O1
      go_wp2_with fail
      refine (own_sync O2.out rfl (dOf_len _ _ _ (by have := HL.out; omega))).mono ?_
      rintro e w2 ⟨rfl, hO⟩
      obtain ⟨S1, hS1⟩ : ∃ S1, syncS (l1.map (wOf n)) (zeroS n) = S1 := ⟨_, rfl⟩
      have O3 := Lib.hid (show Own W w2 g (dOf S1 []) by rw [← hS1]; exact hO)
      have hS1l : S1.length = n := by rw [← hS1]; exact (syncS_len _ _).trans (zeroS_len n)
      have T1 := Lib.hid (And.intro hS1 hS1l)
      clear hO O2 hS1 hS1l
      go_wp2_with fail
      refine (own_loose O3.out (Nat.zero_le _)).mono ?_
      rintro e w3 ⟨Al, cl, rfl, _, hbl⟩
      have O4 := Lib.hid (O3.out.keep hbl)
      clear hbl O3
      go_wp2_with fail
      obtain ⟨was, hwas⟩ : ∃ was, (⟨(dOf S1 []).sure.toArray⟩ : ByteArray) = was := ⟨_, rfl⟩
      refine (own_sure was hwas O4.out).mono ?_
      rintro e w5 ⟨rfl, hO⟩
      have O5 := Lib.hid hO
      have HWAS := Lib.hid hwas
      clear hO O4 hwas
      go_wp2_with fail
      go_loopw [14] (fun i wr => ∃ k : Nat, k ≤ l2.length ∧ i = .int .i64 k ∧ Own W wr g (dOf S1 ((l2.take k).map (wOf n)))) (fun i _ => l2.length - (intOf i).toNat)
      case atStart => exact ⟨0, Nat.zero_le _, rfl, O5.out⟩
      case round =>
        obtain ⟨k, hk, rfl, hO⟩ := hrel
        have O := Lib.hid hO
        clear hO
        by_cases hlt : k < l2.length
        · have hki : (k : Int) < (l2.length : Int) := by omega
          have hkb : (k : Int) ≤ 200 := by have := HL.out; omega
          obtain ⟨s, hs⟩ : ∃ s, l2[k]? = some s := ⟨_, List.getElem?_eq_getElem hlt⟩
          obtain ⟨b, o, rfl, hst⟩ : ∃ b o, A2 = some ⟨b, o, none⟩ ∧ StepAt wr b (o + k * 5) s := by
            rcases (X.out.2.1.bel O.out.2) with h | ⟨b, o, e, h⟩
            · rw [h] at hlt; simp at hlt
            · exact ⟨b, o, e, h k s hs⟩
          obtain ⟨str, hstr⟩ : ∃ str, (⟨(oneByte s.c).toArray⟩ : ByteArray) = str := ⟨_, rfl⟩
          have HF := Lib.hid (fun w' => hstr ▸ full_any s.c w')
          have HS := Lib.hid (show ∀ w', Bel wr w' → w'.cell? ⟨b, o + k * 5 + 1, none⟩ = some (.int .i64 s.b) ∧ w'.cell? ⟨b, o + k * 5 + 2, none⟩ = some (.int .u8 s.c) from fun w' hw => ⟨Bel.cell hw hst.2.1, Bel.cell hw hst.2.2.1⟩)
          have Y := Lib.hid (And.intro hk (And.intro hlt (And.intro hs hstr)))
          have hW0 : Bel wr wr.drew := (Bel.refl wr).drew
          have hn0 : ¬ (n = 0) := by have := HN.out.1; omega
          obtain ⟨bN, hw1, hw2, hmod⟩ := mod_norm n HN.out.1 s
          have HW := Lib.hid (And.intro hw1 hw2)
          clear hk hlt hs hst hstr hw1 hw2
          go_upto_region 18 with fail
          refine wp_aw 18 #[false, false, false, false, false, false, false, false, false, false, false, false, false, false, false, false, false, false] rfl rfl ?_
          refine aw_meetw 2 ?L18 ?F18 (C := fun w' => Bel wr w') (fun END => ?_) ?_
          case refine_1 =>
            refine awt1 0 10 (o := ({ dst := some 85, op := Go.Op.move (Go.Operand.tmp 10), type := 25, pos := "law.go:127", after := #[], guard := none })) (v := ?_) rfl (by kernel_rfl) (by kernel_rfl) (by kernel_rfl) (fun _ _ _ h => h) (by rfl) (by rfl) (fun ev hc hf h0 W => ?_) ?_; rotate_left; (focus (first | (go_simp; done) | (go_simp; with_reducible rfl))); rotate_left; simp only [Act.put, List.setIfInBounds_toArray, List.set_cons_zero, List.set_cons_succ]
            refine awt1 1 2 (o := ({ dst := some 86, op := Go.Op.move (Go.Operand.tmp 2), type := 22, pos := "law.go:127", after := #[], guard := none })) (v := ?_) rfl (by kernel_rfl) (by kernel_rfl) (by kernel_rfl) (fun _ _ _ h => h) (by rfl) (by rfl) (fun ev hc hf h0 W => ?_) ?_; rotate_left; (focus (first | (go_simp; done) | (go_simp; with_reducible rfl))); rotate_left; simp only [Act.put, List.setIfInBounds_toArray, List.set_cons_zero, List.set_cons_succ]
            refine awt1 2 14 (o := ({ dst := some 87, op := Go.Op.move (Go.Operand.tmp 14), type := 3, pos := "law.go:127", after := #[], guard := none })) (v := ?_) rfl (by kernel_rfl) (by kernel_rfl) (by kernel_rfl) (fun _ _ _ h => h) (by rfl) (by rfl) (fun ev hc hf h0 W => ?_) ?_; rotate_left; (focus (first | (go_simp; done) | (go_simp; with_reducible rfl))); rotate_left; simp only [Act.put, List.setIfInBounds_toArray, List.set_cons_zero, List.set_cons_succ]
            refine awt2 3 86 87 (o := ({ dst := some 88, op := Go.Op.indexAddr 22 (Go.Operand.tmp 86) (Go.Operand.tmp 87), type := 0, pos := "law.go:127", after := #[{ on := 1, ground := Go.Ground.data }, { on := 2, ground := Go.Ground.data }], guard := none })) (v := ?_) rfl (by kernel_rfl) (by kernel_rfl) (by kernel_rfl) (fun _ _ _ h => h) (by rfl) (by rfl) (by rfl) (fun ev hc hf h0 h1 W => ?_) ?_; rotate_left; (focus (first | (go_simp; done) | (go_simp; with_reducible rfl))); rotate_left; simp only [Act.put, List.setIfInBounds_toArray, List.set_cons_zero, List.set_cons_succ]
            refine awt1 4 88 (o := ({ dst := some 89, op := Go.Op.fieldAddr 35 (Go.Operand.tmp 88) 1, type := 0, pos := "law.go:127", after := #[{ on := 3, ground := Go.Ground.data }], guard := none })) (v := ?_) rfl (by kernel_rfl) (by kernel_rfl) (by kernel_rfl) (fun _ _ _ h => h) (by rfl) (by rfl) (fun ev hc hf h0 W => ?_) ?_; rotate_left; (focus (first | (go_simp; done) | (go_simp; with_reducible rfl))); rotate_left; simp only [Act.put, List.setIfInBounds_toArray, List.set_cons_zero, List.set_cons_succ]
            refine awt1 8 9 (o := ({ dst := some 93, op := Go.Op.move (Go.Operand.tmp 9), type := 3, pos := "law.go:127", after := #[], guard := none })) (v := ?_) rfl (by kernel_rfl) (by kernel_rfl) (by kernel_rfl) (fun _ _ _ h => h) (by rfl) (by rfl) (fun ev hc hf h0 W => ?_) ?_; rotate_left; (focus (first | (go_simp; done) | (go_simp; with_reducible rfl))); rotate_left; simp only [Act.put, List.setIfInBounds_toArray, List.set_cons_zero, List.set_cons_succ]
            refine awt1 10 2 (o := ({ dst := some 95, op := Go.Op.move (Go.Operand.tmp 2), type := 22, pos := "law.go:127", after := #[], guard := none })) (v := ?_) rfl (by kernel_rfl) (by kernel_rfl) (by kernel_rfl) (fun _ _ _ h => h) (by rfl) (by rfl) (fun ev hc hf h0 W => ?_) ?_; rotate_left; (focus (first | (go_simp; done) | (go_simp; with_reducible rfl))); rotate_left; simp only [Act.put, List.setIfInBounds_toArray, List.set_cons_zero, List.set_cons_succ]
            refine awt1 11 14 (o := ({ dst := some 96, op := Go.Op.move (Go.Operand.tmp 14), type := 3, pos := "law.go:127", after := #[], guard := none })) (v := ?_) rfl (by kernel_rfl) (by kernel_rfl) (by kernel_rfl) (fun _ _ _ h => h) (by rfl) (by rfl) (fun ev hc hf h0 W => ?_) ?_; rotate_left; (focus (first | (go_simp; done) | (go_simp; with_reducible rfl))); rotate_left; simp only [Act.put, List.setIfInBounds_toArray, List.set_cons_zero, List.set_cons_succ]
            refine awt2 12 95 96 (o := ({ dst := some 97, op := Go.Op.indexAddr 22 (Go.Operand.tmp 95) (Go.Operand.tmp 96), type := 0, pos := "law.go:127", after := #[{ on := 10, ground := Go.Ground.data }, { on := 11, ground := Go.Ground.data }], guard := none })) (v := ?_) rfl (by kernel_rfl) (by kernel_rfl) (by kernel_rfl) (fun _ _ _ h => h) (by rfl) (by rfl) (by rfl) (fun ev hc hf h0 h1 W => ?_) ?_; rotate_left; (focus (first | (go_simp; done) | (go_simp; with_reducible rfl))); rotate_left; simp only [Act.put, List.setIfInBounds_toArray, List.set_cons_zero, List.set_cons_succ]
            refine awt1 13 97 (o := ({ dst := some 98, op := Go.Op.fieldAddr 35 (Go.Operand.tmp 97) 2, type := 0, pos := "law.go:127", after := #[{ on := 12, ground := Go.Ground.data }], guard := none })) (v := ?_) rfl (by kernel_rfl) (by kernel_rfl) (by kernel_rfl) (fun _ _ _ h => h) (by rfl) (by rfl) (fun ev hc hf h0 W => ?_) ?_; rotate_left; (focus (first | (go_simp; done) | (go_simp; with_reducible rfl))); rotate_left; simp only [Act.put, List.setIfInBounds_toArray, List.set_cons_zero, List.set_cons_succ]
            refine aw_all [5, 14] (by kernel_rfl) (by simp) ?_
            refine arv1 (o := ({ dst := some 90, op := Go.Op.load 3 (Go.Operand.tmp 89), type := 3, pos := "law.go:127", after := #[{ on := 4, ground := Go.Ground.data }], guard := none })) 89 (v := ?_) (W' := ?_) rfl (by rfl) (by rfl) (fun ev hc hf h0 => ?_) ?_ ?_; rotate_left 2; (focus (obtain ⟨e1, e2⟩ := HS.out _ hW0; first | (go_simp; done) | (go_simp; with_reducible rfl) | (go_simp; constructor <;> with_reducible rfl)))
            · simp only [Act.put, List.setIfInBounds_toArray, List.set_cons_zero, List.set_cons_succ]
              refine awt1 6 90 (o := ({ dst := some 91, op := Go.Op.convert 3 46 (Go.Operand.tmp 90), type := 46, pos := "law.go:127", after := #[{ on := 5, ground := Go.Ground.data }], guard := none })) (v := ?_) rfl (by kernel_rfl) (by kernel_rfl) (by kernel_rfl) (fun _ _ _ h => h) (by rfl) (by rfl) (fun ev hc hf h0 W => ?_) ?_; rotate_left; (focus (first | (go_simp; done) | (go_simp; with_reducible rfl))); rotate_left; simp only [Act.put, List.setIfInBounds_toArray, List.set_cons_zero, List.set_cons_succ]
              refine awt1 7 91 (o := ({ dst := some 92, op := Go.Op.convert 46 3 (Go.Operand.tmp 91), type := 3, pos := "law.go:127", after := #[{ on := 6, ground := Go.Ground.data }], guard := none })) (v := ?_) rfl (by kernel_rfl) (by kernel_rfl) (by kernel_rfl) (fun _ _ _ h => h) (by rfl) (by rfl) (fun ev hc hf h0 W => ?_) ?_; rotate_left; (focus (first | (go_simp; done) | (go_simp; with_reducible rfl))); rotate_left; simp only [Act.put, List.setIfInBounds_toArray, List.set_cons_zero, List.set_cons_succ]
              refine awt2 9 92 93 (o := ({ dst := some 94, op := Go.Op.binOp Go.BinOp.rem 3 (Go.Operand.tmp 92) (Go.Operand.tmp 93) 3, type := 3, pos := "law.go:127", after := #[{ on := 7, ground := Go.Ground.data }, { on := 8, ground := Go.Ground.data }], guard := none })) (v := ?_) rfl (by kernel_rfl) (by kernel_rfl) (by kernel_rfl) (fun _ _ _ h => h) (by rfl) (by rfl) (by rfl) (fun ev hc hf h0 h1 W => ?_) ?_; rotate_left; (focus (first | (go_simp; done) | (go_simp; with_reducible rfl))); rotate_left; simp only [Act.put, List.setIfInBounds_toArray, List.set_cons_zero, List.set_cons_succ]
              refine aw_all [14] (by kernel_rfl) (by simp) ?_
              refine arv1 (o := ({ dst := some 99, op := Go.Op.load 5 (Go.Operand.tmp 98), type := 5, pos := "law.go:127", after := #[{ on := 13, ground := Go.Ground.data }], guard := none })) 98 (v := ?_) (W' := ?_) rfl (by rfl) (by rfl) (fun ev hc hf h0 => ?_) ?_ ?_; rotate_left 2; (focus (obtain ⟨e1, e2⟩ := HS.out _ hW0; first | (go_simp; done) | (go_simp; with_reducible rfl) | (go_simp; constructor <;> with_reducible rfl)))
              · simp only [Act.put, List.setIfInBounds_toArray, List.set_cons_zero, List.set_cons_succ]
                refine aw_all [15] (by kernel_rfl) (by simp) ?_
                refine arc1 (o := ({ dst := some 100, op := Go.Op.call { callee := Go.Callee.value (Go.Operand.func 17), args := #[Go.Operand.tmp 99], argTypes := #[5] }, type := 9, pos := "law.go:127", after := #[{ on := 14, ground := Go.Ground.data }], guard := none })) 99 _ _ _ rfl (by rfl) (by rfl) (fun ev hc hf h0 => ?_) (HF.out _) (fun W3 hc3 => ?_) ?_
                · focus (go_simp; done)
                · simp only [Act.put, List.setIfInBounds_toArray, List.set_cons_zero, List.set_cons_succ]
                  have hW3 := hW0.step hc3
                  exact END _ hW3
                exact ar_nil
              exact ar_nil
            refine arv1 (o := ({ dst := some 99, op := Go.Op.load 5 (Go.Operand.tmp 98), type := 5, pos := "law.go:127", after := #[{ on := 13, ground := Go.Ground.data }], guard := none })) 98 (v := ?_) (W' := ?_) rfl (by rfl) (by rfl) (fun ev hc hf h0 => ?_) ?_ ?_; rotate_left 2; (focus (obtain ⟨e1, e2⟩ := HS.out _ hW0; first | (go_simp; done) | (go_simp; with_reducible rfl) | (go_simp; constructor <;> with_reducible rfl)))
            · simp only [Act.put, List.setIfInBounds_toArray, List.set_cons_zero, List.set_cons_succ]
              refine aw_all [5, 15] (by kernel_rfl) (by simp) ?_
              refine arv1 (o := ({ dst := some 90, op := Go.Op.load 3 (Go.Operand.tmp 89), type := 3, pos := "law.go:127", after := #[{ on := 4, ground := Go.Ground.data }], guard := none })) 89 (v := ?_) (W' := ?_) rfl (by rfl) (by rfl) (fun ev hc hf h0 => ?_) ?_ ?_; rotate_left 2; (focus (obtain ⟨e1, e2⟩ := HS.out _ hW0; first | (go_simp; done) | (go_simp; with_reducible rfl) | (go_simp; constructor <;> with_reducible rfl)))
              · simp only [Act.put, List.setIfInBounds_toArray, List.set_cons_zero, List.set_cons_succ]
                refine awt1 6 90 (o := ({ dst := some 91, op := Go.Op.convert 3 46 (Go.Operand.tmp 90), type := 46, pos := "law.go:127", after := #[{ on := 5, ground := Go.Ground.data }], guard := none })) (v := ?_) rfl (by kernel_rfl) (by kernel_rfl) (by kernel_rfl) (fun _ _ _ h => h) (by rfl) (by rfl) (fun ev hc hf h0 W => ?_) ?_; rotate_left; (focus (first | (go_simp; done) | (go_simp; with_reducible rfl))); rotate_left; simp only [Act.put, List.setIfInBounds_toArray, List.set_cons_zero, List.set_cons_succ]
                refine awt1 7 91 (o := ({ dst := some 92, op := Go.Op.convert 46 3 (Go.Operand.tmp 91), type := 3, pos := "law.go:127", after := #[{ on := 6, ground := Go.Ground.data }], guard := none })) (v := ?_) rfl (by kernel_rfl) (by kernel_rfl) (by kernel_rfl) (fun _ _ _ h => h) (by rfl) (by rfl) (fun ev hc hf h0 W => ?_) ?_; rotate_left; (focus (first | (go_simp; done) | (go_simp; with_reducible rfl))); rotate_left; simp only [Act.put, List.setIfInBounds_toArray, List.set_cons_zero, List.set_cons_succ]
                refine awt2 9 92 93 (o := ({ dst := some 94, op := Go.Op.binOp Go.BinOp.rem 3 (Go.Operand.tmp 92) (Go.Operand.tmp 93) 3, type := 3, pos := "law.go:127", after := #[{ on := 7, ground := Go.Ground.data }, { on := 8, ground := Go.Ground.data }], guard := none })) (v := ?_) rfl (by kernel_rfl) (by kernel_rfl) (by kernel_rfl) (fun _ _ _ h => h) (by rfl) (by rfl) (by rfl) (fun ev hc hf h0 h1 W => ?_) ?_; rotate_left; (focus (first | (go_simp; done) | (go_simp; with_reducible rfl))); rotate_left; simp only [Act.put, List.setIfInBounds_toArray, List.set_cons_zero, List.set_cons_succ]
                refine aw_all [15] (by kernel_rfl) (by simp) ?_
                refine arc1 (o := ({ dst := some 100, op := Go.Op.call { callee := Go.Callee.value (Go.Operand.func 17), args := #[Go.Operand.tmp 99], argTypes := #[5] }, type := 9, pos := "law.go:127", after := #[{ on := 14, ground := Go.Ground.data }], guard := none })) 99 _ _ _ rfl (by rfl) (by rfl) (fun ev hc hf h0 => ?_) (HF.out _) (fun W6 hc6 => ?_) ?_
                · focus (go_simp; done)
                · simp only [Act.put, List.setIfInBounds_toArray, List.set_cons_zero, List.set_cons_succ]
                  have hW6 := hW0.step hc6
                  exact END _ hW6
                exact ar_nil
              refine arc1 (o := ({ dst := some 100, op := Go.Op.call { callee := Go.Callee.value (Go.Operand.func 17), args := #[Go.Operand.tmp 99], argTypes := #[5] }, type := 9, pos := "law.go:127", after := #[{ on := 14, ground := Go.Ground.data }], guard := none })) 99 _ _ _ rfl (by rfl) (by rfl) (fun ev hc hf h0 => ?_) (HF.out _) (fun W7 hc7 => ?_) ?_
              · focus (go_simp; done)
              · simp only [Act.put, List.setIfInBounds_toArray, List.set_cons_zero, List.set_cons_succ]
                have hW7 := hW0.step hc7
                refine aw_all [5] (by kernel_rfl) (by simp) ?_
                refine arv1 (o := ({ dst := some 90, op := Go.Op.load 3 (Go.Operand.tmp 89), type := 3, pos := "law.go:127", after := #[{ on := 4, ground := Go.Ground.data }], guard := none })) 89 (v := ?_) (W' := ?_) rfl (by rfl) (by rfl) (fun ev hc hf h0 => ?_) ?_ ?_; rotate_left 2; (focus (obtain ⟨e1, e2⟩ := HS.out _ hW7; first | (go_simp; done) | (go_simp; with_reducible rfl) | (go_simp; constructor <;> with_reducible rfl)))
                · simp only [Act.put, List.setIfInBounds_toArray, List.set_cons_zero, List.set_cons_succ]
                  refine awt1 6 90 (o := ({ dst := some 91, op := Go.Op.convert 3 46 (Go.Operand.tmp 90), type := 46, pos := "law.go:127", after := #[{ on := 5, ground := Go.Ground.data }], guard := none })) (v := ?_) rfl (by kernel_rfl) (by kernel_rfl) (by kernel_rfl) (fun _ _ _ h => h) (by rfl) (by rfl) (fun ev hc hf h0 W => ?_) ?_; rotate_left; (focus (first | (go_simp; done) | (go_simp; with_reducible rfl))); rotate_left; simp only [Act.put, List.setIfInBounds_toArray, List.set_cons_zero, List.set_cons_succ]
                  refine awt1 7 91 (o := ({ dst := some 92, op := Go.Op.convert 46 3 (Go.Operand.tmp 91), type := 3, pos := "law.go:127", after := #[{ on := 6, ground := Go.Ground.data }], guard := none })) (v := ?_) rfl (by kernel_rfl) (by kernel_rfl) (by kernel_rfl) (fun _ _ _ h => h) (by rfl) (by rfl) (fun ev hc hf h0 W => ?_) ?_; rotate_left; (focus (first | (go_simp; done) | (go_simp; with_reducible rfl))); rotate_left; simp only [Act.put, List.setIfInBounds_toArray, List.set_cons_zero, List.set_cons_succ]
                  refine awt2 9 92 93 (o := ({ dst := some 94, op := Go.Op.binOp Go.BinOp.rem 3 (Go.Operand.tmp 92) (Go.Operand.tmp 93) 3, type := 3, pos := "law.go:127", after := #[{ on := 7, ground := Go.Ground.data }, { on := 8, ground := Go.Ground.data }], guard := none })) (v := ?_) rfl (by kernel_rfl) (by kernel_rfl) (by kernel_rfl) (fun _ _ _ h => h) (by rfl) (by rfl) (by rfl) (fun ev hc hf h0 h1 W => ?_) ?_; rotate_left; (focus (first | (go_simp; done) | (go_simp; with_reducible rfl))); rotate_left; simp only [Act.put, List.setIfInBounds_toArray, List.set_cons_zero, List.set_cons_succ]
                  exact END _ hW7
                exact ar_nil
              exact ar_nil
            exact ar_nil
          intro w5 hw5
          refine aw_all [16] (by kernel_rfl) (by simp) ?_
          refine arc3 (o := ({ dst := some 101, op := Go.Op.call { callee := Go.Callee.value (Go.Operand.func 16), args := #[Go.Operand.tmp 85, Go.Operand.tmp 94, Go.Operand.tmp 100], argTypes := #[25, 3, 9] }, type := 26, pos := "law.go:127", after := #[{ on := 0, ground := Go.Ground.data }, { on := 9, ground := Go.Ground.data }, { on := 15, ground := Go.Ground.data }, { on := 15, ground := Go.Ground.chain }], guard := none })) 85 94 100 _ _ _ rfl (by rfl) (by rfl) (by rfl) (by rfl) (fun ev hc hf h0 h1 h2 => ?_) (own_write (bN : Int) str (oneByte s.c) (O.out.keep hw5) (dOf_there _ _ _ (by omega) (by rw [T1.out.2]; have := HW.out.2; omega)) (oneByte_len _) (by rw [← Y.out.2.2.2]) (dOf_len _ _ _ (by rw [List.length_take]; have := HL.out; omega))) (fun w6 h6 => ?_) ?_
          · focus (go_simp; done)
          · simp only [Act.put, List.setIfInBounds_toArray, List.set_cons_zero, List.set_cons_succ]
            have h7 : Own W w6 g (dOf S1 ((l2.take (k + 1)).map (wOf n))) := by
              have e1 : l2.take (k + 1) = l2.take k ++ [s] := by rw [List.take_add_one, Y.out.2.2.1]; rfl
              have e2 : wOf n s = ((bN : Int), oneByte s.c) := Prod.ext HW.out.1 rfl
              rw [e1, List.map_append, List.map_cons, List.map_nil, e2]
              exact h6
            have O7 := Lib.hid h7
            clear h6 h7 hw5 O
            refine awt1 17 101 (o := ({ dst := some 102, op := Go.Op.binOp Go.BinOp.neq 26 (Go.Operand.tmp 101) (Go.Operand.const (Go.Value.int Go.IntKind.i64 0)) 26, type := 4, pos := "law.go:127", after := #[{ on := 16, ground := Go.Ground.data }], guard := none })) (v := ?_) rfl (by kernel_rfl) (by kernel_rfl) (by kernel_rfl) (fun _ _ _ h => h) (by rfl) (by rfl) (fun ev hc hf h0 W => ?_) ?_; rotate_left; (focus (first | (go_simp; done) | (go_simp; with_reducible rfl))); rotate_left; simp only [Act.put, List.setIfInBounds_toArray, List.set_cons_zero, List.set_cons_succ]
            refine aw_done (by kernel_rfl) ?_
            go_wp2_with fail
            refine ⟨⟨k + 1, by have := Y.out.2.1; omega, by simp, O7.out⟩, ?_⟩
            simp [intOf]
            have := Y.out.2.1
            omega
          exact ar_nil
        · obtain rfl : k = l2.length := by omega
          have O5x := Lib.hid (show (dOf S1 []).ok from O5.out.ok)
          have O6 := Lib.hid (show Own W wr g (dOf S1 (l2.map (wOf n))) by have := O.out; rwa [List.take_length] at this)
          clear O hk hlt O5
          have hbn : Bk (wr.alloc (.cells #[] 3)) wr.heap.size #[] 3 := Bk.new wr _ _
          have hOwn : (wr.alloc (.cells #[] 3)).ownsRow wr.heap.size 3 1 (.slice (some ⟨wr.heap.size, 0, none⟩) 0 0) 0 [] := ⟨rfl, .inr ⟨wr.heap.size, 0, #[], rfl, Nat.le_refl _, hbn, Nat.le_refl _, by simp [maxLen], rfl, rfl⟩⟩
          have hba : Below wr.heap.size wr (wr.alloc (.cells #[] 3)) := (Below.refl _ _).alloc (Nat.le_refl _) _
          obtain ⟨A', c', w7, hap, ho7, hg7⟩ := app_empty 33 hOwn A3 c3 ps (X.out.2.2.1.bel (O6.out.2.trans (hba.mono O6.out.2.size))) X.out.2.2.2 (by have := HL.out; omega) (by simp)
          have hb7 : Below wr.heap.size wr w7 := hba.grown hg7 (by simp) (fun j e => by injection e with e; omega)
          have AP := Lib.hid hap
          have HP := Lib.hid (And.intro ho7 hb7)
          clear hbn hOwn hba hap ho7 hg7 hb7
          go_wp2_with (with_reducible refine wpList_pl 104 rfl ?_)
          refine plv0 (.slice (some ⟨wr.heap.size, 0, none⟩) 0 0) (W' := wr.alloc (.cells #[] 3)) (by rfl) (fun ev hc hf => ?_) ?_
          · go_simp
          simp only [Act.put, List.setIfInBounds_toArray, List.set_cons_zero, List.set_cons_succ]
          refine plv1 3 (v := ?_) (W' := ?_) (by rfl) (by rfl) (fun ev hc hf h0 => ?_) ?_; rotate_left 2; (focus (go_simp; constructor <;> with_reducible rfl)); simp only [Act.put, List.setIfInBounds_toArray, List.set_cons_zero, List.set_cons_succ]
          refine plv2 104 105 _ (by rfl) (by rfl) (by rfl) (fun ev hc hf h0 h1 => ex_app _ _ 33 rfl h0 h1 AP.out) ?_
          simp only [Act.put, List.setIfInBounds_toArray, List.set_cons_zero, List.set_cons_succ]
          refine PL.mk ?_
          go_wp2_with fail
          refine (own_crash_new ps O6.out (dOf_len _ _ _ (by have := HL.out; omega)) (by have := HL.out; omega) w7 HP.out.2 A' c' (picks_own HP.out.1)).mono ?_
          rintro e w8 ⟨rfl, hO⟩
          obtain ⟨S2, hS2⟩ : ∃ S2, crashS (l2.map (wOf n)) ps S1 = S2 := ⟨_, rfl⟩
          have O8 := Lib.hid (show Own W w8 g (dOf S2 []) by rw [← hS2]; exact hO)
          have hS2l : S2.length = n := by rw [← hS2]; exact (crashS_len _ _ _).trans T1.out.2
          have T2 := Lib.hid (And.intro hS2 hS2l)
          clear hO O6 hS2 hS2l AP HP
          go_wp2_with fail
          obtain ⟨now, hnow⟩ : ∃ now, (⟨(dOf S2 []).sure.toArray⟩ : ByteArray) = now := ⟨_, rfl⟩
          refine (own_sure now hnow O8.out).mono ?_
          rintro e w9 ⟨rfl, hO⟩
          have O9 := Lib.hid hO
          have HNOW := Lib.hid hnow
          have hok1 := O5x.out
          have z1 : (was.size : Int) = (n : Int) * 256 := by
            rw [← HWAS.out, sure_size hok1, show (dOf S1 []).S.length = n from T1.out.2]
            push_cast
            rfl
          have z2 : (now.size : Int) = (n : Int) * 256 := by
            rw [← hnow, sure_size O8.out.ok, show (dOf S2 []).S.length = n from T2.out.2]
            push_cast
            rfl
          have PU := Lib.hid (keeps_pure n HN.out.1 l2 ps S1 hok1.all T1.out.2 was now HWAS.out (by rw [T2.out.1]; exact hnow))
          have B9 := Lib.hid (O9.out.2)
          have hN := HN.out
          clear hO O8 hnow O9 HNOW HWAS T1 T2 hok1
          go_wp2_with fail
          go_loopw [16] (fun i w' => ∃ k : Nat, k ≤ n * 256 ∧ i = .int .i64 k ∧ Below W.heap.size W w') (fun i _ => n * 256 - (intOf i).toNat)
          case atStart => exact ⟨0, Nat.zero_le _, rfl, B9.out⟩
          case round =>
            rename_i wr2 _
            obtain ⟨k, hk, rfl, HB⟩ := hrel
            by_cases hlt : k < n * 256
            · have hk1 : (k : Int) < (now.size : Int) := by omega
              have hk2 : (k : Int) < (was.size : Int) := by omega
              have hkb : (k : Int) ≤ 1000000 := by omega
              go_upto_region 28 with fail
              refine wp_qw (by kernel_rfl) ?_
              (refine qv1 15 (v := ?_) (by rfl) (by rfl) (fun ev hc hf h0 W hW => ?_) ?_; rotate_left; (focus (first | (go_simp; done) | (go_simp; with_reducible rfl))); rotate_left; simp only [Act.put, List.setIfInBounds_toArray, List.set_cons_zero, List.set_cons_succ])
              (refine qv1 16 (v := ?_) (by rfl) (by rfl) (fun ev hc hf h0 W hW => ?_) ?_; rotate_left; (focus (first | (go_simp; done) | (go_simp; with_reducible rfl))); rotate_left; simp only [Act.put, List.setIfInBounds_toArray, List.set_cons_zero, List.set_cons_succ])
              (refine qv2 129 130 (v := ?_) (by rfl) (by rfl) (by rfl) (fun ev hc hf h0 h1 W hW => ?_) ?_; rotate_left; (focus (first | (go_simp; done) | (go_simp; with_reducible rfl))); rotate_left; simp only [Act.put, List.setIfInBounds_toArray, List.set_cons_zero, List.set_cons_succ])
              (refine qv1 13 (v := ?_) (by rfl) (by rfl) (fun ev hc hf h0 W hW => ?_) ?_; rotate_left; (focus (first | (go_simp; done) | (go_simp; with_reducible rfl))); rotate_left; simp only [Act.put, List.setIfInBounds_toArray, List.set_cons_zero, List.set_cons_succ])
              (refine qv1 16 (v := ?_) (by rfl) (by rfl) (fun ev hc hf h0 W hW => ?_) ?_; rotate_left; (focus (first | (go_simp; done) | (go_simp; with_reducible rfl))); rotate_left; simp only [Act.put, List.setIfInBounds_toArray, List.set_cons_zero, List.set_cons_succ])
              (refine qv2 132 133 (v := ?_) (by rfl) (by rfl) (by rfl) (fun ev hc hf h0 h1 W hW => ?_) ?_; rotate_left; (focus (first | (go_simp; done) | (go_simp; with_reducible rfl))); rotate_left; simp only [Act.put, List.setIfInBounds_toArray, List.set_cons_zero, List.set_cons_succ])
              (refine qv2 131 134 (v := ?_) (by rfl) (by rfl) (by rfl) (fun ev hc hf h0 h1 W hW => ?_) ?_; rotate_left; (focus (first | (go_simp; done) | (go_simp; with_reducible rfl))); rotate_left; simp only [Act.put, List.setIfInBounds_toArray, List.set_cons_zero, List.set_cons_succ])
              (refine qv1 135 (v := ?_) (by rfl) (by rfl) (fun ev hc hf h0 W hW => ?_) ?_; rotate_left; (focus (first | (go_simp; done) | (go_simp; with_reducible rfl))); rotate_left; simp only [Act.put, List.setIfInBounds_toArray, List.set_cons_zero, List.set_cons_succ])
              refine qnil ?_
              intro w10 hW10
              have hkn : k < now.size := by omega
              have hkw : k < was.size := by omega
              obtain ⟨vn, hvn⟩ : ∃ v, now[k]'hkn = v := ⟨_, rfl⟩
              obtain ⟨vw, hvw⟩ : ∃ v, was[k]'hkw = v := ⟨_, rfl⟩
              have pn : now.data[k]? = some vn := by rw [← hvn]; exact Array.getElem?_eq_getElem (show k < now.data.size from hkn)
              have pw : was.data[k]? = some vw := by rw [← hvw]; exact Array.getElem?_eq_getElem (show k < was.data.size from hkw)
              rw [hvn, hvw]
              obtain ⟨q0, hq0⟩ : ∃ q0, (((vn.toNat : Int) == (vw.toNat : Int))) = q0 := ⟨_, rfl⟩
              rw [hq0]
              have HQ := Lib.hid (And.intro pn (And.intro pw (And.intro hq0 hvn)))
              have H10 := Lib.hid (Below.trans HB (Below.mono (show Below wr.heap.size wr w10 from hW10) HB.size))
              have hk256 := hk
              clear hvn hvw pn pw hq0 hkw HB hW10 hk
              go_wp2_with fail
              go_loopw [17, 18] (fun is i w' => ∃ (j : Nat) (q : Bool), j ≤ l2.length ∧ i = .int .i64 j ∧ is = .bool q ∧ Below W.heap.size W w' ∧ (q = false → q0 = false ∧ ∀ (m : Nat) (s : Stp), m < j → l2[m]? = some s → ¬ ((wOf n s).1 = ((k / 256 : Nat) : Int) ∧ s.c = (vn.toNat : Int)))) (fun _ i _ => l2.length - (intOf i).toNat)
              case atStart => exact ⟨0, q0, Nat.zero_le _, rfl, rfl, H10.out, fun h => ⟨h, fun m s hm => by omega⟩⟩
              case round =>
                obtain ⟨j, q, hj, rfl, rfl, HB2, hq⟩ := hrel
                have HBB := Lib.hid HB2
                have HQQ := Lib.hid hq
                clear HB2 hq H10
                cases q with
                | true =>
                  by_cases hjl : j < l2.length
                  · have hji : (j : Int) < (l2.length : Int) := by omega
                    go_wp2_with fail
                    refine ⟨⟨k + 1, by omega, by simp, HBB.out⟩, ?_⟩
                    simp [intOf]
                    omega
                  · have hji : ¬ ((j : Int) < (l2.length : Int)) := by omega
                    go_wp2_with fail
                    refine ⟨⟨k + 1, by omega, by simp, HBB.out⟩, ?_⟩
                    simp [intOf]
                    omega
                | false =>
                  by_cases hjl : j < l2.length
                  · have hji : (j : Int) < (l2.length : Int) := by omega
                    have hjb : (j : Int) ≤ 200 := by have := HL.out; omega
                    obtain ⟨s, hs⟩ : ∃ s, l2[j]? = some s := ⟨_, List.getElem?_eq_getElem hjl⟩
                    obtain ⟨b, o, rfl, hst⟩ : ∃ b o, A2 = some ⟨b, o, none⟩ ∧ StepAt wr b (o + j * 5) s := by
                      rcases (X.out.2.1.bel HBB.out) with h | ⟨b, o, e, h⟩
                      · rw [h] at hjl; simp at hjl
                      · exact ⟨b, o, e, h j s hs⟩
                    have HS := Lib.hid (show ∀ w', Bel wr w' → w'.cell? ⟨b, o + j * 5 + 1, none⟩ = some (.int .i64 s.b) ∧ w'.cell? ⟨b, o + j * 5 + 2, none⟩ = some (.int .u8 s.c) from fun w' hw => ⟨Bel.cell hw hst.2.1, Bel.cell hw hst.2.2.1⟩)
                    have hn0 : ¬ (n = 0) := by omega
                    obtain ⟨bN, hw1, hw2, hmod⟩ := mod_norm n hN.1 s
                    have HW := Lib.hid (And.intro hw1 (And.intro hw2 (And.intro hs (And.intro hj hjl))))
                    have hvn := HQ.out.2.2.2
                    obtain ⟨kq, hkq⟩ : ∃ kq, kq = k / 256 := ⟨_, rfl⟩
                    have hquo : IntKind.i64.wrap ((k : Int) / 256) = (kq : Int) := by
                      rw [hkq]
                      simp [IntKind.wrap, IntKind.bits, IntKind.signed]
                      omega
                    have HKQ := Lib.hid hkq
                    clear hkq
                    clear hst hs hj hjl hw1 hw2
                    go_upto_region 32 with fail
                    refine wp_qw (by kernel_rfl) ?_
                    by_cases hbq : bN = kq
                    · subst hbq
                      (refine qv1 2 (v := ?_) (by rfl) (by rfl) (fun ev hc hf h0 W hW => ?_) ?_; rotate_left; (focus (obtain ⟨e1, e2⟩ := HS.out W hW; first | (go_simp; done) | (go_simp; with_reducible rfl))); rotate_left; simp only [Act.put, List.setIfInBounds_toArray, List.set_cons_zero, List.set_cons_succ])
                      (refine qv1 18 (v := ?_) (by rfl) (by rfl) (fun ev hc hf h0 W hW => ?_) ?_; rotate_left; (focus (obtain ⟨e1, e2⟩ := HS.out W hW; first | (go_simp; done) | (go_simp; with_reducible rfl))); rotate_left; simp only [Act.put, List.setIfInBounds_toArray, List.set_cons_zero, List.set_cons_succ])
                      (refine qv2 146 147 (v := ?_) (by rfl) (by rfl) (by rfl) (fun ev hc hf h0 h1 W hW => ?_) ?_; rotate_left; (focus (obtain ⟨e1, e2⟩ := HS.out W hW; first | (go_simp; done) | (go_simp; with_reducible rfl))); rotate_left; simp only [Act.put, List.setIfInBounds_toArray, List.set_cons_zero, List.set_cons_succ])
                      (refine qv1 148 (v := ?_) (by rfl) (by rfl) (fun ev hc hf h0 W hW => ?_) ?_; rotate_left; (focus (obtain ⟨e1, e2⟩ := HS.out W hW; first | (go_simp; done) | (go_simp; with_reducible rfl))); rotate_left; simp only [Act.put, List.setIfInBounds_toArray, List.set_cons_zero, List.set_cons_succ])
                      (refine qv1 149 (v := ?_) (by rfl) (by rfl) (fun ev hc hf h0 W hW => ?_) ?_; rotate_left; (focus (obtain ⟨e1, e2⟩ := HS.out W hW; first | (go_simp; done) | (go_simp; with_reducible rfl))); rotate_left; simp only [Act.put, List.setIfInBounds_toArray, List.set_cons_zero, List.set_cons_succ])
                      (refine qv1 150 (v := ?_) (by rfl) (by rfl) (fun ev hc hf h0 W hW => ?_) ?_; rotate_left; (focus (obtain ⟨e1, e2⟩ := HS.out W hW; first | (go_simp; done) | (go_simp; with_reducible rfl))); rotate_left; simp only [Act.put, List.setIfInBounds_toArray, List.set_cons_zero, List.set_cons_succ])
                      (refine qv1 151 (v := ?_) (by rfl) (by rfl) (fun ev hc hf h0 W hW => ?_) ?_; rotate_left; (focus (obtain ⟨e1, e2⟩ := HS.out W hW; first | (go_simp; done) | (go_simp; with_reducible rfl))); rotate_left; simp only [Act.put, List.setIfInBounds_toArray, List.set_cons_zero, List.set_cons_succ])
                      (refine qv1 9 (v := ?_) (by rfl) (by rfl) (fun ev hc hf h0 W hW => ?_) ?_; rotate_left; (focus (obtain ⟨e1, e2⟩ := HS.out W hW; first | (go_simp; done) | (go_simp; with_reducible rfl))); rotate_left; simp only [Act.put, List.setIfInBounds_toArray, List.set_cons_zero, List.set_cons_succ])
                      (refine qv2 152 153 (v := ?_) (by rfl) (by rfl) (by rfl) (fun ev hc hf h0 h1 W hW => ?_) ?_; rotate_left; (focus (obtain ⟨e1, e2⟩ := HS.out W hW; first | (go_simp; done) | (go_simp; with_reducible rfl))); rotate_left; simp only [Act.put, List.setIfInBounds_toArray, List.set_cons_zero, List.set_cons_succ])
                      (refine qv1 16 (v := ?_) (by rfl) (by rfl) (fun ev hc hf h0 W hW => ?_) ?_; rotate_left; (focus (obtain ⟨e1, e2⟩ := HS.out W hW; first | (go_simp; done) | (go_simp; with_reducible rfl))); rotate_left; simp only [Act.put, List.setIfInBounds_toArray, List.set_cons_zero, List.set_cons_succ])
                      (refine qv1 155 (v := ?_) (by rfl) (by rfl) (fun ev hc hf h0 W hW => ?_) ?_; rotate_left; (focus (obtain ⟨e1, e2⟩ := HS.out W hW; first | (go_simp; done) | (go_simp; with_reducible rfl))); rotate_left; simp only [Act.put, List.setIfInBounds_toArray, List.set_cons_zero, List.set_cons_succ])
                      (refine qv2 154 156 (v := ?_) (by rfl) (by rfl) (by rfl) (fun ev hc hf h0 h1 W hW => ?_) ?_; rotate_left; (focus (obtain ⟨e1, e2⟩ := HS.out W hW; first | (go_simp; done) | (go_simp; with_reducible rfl))); rotate_left; simp only [Act.put, List.setIfInBounds_toArray, List.set_cons_zero, List.set_cons_succ])
                      (refine qv1 157 (v := ?_) (by rfl) (by rfl) (fun ev hc hf h0 W hW => ?_) ?_; rotate_left; (focus (obtain ⟨e1, e2⟩ := HS.out W hW; first | (go_simp; done) | (go_simp; with_reducible rfl))); rotate_left; simp only [Act.put, List.setIfInBounds_toArray, List.set_cons_zero, List.set_cons_succ])
                      first
                        | (refine qskip (by rfl) ?_; simp only [Act.put, List.setIfInBounds_toArray, List.set_cons_zero, List.set_cons_succ])
                        | (refine qv1 2 (v := ?_) (by rfl) (by rfl) (fun ev hc hf h0 W hW => ?_) ?_; rotate_left; (focus (obtain ⟨e1, e2⟩ := HS.out W hW; first | (go_simp; done) | (go_simp; with_reducible rfl))); rotate_left; simp only [Act.put, List.setIfInBounds_toArray, List.set_cons_zero, List.set_cons_succ])
                      first
                        | (refine qskip (by rfl) ?_; simp only [Act.put, List.setIfInBounds_toArray, List.set_cons_zero, List.set_cons_succ])
                        | (refine qv1 18 (v := ?_) (by rfl) (by rfl) (fun ev hc hf h0 W hW => ?_) ?_; rotate_left; (focus (obtain ⟨e1, e2⟩ := HS.out W hW; first | (go_simp; done) | (go_simp; with_reducible rfl))); rotate_left; simp only [Act.put, List.setIfInBounds_toArray, List.set_cons_zero, List.set_cons_succ])
                      first
                        | (refine qskip (by rfl) ?_; simp only [Act.put, List.setIfInBounds_toArray, List.set_cons_zero, List.set_cons_succ])
                        | (refine qv2 159 160 (v := ?_) (by rfl) (by rfl) (by rfl) (fun ev hc hf h0 h1 W hW => ?_) ?_; rotate_left; (focus (obtain ⟨e1, e2⟩ := HS.out W hW; first | (go_simp; done) | (go_simp; with_reducible rfl))); rotate_left; simp only [Act.put, List.setIfInBounds_toArray, List.set_cons_zero, List.set_cons_succ])
                      first
                        | (refine qskip (by rfl) ?_; simp only [Act.put, List.setIfInBounds_toArray, List.set_cons_zero, List.set_cons_succ])
                        | (refine qv1 161 (v := ?_) (by rfl) (by rfl) (fun ev hc hf h0 W hW => ?_) ?_; rotate_left; (focus (obtain ⟨e1, e2⟩ := HS.out W hW; first | (go_simp; done) | (go_simp; with_reducible rfl))); rotate_left; simp only [Act.put, List.setIfInBounds_toArray, List.set_cons_zero, List.set_cons_succ])
                      first
                        | (refine qskip (by rfl) ?_; simp only [Act.put, List.setIfInBounds_toArray, List.set_cons_zero, List.set_cons_succ])
                        | (refine qv1 162 (v := ?_) (by rfl) (by rfl) (fun ev hc hf h0 W hW => ?_) ?_; rotate_left; (focus (obtain ⟨e1, e2⟩ := HS.out W hW; first | (go_simp; done) | (go_simp; with_reducible rfl))); rotate_left; simp only [Act.put, List.setIfInBounds_toArray, List.set_cons_zero, List.set_cons_succ])
                      first
                        | (refine qskip (by rfl) ?_; simp only [Act.put, List.setIfInBounds_toArray, List.set_cons_zero, List.set_cons_succ])
                        | (refine qv1 15 (v := ?_) (by rfl) (by rfl) (fun ev hc hf h0 W hW => ?_) ?_; rotate_left; (focus (obtain ⟨e1, e2⟩ := HS.out W hW; first | (go_simp; done) | (go_simp; with_reducible rfl))); rotate_left; simp only [Act.put, List.setIfInBounds_toArray, List.set_cons_zero, List.set_cons_succ])
                      first
                        | (refine qskip (by rfl) ?_; simp only [Act.put, List.setIfInBounds_toArray, List.set_cons_zero, List.set_cons_succ])
                        | (refine qv1 16 (v := ?_) (by rfl) (by rfl) (fun ev hc hf h0 W hW => ?_) ?_; rotate_left; (focus (obtain ⟨e1, e2⟩ := HS.out W hW; first | (go_simp; done) | (go_simp; with_reducible rfl))); rotate_left; simp only [Act.put, List.setIfInBounds_toArray, List.set_cons_zero, List.set_cons_succ])
                      first
                        | (refine qskip (by rfl) ?_; simp only [Act.put, List.setIfInBounds_toArray, List.set_cons_zero, List.set_cons_succ])
                        | (refine qv2 164 165 (v := ?_) (by rfl) (by rfl) (by rfl) (fun ev hc hf h0 h1 W hW => ?_) ?_; rotate_left; (focus (obtain ⟨e1, e2⟩ := HS.out W hW; first | (go_simp; done) | (go_simp; with_reducible rfl))); rotate_left; simp only [Act.put, List.setIfInBounds_toArray, List.set_cons_zero, List.set_cons_succ])
                      first
                        | (refine qskip (by rfl) ?_; simp only [Act.put, List.setIfInBounds_toArray, List.set_cons_zero, List.set_cons_succ])
                        | (refine qv2 163 166 (v := ?_) (by rfl) (by rfl) (by rfl) (fun ev hc hf h0 h1 W hW => ?_) ?_; rotate_left; (focus (obtain ⟨e1, e2⟩ := HS.out W hW; first | (go_simp; done) | (go_simp; with_reducible rfl))); rotate_left; simp only [Act.put, List.setIfInBounds_toArray, List.set_cons_zero, List.set_cons_succ])
                      (refine qv2 158 167 (v := ?_) (by rfl) (by rfl) (by rfl) (fun ev hc hf h0 h1 W hW => ?_) ?_; rotate_left; (focus (obtain ⟨e1, e2⟩ := HS.out W hW; first | (go_simp; done) | (go_simp; with_reducible rfl))); rotate_left; simp only [Act.put, List.setIfInBounds_toArray, List.set_cons_zero, List.set_cons_succ])
                      (refine qv1 168 (v := ?_) (by rfl) (by rfl) (fun ev hc hf h0 W hW => ?_) ?_; rotate_left; (focus (obtain ⟨e1, e2⟩ := HS.out W hW; first | (go_simp; done) | (go_simp; with_reducible rfl))); rotate_left; simp only [Act.put, List.setIfInBounds_toArray, List.set_cons_zero, List.set_cons_succ])
                      refine qnil ?_
                      intro w12 hW12
                      have h12 := Lib.hid (Below.trans HBB.out (Below.mono (show Below wr.heap.size wr w12 from hW12) HBB.out.size))
                      clear hW12
                      go_wp2_with fail
                      refine ⟨⟨j + 1, (s.c == (vn.toNat : Int)), by have := HW.out.2.2.2.2; omega, by simp, rfl, h12.out, fun hq => ⟨(HQQ.out rfl).1, fun m z hm hz => ?_⟩⟩, ?_⟩
                      · rcases Nat.lt_or_ge m j with h | h
                        · exact (HQQ.out rfl).2 m z h hz
                        · obtain rfl : m = j := by omega
                          rw [HW.out.2.2.1] at hz
                          injection hz with hz
                          subst hz
                          intro hh
                          rw [hh.2] at hq
                          simp at hq
                      · simp [intOf]
                        have := HW.out.2.2.2.2
                        omega
                    · have hne : ((bN : Int) == (kq : Int)) = false := by rw [beq_eq_false_iff_ne]; omega
                      have HNE := Lib.hid hbq
                      clear hbq
                      (refine qv1 2 (v := ?_) (by rfl) (by rfl) (fun ev hc hf h0 W hW => ?_) ?_; rotate_left; (focus (obtain ⟨e1, e2⟩ := HS.out W hW; first | (go_simp; done) | (go_simp; with_reducible rfl))); rotate_left; simp only [Act.put, List.setIfInBounds_toArray, List.set_cons_zero, List.set_cons_succ])
                      (refine qv1 18 (v := ?_) (by rfl) (by rfl) (fun ev hc hf h0 W hW => ?_) ?_; rotate_left; (focus (obtain ⟨e1, e2⟩ := HS.out W hW; first | (go_simp; done) | (go_simp; with_reducible rfl))); rotate_left; simp only [Act.put, List.setIfInBounds_toArray, List.set_cons_zero, List.set_cons_succ])
                      (refine qv2 146 147 (v := ?_) (by rfl) (by rfl) (by rfl) (fun ev hc hf h0 h1 W hW => ?_) ?_; rotate_left; (focus (obtain ⟨e1, e2⟩ := HS.out W hW; first | (go_simp; done) | (go_simp; with_reducible rfl))); rotate_left; simp only [Act.put, List.setIfInBounds_toArray, List.set_cons_zero, List.set_cons_succ])
                      (refine qv1 148 (v := ?_) (by rfl) (by rfl) (fun ev hc hf h0 W hW => ?_) ?_; rotate_left; (focus (obtain ⟨e1, e2⟩ := HS.out W hW; first | (go_simp; done) | (go_simp; with_reducible rfl))); rotate_left; simp only [Act.put, List.setIfInBounds_toArray, List.set_cons_zero, List.set_cons_succ])
                      (refine qv1 149 (v := ?_) (by rfl) (by rfl) (fun ev hc hf h0 W hW => ?_) ?_; rotate_left; (focus (obtain ⟨e1, e2⟩ := HS.out W hW; first | (go_simp; done) | (go_simp; with_reducible rfl))); rotate_left; simp only [Act.put, List.setIfInBounds_toArray, List.set_cons_zero, List.set_cons_succ])
                      (refine qv1 150 (v := ?_) (by rfl) (by rfl) (fun ev hc hf h0 W hW => ?_) ?_; rotate_left; (focus (obtain ⟨e1, e2⟩ := HS.out W hW; first | (go_simp; done) | (go_simp; with_reducible rfl))); rotate_left; simp only [Act.put, List.setIfInBounds_toArray, List.set_cons_zero, List.set_cons_succ])
                      (refine qv1 151 (v := ?_) (by rfl) (by rfl) (fun ev hc hf h0 W hW => ?_) ?_; rotate_left; (focus (obtain ⟨e1, e2⟩ := HS.out W hW; first | (go_simp; done) | (go_simp; with_reducible rfl))); rotate_left; simp only [Act.put, List.setIfInBounds_toArray, List.set_cons_zero, List.set_cons_succ])
                      (refine qv1 9 (v := ?_) (by rfl) (by rfl) (fun ev hc hf h0 W hW => ?_) ?_; rotate_left; (focus (obtain ⟨e1, e2⟩ := HS.out W hW; first | (go_simp; done) | (go_simp; with_reducible rfl))); rotate_left; simp only [Act.put, List.setIfInBounds_toArray, List.set_cons_zero, List.set_cons_succ])
                      (refine qv2 152 153 (v := ?_) (by rfl) (by rfl) (by rfl) (fun ev hc hf h0 h1 W hW => ?_) ?_; rotate_left; (focus (obtain ⟨e1, e2⟩ := HS.out W hW; first | (go_simp; done) | (go_simp; with_reducible rfl))); rotate_left; simp only [Act.put, List.setIfInBounds_toArray, List.set_cons_zero, List.set_cons_succ])
                      (refine qv1 16 (v := ?_) (by rfl) (by rfl) (fun ev hc hf h0 W hW => ?_) ?_; rotate_left; (focus (obtain ⟨e1, e2⟩ := HS.out W hW; first | (go_simp; done) | (go_simp; with_reducible rfl))); rotate_left; simp only [Act.put, List.setIfInBounds_toArray, List.set_cons_zero, List.set_cons_succ])
                      (refine qv1 155 (v := ?_) (by rfl) (by rfl) (fun ev hc hf h0 W hW => ?_) ?_; rotate_left; (focus (obtain ⟨e1, e2⟩ := HS.out W hW; first | (go_simp; done) | (go_simp; with_reducible rfl))); rotate_left; simp only [Act.put, List.setIfInBounds_toArray, List.set_cons_zero, List.set_cons_succ])
                      (refine qv2 154 156 (v := ?_) (by rfl) (by rfl) (by rfl) (fun ev hc hf h0 h1 W hW => ?_) ?_; rotate_left; (focus (obtain ⟨e1, e2⟩ := HS.out W hW; first | (go_simp; done) | (go_simp; with_reducible rfl))); rotate_left; simp only [Act.put, List.setIfInBounds_toArray, List.set_cons_zero, List.set_cons_succ])
                      (refine qv1 157 (v := ?_) (by rfl) (by rfl) (fun ev hc hf h0 W hW => ?_) ?_; rotate_left; (focus (obtain ⟨e1, e2⟩ := HS.out W hW; first | (go_simp; done) | (go_simp; with_reducible rfl))); rotate_left; simp only [Act.put, List.setIfInBounds_toArray, List.set_cons_zero, List.set_cons_succ])
                      first
                        | (refine qskip (by rfl) ?_; simp only [Act.put, List.setIfInBounds_toArray, List.set_cons_zero, List.set_cons_succ])
                        | (refine qv1 2 (v := ?_) (by rfl) (by rfl) (fun ev hc hf h0 W hW => ?_) ?_; rotate_left; (focus (obtain ⟨e1, e2⟩ := HS.out W hW; first | (go_simp; done) | (go_simp; with_reducible rfl))); rotate_left; simp only [Act.put, List.setIfInBounds_toArray, List.set_cons_zero, List.set_cons_succ])
                      first
                        | (refine qskip (by rfl) ?_; simp only [Act.put, List.setIfInBounds_toArray, List.set_cons_zero, List.set_cons_succ])
                        | (refine qv1 18 (v := ?_) (by rfl) (by rfl) (fun ev hc hf h0 W hW => ?_) ?_; rotate_left; (focus (obtain ⟨e1, e2⟩ := HS.out W hW; first | (go_simp; done) | (go_simp; with_reducible rfl))); rotate_left; simp only [Act.put, List.setIfInBounds_toArray, List.set_cons_zero, List.set_cons_succ])
                      first
                        | (refine qskip (by rfl) ?_; simp only [Act.put, List.setIfInBounds_toArray, List.set_cons_zero, List.set_cons_succ])
                        | (refine qv2 159 160 (v := ?_) (by rfl) (by rfl) (by rfl) (fun ev hc hf h0 h1 W hW => ?_) ?_; rotate_left; (focus (obtain ⟨e1, e2⟩ := HS.out W hW; first | (go_simp; done) | (go_simp; with_reducible rfl))); rotate_left; simp only [Act.put, List.setIfInBounds_toArray, List.set_cons_zero, List.set_cons_succ])
                      first
                        | (refine qskip (by rfl) ?_; simp only [Act.put, List.setIfInBounds_toArray, List.set_cons_zero, List.set_cons_succ])
                        | (refine qv1 161 (v := ?_) (by rfl) (by rfl) (fun ev hc hf h0 W hW => ?_) ?_; rotate_left; (focus (obtain ⟨e1, e2⟩ := HS.out W hW; first | (go_simp; done) | (go_simp; with_reducible rfl))); rotate_left; simp only [Act.put, List.setIfInBounds_toArray, List.set_cons_zero, List.set_cons_succ])
                      first
                        | (refine qskip (by rfl) ?_; simp only [Act.put, List.setIfInBounds_toArray, List.set_cons_zero, List.set_cons_succ])
                        | (refine qv1 162 (v := ?_) (by rfl) (by rfl) (fun ev hc hf h0 W hW => ?_) ?_; rotate_left; (focus (obtain ⟨e1, e2⟩ := HS.out W hW; first | (go_simp; done) | (go_simp; with_reducible rfl))); rotate_left; simp only [Act.put, List.setIfInBounds_toArray, List.set_cons_zero, List.set_cons_succ])
                      first
                        | (refine qskip (by rfl) ?_; simp only [Act.put, List.setIfInBounds_toArray, List.set_cons_zero, List.set_cons_succ])
                        | (refine qv1 15 (v := ?_) (by rfl) (by rfl) (fun ev hc hf h0 W hW => ?_) ?_; rotate_left; (focus (obtain ⟨e1, e2⟩ := HS.out W hW; first | (go_simp; done) | (go_simp; with_reducible rfl))); rotate_left; simp only [Act.put, List.setIfInBounds_toArray, List.set_cons_zero, List.set_cons_succ])
                      first
                        | (refine qskip (by rfl) ?_; simp only [Act.put, List.setIfInBounds_toArray, List.set_cons_zero, List.set_cons_succ])
                        | (refine qv1 16 (v := ?_) (by rfl) (by rfl) (fun ev hc hf h0 W hW => ?_) ?_; rotate_left; (focus (obtain ⟨e1, e2⟩ := HS.out W hW; first | (go_simp; done) | (go_simp; with_reducible rfl))); rotate_left; simp only [Act.put, List.setIfInBounds_toArray, List.set_cons_zero, List.set_cons_succ])
                      first
                        | (refine qskip (by rfl) ?_; simp only [Act.put, List.setIfInBounds_toArray, List.set_cons_zero, List.set_cons_succ])
                        | (refine qv2 164 165 (v := ?_) (by rfl) (by rfl) (by rfl) (fun ev hc hf h0 h1 W hW => ?_) ?_; rotate_left; (focus (obtain ⟨e1, e2⟩ := HS.out W hW; first | (go_simp; done) | (go_simp; with_reducible rfl))); rotate_left; simp only [Act.put, List.setIfInBounds_toArray, List.set_cons_zero, List.set_cons_succ])
                      first
                        | (refine qskip (by rfl) ?_; simp only [Act.put, List.setIfInBounds_toArray, List.set_cons_zero, List.set_cons_succ])
                        | (refine qv2 163 166 (v := ?_) (by rfl) (by rfl) (by rfl) (fun ev hc hf h0 h1 W hW => ?_) ?_; rotate_left; (focus (obtain ⟨e1, e2⟩ := HS.out W hW; first | (go_simp; done) | (go_simp; with_reducible rfl))); rotate_left; simp only [Act.put, List.setIfInBounds_toArray, List.set_cons_zero, List.set_cons_succ])
                      (refine qv2 158 167 (v := ?_) (by rfl) (by rfl) (by rfl) (fun ev hc hf h0 h1 W hW => ?_) ?_; rotate_left; (focus (obtain ⟨e1, e2⟩ := HS.out W hW; first | (go_simp; done) | (go_simp; with_reducible rfl))); rotate_left; simp only [Act.put, List.setIfInBounds_toArray, List.set_cons_zero, List.set_cons_succ])
                      (refine qv1 168 (v := ?_) (by rfl) (by rfl) (fun ev hc hf h0 W hW => ?_) ?_; rotate_left; (focus (obtain ⟨e1, e2⟩ := HS.out W hW; first | (go_simp; done) | (go_simp; with_reducible rfl))); rotate_left; simp only [Act.put, List.setIfInBounds_toArray, List.set_cons_zero, List.set_cons_succ])
                      refine qnil ?_
                      intro w12 hW12
                      have h12 := Lib.hid (Below.trans HBB.out (Below.mono (show Below wr.heap.size wr w12 from hW12) HBB.out.size))
                      clear hW12
                      go_wp2_with fail
                      refine ⟨⟨j + 1, false, by have := HW.out.2.2.2.2; omega, by simp, rfl, h12.out, fun hq => ⟨(HQQ.out rfl).1, fun m z hm hz => ?_⟩⟩, ?_⟩
                      · rcases Nat.lt_or_ge m j with h | h
                        · exact (HQQ.out rfl).2 m z h hz
                        · obtain rfl : m = j := by omega
                          rw [HW.out.2.2.1] at hz
                          injection hz with hz
                          subst hz
                          intro hh
                          have h1 := hh.1
                          rw [HW.out.1, ← HKQ.out] at h1
                          exact HNE.out (by omega)
                      · simp [intOf]
                        have := HW.out.2.2.2.2
                        omega
                  · exfalso
                    obtain ⟨h0, h1⟩ := HQQ.out rfl
                    rcases PU.out k vn HQ.out.1 with h | ⟨i, s, hi, h2, h3⟩
                    · rw [HQ.out.2.1] at h
                      injection h with h
                      have := HQ.out.2.2.1
                      rw [h0, h] at this
                      simp at this
                    · refine h1 i s (by have := (List.getElem?_eq_some_iff.1 hi).1; omega) hi ⟨h2, ?_⟩
                      have hc := O2X.out s (List.mem_of_getElem? hi)
                      rw [← h3]
                      have : (UInt8.ofNat s.c.toNat).toNat = s.c.toNat := by
                        rw [UInt8.toNat_ofNat']
                        omega
                      omega
            · obtain rfl : k = n * 256 := by omega
              have HBB := Lib.hid HB
              have hk1 : ¬ (((n * 256 : Nat) : Int) < (now.size : Int)) := by omega
              clear HB hlt hk
              go_wp2_with fail
              refine (alive_any _).mono ?_
              rintro e w11 ⟨rfl, hb11⟩
              go_wp2_with fail
              go_ret
              exact ⟨rfl, HBB.out.trans (hb11.mono HBB.out.size)⟩

end Go.Proofs.Ytbobbekbliichaa
