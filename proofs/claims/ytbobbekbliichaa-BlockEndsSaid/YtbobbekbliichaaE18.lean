import Derived.Test.YtbobbekbliichaaE17
namespace Go.Proofs.Ytbobbekbliichaa
open Go.RowKit
set_option linter.unusedSimpArgs false
set_option linter.unusedVariables false


theorem crash_none : ∀ (L : List (Int × List UInt8)) (S : List (List UInt8)), crashS L [] S = S
  | [], _ => rfl
  | x :: L, S => by
    show crashS L [] (tear S x 0) = S
    rw [tear_zero, crash_none]
theorem crash_full : ∀ (L : List (Int × List UInt8)) (S : List (List UInt8)), crashS L (List.replicate L.length 256) S = syncS L S
  | [], _ => rfl
  | x :: L, S => by
    rw [List.length_cons, List.replicate_succ]
    show crashS L (List.replicate L.length 256) (tear S x 256) = syncS L (tear S x 256)
    exact crash_full L _
/-- The array of disks. -/
def pt (G : List (Nat × Dsk)) (i : Nat) : Value := .pointer ((G[i]?).map fun x => ⟨x.1, 0, none⟩)
def arrOf (G : List (Nat × Dsk)) : Array Value := #[pt G 0, pt G 1, pt G 2]
theorem arr_put (G : List (Nat × Dsk)) (x : Nat × Dsk) (h : G.length < 3) : (arrOf G).setIfInBounds G.length (.pointer (some ⟨x.1, 0, none⟩)) = arrOf (G ++ [x]) := by
  match G, h with
  | [], _ => rfl
  | [a], _ => rfl
  | [a, b], _ => rfl
theorem Fleet.set_out {B : Nat} {W : World} {G : List (Nat × Dsk)} {v : Value} {n : Nat} {xs : List Value} (h : Fleet B W G v n xs) {p : Addr} (hp : p.block < B) (u : Value) : Fleet B (W.setCell p u) G v n xs := by
  obtain ⟨Fs, h⟩ := h
  have hk : Kept (fun k => k = p.block) W (W.setCell p u) := ⟨rfl, rfl, rfl, by simp [World.setCell], fun k _ hn => Below.heap_setCell _ _ _ _ hn⟩
  refine ⟨Fs, fun i g d hi => (h.disk i g d hi).kept hk (fun k hf e => by have := ((h.disk i g d hi).low k hf).1; omega), h.apart, ownsRow_kept h.row fun k hk' hlt => hk.block k hlt (fun e => by have := (ownsRow_lt h.row hk').2; omega), h.off, by simpa [World.setCell] using h.base⟩
theorem fleet_nil (B : Nat) (W : World) (hB : B ≤ W.heap.size) : Fleet B W [] (.slice none 0 0) 0 [] :=
  ⟨fun _ _ => False, fun i g d h => by simp at h, fun i j h => by simp at h, World.ownsRow_nil _ _ _ _, fun k hk => by simp [Value.ownBlock] at hk, hB⟩
theorem set_last {G : List (Nat × Dsk)} (x y : Nat × Dsk) : (G ++ [x]).set G.length y = G ++ [y] := by
  rw [List.set_append_right _ _ (Nat.le_refl _), Nat.sub_self]
  rfl
theorem get_last {G : List (Nat × Dsk)} (x : Nat × Dsk) : (G ++ [x])[G.length]? = some x := by
  rw [List.getElem?_append_right (Nat.le_refl _), Nat.sub_self]
  rfl
/-- Three disks, the first m of which have one write more. -/
def three (g0 g1 g2 : Nat) (d d' : Dsk) (m : Nat) : List (Nat × Dsk) := [(g0, if 0 < m then d' else d), (g1, if 1 < m then d' else d), (g2, if 2 < m then d' else d)]
theorem three_get (g0 g1 g2 : Nat) (d d' : Dsk) (m : Nat) (hm : m < 3) : ∃ g, (three g0 g1 g2 d d' m)[m]? = some (g, d) ∧ (arrOf (three g0 g1 g2 d d' m))[m]? = some (.pointer (some ⟨g, 0, none⟩)) ∧ (three g0 g1 g2 d d' m).set m (g, d') = three g0 g1 g2 d d' (m + 1) := by
  match m, hm with
  | 0, _ => exact ⟨g0, rfl, rfl, rfl⟩
  | 1, _ => exact ⟨g1, rfl, rfl, rfl⟩
  | 2, _ => exact ⟨g2, rfl, rfl, rfl⟩
theorem three_arr (g0 g1 g2 : Nat) (d d' : Dsk) (m : Nat) : arrOf (three g0 g1 g2 d d' m) = #[.pointer (some ⟨g0, 0, none⟩), .pointer (some ⟨g1, 0, none⟩), .pointer (some ⟨g2, 0, none⟩)] := rfl
theorem fleet_crash' {B : Nat} {W : World} {G : List (Nat × Dsk)} (i g : Nat) {d : Dsk} {A : Option Addr} {c m : Nat} {ps : List Int} (hm : ps.length = m) (h : Fleet B W G (.slice A m c) m (ps.map (Value.int .i64))) (hi : G[i]? = some (g, d)) (hL : d.L.length ≤ 1000000) (hpl : m ≤ 1000000) :
    Calls Try.prog 19 #[.pointer (some ⟨g, 0, none⟩), .slice A m c] W fun e W' => e = .returned (.int .i64 0) ∧ Fleet B W' (G.set i (g, d.crash ps)) (.slice A m c) m (ps.map (Value.int .i64)) ∧ Below B W W' := by
  subst hm
  exact fleet_crash i g h hi hL hpl
theorem take_map (l : List Stp) (n k : Nat) {s : Stp} (h : l[k]? = some s) : (l.take (k + 1)).map (wOf n) = (l.take k).map (wOf n) ++ [wOf n s] := by
  have : l.take (k + 1) = l.take k ++ [s] := by rw [List.take_add_one, h]; rfl
  rw [this, List.map_append]
  rfl
set_option maxRecDepth 100000 in
set_option maxHeartbeats 25600000 in
theorem ends_walk (bl : Int) (A1 A2 : Option Addr) (c1 c2 : Nat) (l1 l2 : List Stp) (W : World) (hb : 0 ≤ bl ∧ bl ≤ 255) (s1 : StepsAt W A1 l1) (s2 : StepsAt W A2 l2) (hl : l1.length + l2.length ≤ 200) :
    Calls Try.prog 6 #[.int .u8 bl, .slice A1 l1.length c1, .slice A2 l2.length c2] W fun e W' => e = .returned (.bool true) ∧ Below W.heap.size W W' := by
  have X := Lib.hid (And.intro s1 s2)
  have hl' : ¬ ((200 : Int) < (l1.length : Int) + (l2.length : Int)) := by omega
  have HL := Lib.hid hl
  clear s1 s2 hl
  go_enter Try.func6, Try.ntmps6
  go_wp2_with fail
  obtain ⟨n, hn, hn1, hn2⟩ : ∃ n : Nat, 1 + bl % 16 = (n : Int) ∧ 1 ≤ n ∧ n ≤ 16 := ⟨(1 + bl % 16).toNat, by omega, by omega, by omega⟩
  rw [hn]
  have HN := Lib.hid (And.intro hn1 hn2)
  clear hn hb hl' hn1 hn2
  go_wp2_with fail
  obtain ⟨S1, hS1⟩ : ∃ S1, syncS (l1.map (wOf n)) (zeroS n) = S1 := ⟨_, rfl⟩
  have T1 := Lib.hid (And.intro hS1 (show S1.length = n by rw [← hS1]; exact (syncS_len _ _).trans (zeroS_len n)))
  clear hS1
  obtain ⟨B, hB⟩ : ∃ B, B = W.heap.size + 1 := ⟨_, rfl⟩
  have HB := Lib.hid hB
  clear hB
  go_loopw [9] (fun i wr => ∃ (k : Nat) (G : List (Nat × Dsk)), k ≤ 3 ∧ i = .int .i64 k ∧ G.length = k ∧ (∀ (j : Nat) (x : Nat × Dsk), G[j]? = some x → x.2 = dOf S1 []) ∧ Fleet B wr G (.slice none 0 0) 0 [] ∧ Bk wr W.heap.size (arrOf G) 55 ∧ Below W.heap.size W wr) (fun i _ => 3 - (intOf i).toNat)
  case atStart =>
    refine ⟨0, [], by omega, rfl, rfl, fun j x h => by simp at h, fleet_nil _ _ (by rw [HB.out]; simp), Bk.new W _ _, (Below.refl _ _).alloc (Nat.le_refl _) _⟩
  case round =>
    obtain ⟨k, G, hk, rfl, hGl, hGd, hF, hbk, HBW⟩ := hrel
    by_cases hlt : k < 3
    · have hki : (k : Int) < 3 := by omega
      have P := Lib.hid (And.intro hGl (And.intro hGd (And.intro hF (And.intro hbk (And.intro HBW (And.intro hk hlt))))))
      clear hGl hGd hF hbk HBW hk hlt
      go_wp2_with fail
      refine (fleet_new n HN.out.1 (Nat.le_trans HN.out.2 (by omega)) P.out.2.2.1).mono ?_
      rintro e w1 ⟨rfl, hF, hb1⟩
      obtain ⟨g, hg⟩ : ∃ g, g = wr.heap.size + 1 := ⟨_, rfl⟩
      rw [← hg] at hF ⊢
      have P1 := Lib.hid (And.intro (show Fleet B w1 (G ++ [(g, dOf (zeroS n) [])]) (.slice none 0 0) 0 [] from hF) (And.intro (P.out.2.2.2.1.bel hb1) (P.out.2.2.2.2.1.trans (hb1.mono P.out.2.2.2.2.1.size))))
      clear hF hb1 hg
      go_wp2_with fail
      go_loopw [12] (fun i w' => ∃ (j : Nat), j ≤ l1.length ∧ i = .int .i64 j ∧ Fleet B w' (G ++ [(g, dOf (zeroS n) ((l1.take j).map (wOf n)))]) (.slice none 0 0) 0 [] ∧ Bk w' W.heap.size (arrOf G) 55 ∧ Below W.heap.size W w') (fun i _ => l1.length - (intOf i).toNat)
      case atStart => exact ⟨0, Nat.zero_le _, rfl, P1.out⟩
      case round =>
        obtain ⟨j, hj, rfl, hF, hbk, HBW⟩ := hrel
        by_cases hjl : j < l1.length
        · have hji : (j : Int) < (l1.length : Int) := by omega
          have hjb : (j : Int) ≤ 200 := by have := HL.out; omega
          obtain ⟨s, hs⟩ : ∃ s, l1[j]? = some s := ⟨_, List.getElem?_eq_getElem hjl⟩
          obtain ⟨b, o, rfl, hst⟩ : ∃ b o, A1 = some ⟨b, o, none⟩ ∧ StepAt wr b (o + j * 5) s := by
            rcases (X.out.1.bel HBW) with h | ⟨b, o, e, h⟩
            · rw [h] at hjl; simp at hjl
            · exact ⟨b, o, e, h j s hs⟩
          obtain ⟨str, hstr⟩ : ∃ str, (⟨(oneByte s.c).toArray⟩ : ByteArray) = str := ⟨_, rfl⟩
          have HF := Lib.hid (fun w' => hstr ▸ full_any s.c w')
          have HS := Lib.hid (show ∀ w', Bel wr w' → w'.cell? ⟨b, o + j * 5 + 1, none⟩ = some (.int .i64 s.b) ∧ w'.cell? ⟨b, o + j * 5 + 2, none⟩ = some (.int .u8 s.c) from fun w' hw => ⟨Bel.cell hw hst.2.1, Bel.cell hw hst.2.2.1⟩)
          have Y := Lib.hid (And.intro hF (And.intro hbk (And.intro HBW (And.intro hjl (And.intro hs hstr)))))
          have hW0 : Bel wr wr.drew := (Bel.refl wr).drew
          have hn0 : ¬ (n = 0) := by have := HN.out.1; omega
          obtain ⟨bN, hw1, hw2, hmod⟩ := mod_norm n HN.out.1 s
          have HW := Lib.hid (And.intro hw1 hw2)
          clear hj hjl hs hst hstr hw1 hw2 hF hbk HBW
          go_upto_region 14 with fail
          refine wp_aw 17 #[false, false, false, false, false, false, false, false, false, false, false, false, false, false, false, false, false] rfl rfl ?_
          refine aw_meetw 1 ?L14 ?F14 (C := fun w' => Bel wr w') (fun END => ?_) ?_
          case refine_1 =>
            refine awt1 0 10 (o := ({ dst := some 49, op := Go.Op.move (Go.Operand.tmp 10), type := 25, pos := "law.go:173", after := #[], guard := none })) (v := ?_) rfl (by kernel_rfl) (by kernel_rfl) (by kernel_rfl) (fun _ _ _ h => h) (by rfl) (by rfl) (fun ev hc hf h0 W => ?_) ?_; rotate_left; (focus (first | (go_simp; done) | (go_simp; with_reducible rfl))); rotate_left; simp only [Act.put, List.setIfInBounds_toArray, List.set_cons_zero, List.set_cons_succ]
            refine awt1 1 1 (o := ({ dst := some 50, op := Go.Op.move (Go.Operand.tmp 1), type := 22, pos := "law.go:173", after := #[], guard := none })) (v := ?_) rfl (by kernel_rfl) (by kernel_rfl) (by kernel_rfl) (fun _ _ _ h => h) (by rfl) (by rfl) (fun ev hc hf h0 W => ?_) ?_; rotate_left; (focus (first | (go_simp; done) | (go_simp; with_reducible rfl))); rotate_left; simp only [Act.put, List.setIfInBounds_toArray, List.set_cons_zero, List.set_cons_succ]
            refine awt1 2 12 (o := ({ dst := some 51, op := Go.Op.move (Go.Operand.tmp 12), type := 3, pos := "law.go:173", after := #[], guard := none })) (v := ?_) rfl (by kernel_rfl) (by kernel_rfl) (by kernel_rfl) (fun _ _ _ h => h) (by rfl) (by rfl) (fun ev hc hf h0 W => ?_) ?_; rotate_left; (focus (first | (go_simp; done) | (go_simp; with_reducible rfl))); rotate_left; simp only [Act.put, List.setIfInBounds_toArray, List.set_cons_zero, List.set_cons_succ]
            refine awt2 3 50 51 (o := ({ dst := some 52, op := Go.Op.indexAddr 22 (Go.Operand.tmp 50) (Go.Operand.tmp 51), type := 0, pos := "law.go:173", after := #[{ on := 1, ground := Go.Ground.data }, { on := 2, ground := Go.Ground.data }], guard := none })) (v := ?_) rfl (by kernel_rfl) (by kernel_rfl) (by kernel_rfl) (fun _ _ _ h => h) (by rfl) (by rfl) (by rfl) (fun ev hc hf h0 h1 W => ?_) ?_; rotate_left; (focus (first | (go_simp; done) | (go_simp; with_reducible rfl))); rotate_left; simp only [Act.put, List.setIfInBounds_toArray, List.set_cons_zero, List.set_cons_succ]
            refine awt1 4 52 (o := ({ dst := some 53, op := Go.Op.fieldAddr 35 (Go.Operand.tmp 52) 1, type := 0, pos := "law.go:173", after := #[{ on := 3, ground := Go.Ground.data }], guard := none })) (v := ?_) rfl (by kernel_rfl) (by kernel_rfl) (by kernel_rfl) (fun _ _ _ h => h) (by rfl) (by rfl) (fun ev hc hf h0 W => ?_) ?_; rotate_left; (focus (first | (go_simp; done) | (go_simp; with_reducible rfl))); rotate_left; simp only [Act.put, List.setIfInBounds_toArray, List.set_cons_zero, List.set_cons_succ]
            refine awt1 8 7 (o := ({ dst := some 57, op := Go.Op.move (Go.Operand.tmp 7), type := 3, pos := "law.go:173", after := #[], guard := none })) (v := ?_) rfl (by kernel_rfl) (by kernel_rfl) (by kernel_rfl) (fun _ _ _ h => h) (by rfl) (by rfl) (fun ev hc hf h0 W => ?_) ?_; rotate_left; (focus (first | (go_simp; done) | (go_simp; with_reducible rfl))); rotate_left; simp only [Act.put, List.setIfInBounds_toArray, List.set_cons_zero, List.set_cons_succ]
            refine awt1 10 1 (o := ({ dst := some 59, op := Go.Op.move (Go.Operand.tmp 1), type := 22, pos := "law.go:173", after := #[], guard := none })) (v := ?_) rfl (by kernel_rfl) (by kernel_rfl) (by kernel_rfl) (fun _ _ _ h => h) (by rfl) (by rfl) (fun ev hc hf h0 W => ?_) ?_; rotate_left; (focus (first | (go_simp; done) | (go_simp; with_reducible rfl))); rotate_left; simp only [Act.put, List.setIfInBounds_toArray, List.set_cons_zero, List.set_cons_succ]
            refine awt1 11 12 (o := ({ dst := some 60, op := Go.Op.move (Go.Operand.tmp 12), type := 3, pos := "law.go:173", after := #[], guard := none })) (v := ?_) rfl (by kernel_rfl) (by kernel_rfl) (by kernel_rfl) (fun _ _ _ h => h) (by rfl) (by rfl) (fun ev hc hf h0 W => ?_) ?_; rotate_left; (focus (first | (go_simp; done) | (go_simp; with_reducible rfl))); rotate_left; simp only [Act.put, List.setIfInBounds_toArray, List.set_cons_zero, List.set_cons_succ]
            refine awt2 12 59 60 (o := ({ dst := some 61, op := Go.Op.indexAddr 22 (Go.Operand.tmp 59) (Go.Operand.tmp 60), type := 0, pos := "law.go:173", after := #[{ on := 10, ground := Go.Ground.data }, { on := 11, ground := Go.Ground.data }], guard := none })) (v := ?_) rfl (by kernel_rfl) (by kernel_rfl) (by kernel_rfl) (fun _ _ _ h => h) (by rfl) (by rfl) (by rfl) (fun ev hc hf h0 h1 W => ?_) ?_; rotate_left; (focus (first | (go_simp; done) | (go_simp; with_reducible rfl))); rotate_left; simp only [Act.put, List.setIfInBounds_toArray, List.set_cons_zero, List.set_cons_succ]
            refine awt1 13 61 (o := ({ dst := some 62, op := Go.Op.fieldAddr 35 (Go.Operand.tmp 61) 2, type := 0, pos := "law.go:173", after := #[{ on := 12, ground := Go.Ground.data }], guard := none })) (v := ?_) rfl (by kernel_rfl) (by kernel_rfl) (by kernel_rfl) (fun _ _ _ h => h) (by rfl) (by rfl) (fun ev hc hf h0 W => ?_) ?_; rotate_left; (focus (first | (go_simp; done) | (go_simp; with_reducible rfl))); rotate_left; simp only [Act.put, List.setIfInBounds_toArray, List.set_cons_zero, List.set_cons_succ]
            refine aw_all [5, 14] (by kernel_rfl) (by simp) ?_
            refine arv1 (o := ({ dst := some 54, op := Go.Op.load 3 (Go.Operand.tmp 53), type := 3, pos := "law.go:173", after := #[{ on := 4, ground := Go.Ground.data }], guard := none })) 53 (v := ?_) (W' := ?_) rfl (by rfl) (by rfl) (fun ev hc hf h0 => ?_) ?_ ?_; rotate_left 2; (focus (obtain ⟨e1, e2⟩ := HS.out _ hW0; first | (go_simp; done) | (go_simp; with_reducible rfl) | (go_simp; constructor <;> with_reducible rfl)))
            · simp only [Act.put, List.setIfInBounds_toArray, List.set_cons_zero, List.set_cons_succ]
              refine awt1 6 54 (o := ({ dst := some 55, op := Go.Op.convert 3 46 (Go.Operand.tmp 54), type := 46, pos := "law.go:173", after := #[{ on := 5, ground := Go.Ground.data }], guard := none })) (v := ?_) rfl (by kernel_rfl) (by kernel_rfl) (by kernel_rfl) (fun _ _ _ h => h) (by rfl) (by rfl) (fun ev hc hf h0 W => ?_) ?_; rotate_left; (focus (first | (go_simp; done) | (go_simp; with_reducible rfl))); rotate_left; simp only [Act.put, List.setIfInBounds_toArray, List.set_cons_zero, List.set_cons_succ]
              refine awt1 7 55 (o := ({ dst := some 56, op := Go.Op.convert 46 3 (Go.Operand.tmp 55), type := 3, pos := "law.go:173", after := #[{ on := 6, ground := Go.Ground.data }], guard := none })) (v := ?_) rfl (by kernel_rfl) (by kernel_rfl) (by kernel_rfl) (fun _ _ _ h => h) (by rfl) (by rfl) (fun ev hc hf h0 W => ?_) ?_; rotate_left; (focus (first | (go_simp; done) | (go_simp; with_reducible rfl))); rotate_left; simp only [Act.put, List.setIfInBounds_toArray, List.set_cons_zero, List.set_cons_succ]
              refine awt2 9 56 57 (o := ({ dst := some 58, op := Go.Op.binOp Go.BinOp.rem 3 (Go.Operand.tmp 56) (Go.Operand.tmp 57) 3, type := 3, pos := "law.go:173", after := #[{ on := 7, ground := Go.Ground.data }, { on := 8, ground := Go.Ground.data }], guard := none })) (v := ?_) rfl (by kernel_rfl) (by kernel_rfl) (by kernel_rfl) (fun _ _ _ h => h) (by rfl) (by rfl) (by rfl) (fun ev hc hf h0 h1 W => ?_) ?_; rotate_left; (focus (first | (go_simp; done) | (go_simp; with_reducible rfl))); rotate_left; simp only [Act.put, List.setIfInBounds_toArray, List.set_cons_zero, List.set_cons_succ]
              refine aw_all [14] (by kernel_rfl) (by simp) ?_
              refine arv1 (o := ({ dst := some 63, op := Go.Op.load 5 (Go.Operand.tmp 62), type := 5, pos := "law.go:173", after := #[{ on := 13, ground := Go.Ground.data }], guard := none })) 62 (v := ?_) (W' := ?_) rfl (by rfl) (by rfl) (fun ev hc hf h0 => ?_) ?_ ?_; rotate_left 2; (focus (obtain ⟨e1, e2⟩ := HS.out _ hW0; first | (go_simp; done) | (go_simp; with_reducible rfl) | (go_simp; constructor <;> with_reducible rfl)))
              · simp only [Act.put, List.setIfInBounds_toArray, List.set_cons_zero, List.set_cons_succ]
                refine aw_all [15] (by kernel_rfl) (by simp) ?_
                refine arc1 (o := ({ dst := some 64, op := Go.Op.call { callee := Go.Callee.value (Go.Operand.func 17), args := #[Go.Operand.tmp 63], argTypes := #[5] }, type := 9, pos := "law.go:173", after := #[{ on := 14, ground := Go.Ground.data }], guard := none })) 63 _ _ _ rfl (by rfl) (by rfl) (fun ev hc hf h0 => ?_) (HF.out _) (fun W3 hc3 => ?_) ?_
                · focus (go_simp; done)
                · simp only [Act.put, List.setIfInBounds_toArray, List.set_cons_zero, List.set_cons_succ]
                  have hW3 := hW0.step hc3
                  exact END _ hW3
                exact ar_nil
              exact ar_nil
            refine arv1 (o := ({ dst := some 63, op := Go.Op.load 5 (Go.Operand.tmp 62), type := 5, pos := "law.go:173", after := #[{ on := 13, ground := Go.Ground.data }], guard := none })) 62 (v := ?_) (W' := ?_) rfl (by rfl) (by rfl) (fun ev hc hf h0 => ?_) ?_ ?_; rotate_left 2; (focus (obtain ⟨e1, e2⟩ := HS.out _ hW0; first | (go_simp; done) | (go_simp; with_reducible rfl) | (go_simp; constructor <;> with_reducible rfl)))
            · simp only [Act.put, List.setIfInBounds_toArray, List.set_cons_zero, List.set_cons_succ]
              refine aw_all [5, 15] (by kernel_rfl) (by simp) ?_
              refine arv1 (o := ({ dst := some 54, op := Go.Op.load 3 (Go.Operand.tmp 53), type := 3, pos := "law.go:173", after := #[{ on := 4, ground := Go.Ground.data }], guard := none })) 53 (v := ?_) (W' := ?_) rfl (by rfl) (by rfl) (fun ev hc hf h0 => ?_) ?_ ?_; rotate_left 2; (focus (obtain ⟨e1, e2⟩ := HS.out _ hW0; first | (go_simp; done) | (go_simp; with_reducible rfl) | (go_simp; constructor <;> with_reducible rfl)))
              · simp only [Act.put, List.setIfInBounds_toArray, List.set_cons_zero, List.set_cons_succ]
                refine awt1 6 54 (o := ({ dst := some 55, op := Go.Op.convert 3 46 (Go.Operand.tmp 54), type := 46, pos := "law.go:173", after := #[{ on := 5, ground := Go.Ground.data }], guard := none })) (v := ?_) rfl (by kernel_rfl) (by kernel_rfl) (by kernel_rfl) (fun _ _ _ h => h) (by rfl) (by rfl) (fun ev hc hf h0 W => ?_) ?_; rotate_left; (focus (first | (go_simp; done) | (go_simp; with_reducible rfl))); rotate_left; simp only [Act.put, List.setIfInBounds_toArray, List.set_cons_zero, List.set_cons_succ]
                refine awt1 7 55 (o := ({ dst := some 56, op := Go.Op.convert 46 3 (Go.Operand.tmp 55), type := 3, pos := "law.go:173", after := #[{ on := 6, ground := Go.Ground.data }], guard := none })) (v := ?_) rfl (by kernel_rfl) (by kernel_rfl) (by kernel_rfl) (fun _ _ _ h => h) (by rfl) (by rfl) (fun ev hc hf h0 W => ?_) ?_; rotate_left; (focus (first | (go_simp; done) | (go_simp; with_reducible rfl))); rotate_left; simp only [Act.put, List.setIfInBounds_toArray, List.set_cons_zero, List.set_cons_succ]
                refine awt2 9 56 57 (o := ({ dst := some 58, op := Go.Op.binOp Go.BinOp.rem 3 (Go.Operand.tmp 56) (Go.Operand.tmp 57) 3, type := 3, pos := "law.go:173", after := #[{ on := 7, ground := Go.Ground.data }, { on := 8, ground := Go.Ground.data }], guard := none })) (v := ?_) rfl (by kernel_rfl) (by kernel_rfl) (by kernel_rfl) (fun _ _ _ h => h) (by rfl) (by rfl) (by rfl) (fun ev hc hf h0 h1 W => ?_) ?_; rotate_left; (focus (first | (go_simp; done) | (go_simp; with_reducible rfl))); rotate_left; simp only [Act.put, List.setIfInBounds_toArray, List.set_cons_zero, List.set_cons_succ]
                refine aw_all [15] (by kernel_rfl) (by simp) ?_
                refine arc1 (o := ({ dst := some 64, op := Go.Op.call { callee := Go.Callee.value (Go.Operand.func 17), args := #[Go.Operand.tmp 63], argTypes := #[5] }, type := 9, pos := "law.go:173", after := #[{ on := 14, ground := Go.Ground.data }], guard := none })) 63 _ _ _ rfl (by rfl) (by rfl) (fun ev hc hf h0 => ?_) (HF.out _) (fun W6 hc6 => ?_) ?_
                · focus (go_simp; done)
                · simp only [Act.put, List.setIfInBounds_toArray, List.set_cons_zero, List.set_cons_succ]
                  have hW6 := hW0.step hc6
                  exact END _ hW6
                exact ar_nil
              refine arc1 (o := ({ dst := some 64, op := Go.Op.call { callee := Go.Callee.value (Go.Operand.func 17), args := #[Go.Operand.tmp 63], argTypes := #[5] }, type := 9, pos := "law.go:173", after := #[{ on := 14, ground := Go.Ground.data }], guard := none })) 63 _ _ _ rfl (by rfl) (by rfl) (fun ev hc hf h0 => ?_) (HF.out _) (fun W7 hc7 => ?_) ?_
              · focus (go_simp; done)
              · simp only [Act.put, List.setIfInBounds_toArray, List.set_cons_zero, List.set_cons_succ]
                have hW7 := hW0.step hc7
                refine aw_all [5] (by kernel_rfl) (by simp) ?_
                refine arv1 (o := ({ dst := some 54, op := Go.Op.load 3 (Go.Operand.tmp 53), type := 3, pos := "law.go:173", after := #[{ on := 4, ground := Go.Ground.data }], guard := none })) 53 (v := ?_) (W' := ?_) rfl (by rfl) (by rfl) (fun ev hc hf h0 => ?_) ?_ ?_; rotate_left 2; (focus (obtain ⟨e1, e2⟩ := HS.out _ hW7; first | (go_simp; done) | (go_simp; with_reducible rfl) | (go_simp; constructor <;> with_reducible rfl)))
                · simp only [Act.put, List.setIfInBounds_toArray, List.set_cons_zero, List.set_cons_succ]
                  refine awt1 6 54 (o := ({ dst := some 55, op := Go.Op.convert 3 46 (Go.Operand.tmp 54), type := 46, pos := "law.go:173", after := #[{ on := 5, ground := Go.Ground.data }], guard := none })) (v := ?_) rfl (by kernel_rfl) (by kernel_rfl) (by kernel_rfl) (fun _ _ _ h => h) (by rfl) (by rfl) (fun ev hc hf h0 W => ?_) ?_; rotate_left; (focus (first | (go_simp; done) | (go_simp; with_reducible rfl))); rotate_left; simp only [Act.put, List.setIfInBounds_toArray, List.set_cons_zero, List.set_cons_succ]
                  refine awt1 7 55 (o := ({ dst := some 56, op := Go.Op.convert 46 3 (Go.Operand.tmp 55), type := 3, pos := "law.go:173", after := #[{ on := 6, ground := Go.Ground.data }], guard := none })) (v := ?_) rfl (by kernel_rfl) (by kernel_rfl) (by kernel_rfl) (fun _ _ _ h => h) (by rfl) (by rfl) (fun ev hc hf h0 W => ?_) ?_; rotate_left; (focus (first | (go_simp; done) | (go_simp; with_reducible rfl))); rotate_left; simp only [Act.put, List.setIfInBounds_toArray, List.set_cons_zero, List.set_cons_succ]
                  refine awt2 9 56 57 (o := ({ dst := some 58, op := Go.Op.binOp Go.BinOp.rem 3 (Go.Operand.tmp 56) (Go.Operand.tmp 57) 3, type := 3, pos := "law.go:173", after := #[{ on := 7, ground := Go.Ground.data }, { on := 8, ground := Go.Ground.data }], guard := none })) (v := ?_) rfl (by kernel_rfl) (by kernel_rfl) (by kernel_rfl) (fun _ _ _ h => h) (by rfl) (by rfl) (by rfl) (fun ev hc hf h0 h1 W => ?_) ?_; rotate_left; (focus (first | (go_simp; done) | (go_simp; with_reducible rfl))); rotate_left; simp only [Act.put, List.setIfInBounds_toArray, List.set_cons_zero, List.set_cons_succ]
                  exact END _ hW7
                exact ar_nil
              exact ar_nil
            exact ar_nil
          intro w5 hw5
          refine aw_all [16] (by kernel_rfl) (by simp) ?_
          refine arc3 (o := ({ dst := some 65, op := Go.Op.call { callee := Go.Callee.value (Go.Operand.func 16), args := #[Go.Operand.tmp 49, Go.Operand.tmp 58, Go.Operand.tmp 64], argTypes := #[25, 3, 9] }, type := 26, pos := "law.go:173", after := #[{ on := 0, ground := Go.Ground.data }, { on := 9, ground := Go.Ground.data }, { on := 15, ground := Go.Ground.data }, { on := 15, ground := Go.Ground.chain }], guard := none })) 49 58 64 _ _ _ rfl (by rfl) (by rfl) (by rfl) (by rfl) (fun ev hc hf h0 h1 h2 => ?_) (fleet_write G.length g (bN : Int) str (oneByte s.c) (Y.out.1.keep hw5) (get_last _) (dOf_there _ _ _ (by omega) (by rw [zeroS_len]; have := HW.out.2; omega)) (oneByte_len _) (by rw [← Y.out.2.2.2.2.2]) (dOf_len _ _ _ (by rw [List.length_take]; have := HL.out; omega))) (fun w6 h6 => ?_) ?_
          · focus (go_simp; done)
          · simp only [Act.put, List.setIfInBounds_toArray, List.set_cons_zero, List.set_cons_succ]
            have hbB : W.heap.size < B := by rw [HB.out]; omega
            have hF6 := h6.1
            rw [set_last] at hF6
            have e2 : wOf n s = ((bN : Int), oneByte s.c) := Prod.ext HW.out.1 rfl
            have O7 := Lib.hid (And.intro (show Fleet B w6 (G ++ [(g, dOf (zeroS n) ((l1.take (j + 1)).map (wOf n)))]) (.slice none 0 0) 0 [] by rw [take_map l1 n j Y.out.2.2.2.2.1, e2]; exact hF6) (And.intro ((Y.out.2.1.bel hw5).below h6.2 hbB) ((Y.out.2.2.1.trans (Below.mono hw5 Y.out.2.2.1.size)).trans (h6.2.mono (Nat.le_of_lt hbB)))))
            clear h6 hF6 hw5 hbB e2
            refine aw_done (by kernel_rfl) ?_
            go_wp2_with fail
            refine ⟨⟨j + 1, by have := Y.out.2.2.2.1; omega, by simp, O7.out⟩, ?_⟩
            simp [intOf]
            have := Y.out.2.2.2.1
            omega
          exact ar_nil
        · obtain rfl : j = l1.length := by omega
          rw [List.take_length] at hF
          have P2 := Lib.hid (And.intro hF (And.intro hbk HBW))
          clear hF hbk HBW hj hjl P1
          go_wp2_with fail
          refine (fleet_sync G.length g P2.out.1 (get_last _) rfl (dOf_len _ _ _ (by have := HL.out; omega))).mono ?_
          rintro e w2 ⟨rfl, hF, hb2⟩
          rw [set_last] at hF
          have hbB : W.heap.size < B := by rw [HB.out]; omega
          have P3 := Lib.hid (And.intro (show Fleet B w2 (G ++ [(g, dOf S1 [])]) (.slice none 0 0) 0 [] by rw [← T1.out.1]; exact hF) (And.intro (P2.out.2.1.below hb2 hbB) (P2.out.2.2.trans (hb2.mono (Nat.le_of_lt hbB)))))
          clear hF hb2 hbB
          have f3 := P3.out.2.1.free k
          obtain ⟨vk, ck⟩ : ∃ vk, w2.cell? ⟨W.heap.size, k, none⟩ = some vk := ⟨_, (P3.out.2.1.cell k).trans (Array.getElem?_eq_getElem (by show k < 3; exact P.out.2.2.2.2.2.2))⟩
          go_wp2_with fail
          have hk3 := P.out.2.2.2.2.2.2
          refine ⟨⟨k + 1, G ++ [(g, dOf S1 [])], by omega, by simp, by have := P.out.1; rw [List.length_append, List.length_singleton]; omega, ?_, P3.out.1.set_out (by rw [HB.out]; simp) _, ?_, P3.out.2.2.setCell (Nat.le_refl _) _⟩, ?_⟩
          · intro i x hx
            rcases List.mem_append.1 (List.mem_of_getElem? hx) with h | h
            · obtain ⟨m, hm⟩ := List.mem_iff_getElem?.1 h
              exact P.out.2.1 m x hm
            · rw [List.mem_singleton.1 h]
          · have := P3.out.2.1.set k (.pointer (some ⟨g, 0, none⟩))
            rw [← arr_put G (g, dOf S1 []) (by have := P.out.1; omega), P.out.1]
            exact this
          · simp [intOf]
            omega
    · obtain rfl : k = 3 := by omega
      obtain ⟨g0, g1, g2, rfl⟩ : ∃ g0 g1 g2, G = [(g0, dOf S1 []), (g1, dOf S1 []), (g2, dOf S1 [])] := by
        match G, hGl with
        | [(x, dx), (y, dy), (z, dz)], _ =>
          have hx : dx = dOf S1 [] := hGd 0 (x, dx) rfl
          have hy : dy = dOf S1 [] := hGd 1 (y, dy) rfl
          have hz : dz = dOf S1 [] := hGd 2 (z, dz) rfl
          exact ⟨x, y, z, by rw [hx, hy, hz]⟩
      have a0 : wr.cell? ⟨W.heap.size, 0, none⟩ = some (.pointer (some ⟨g0, 0, none⟩)) := hbk.cell 0
      have P := Lib.hid (And.intro hF (And.intro hbk HBW))
      clear hF hbk HBW hGl hGd hk hlt
      go_wp2_with fail
      obtain ⟨was, hwas⟩ : ∃ was, (⟨(dOf S1 []).sure.toArray⟩ : ByteArray) = was := ⟨_, rfl⟩
      refine (fleet_sure 0 g0 was hwas P.out.1 rfl).mono ?_
      rintro e w1 ⟨rfl, hb1⟩
      have P1 := Lib.hid (And.intro (P.out.1.keep hb1) (And.intro (P.out.2.1.bel hb1) (P.out.2.2.trans (hb1.mono P.out.2.2.size))))
      have HWAS := Lib.hid hwas
      clear hb1 hwas P a0
      go_wp2_with fail
      go_loopw [14, 15] (fun v i wr => ∃ (k : Nat), k ≤ l2.length ∧ i = .int .i64 k ∧ Fleet B wr (three g0 g1 g2 (dOf S1 ((l2.take k).map (wOf n))) (dOf S1 ((l2.take (k + 1)).map (wOf n))) 0) v k (List.replicate k (Value.int .i64 256)) ∧ Bk wr W.heap.size #[.pointer (some ⟨g0, 0, none⟩), .pointer (some ⟨g1, 0, none⟩), .pointer (some ⟨g2, 0, none⟩)] 55 ∧ Below W.heap.size W wr) (fun v i _ => l2.length - (intOf i).toNat)
      case atStart => exact ⟨0, Nat.zero_le _, rfl, P1.out⟩
      case round =>
        obtain ⟨k, hk, rfl, hF, hbk, HBW⟩ := hrel
        by_cases hlt : k < l2.length
        · have hki : (k : Int) < (l2.length : Int) := by omega
          have hkb : (k : Int) ≤ 200 := by have := HL.out; omega
          obtain ⟨s, hs⟩ : ∃ s, l2[k]? = some s := ⟨_, List.getElem?_eq_getElem hlt⟩
          have Q := Lib.hid (And.intro hF (And.intro hbk (And.intro HBW (And.intro hs hlt))))
          clear hF hbk HBW hs hlt hk P1
          go_wp2_with fail
          go_loopw [16] (fun i w' => ∃ (m : Nat), m ≤ 3 ∧ i = .int .i64 m ∧ Fleet B w' (three g0 g1 g2 (dOf S1 ((l2.take k).map (wOf n))) (dOf S1 ((l2.take (k + 1)).map (wOf n))) m) u14 k (List.replicate k (Value.int .i64 256)) ∧ Bk w' W.heap.size #[.pointer (some ⟨g0, 0, none⟩), .pointer (some ⟨g1, 0, none⟩), .pointer (some ⟨g2, 0, none⟩)] 55 ∧ Below W.heap.size W w') (fun i _ => 3 - (intOf i).toNat)
          case atStart => exact ⟨0, Nat.zero_le _, rfl, Q.out.1, Q.out.2.1, Q.out.2.2.1⟩
          case round =>
            obtain ⟨m, hm, rfl, hF, hbk, HBW⟩ := hrel
            by_cases hm3 : m < 3
            · have hmi : (m : Int) < 3 := by omega
              obtain ⟨gm, hg1, hg2, hg3⟩ := three_get g0 g1 g2 (dOf S1 ((l2.take k).map (wOf n))) (dOf S1 ((l2.take (k + 1)).map (wOf n))) m hm3
              rw [three_arr] at hg2
              obtain ⟨b, o, rfl, hst⟩ : ∃ b o, A2 = some ⟨b, o, none⟩ ∧ StepAt wr b (o + k * 5) s := by
                rcases (X.out.2.bel HBW) with h | ⟨b, o, e, h⟩
                · have hkl := Q.out.2.2.2.2; rw [h] at hkl; simp at hkl
                · exact ⟨b, o, e, h k s Q.out.2.2.2.1⟩
              obtain ⟨str, hstr⟩ : ∃ str, (⟨(oneByte s.c).toArray⟩ : ByteArray) = str := ⟨_, rfl⟩
              have HF := Lib.hid (fun w' => hstr ▸ full_any s.c w')
              have HS := Lib.hid (show ∀ w', Bel wr w' → w'.cell? ⟨b, o + k * 5 + 1, none⟩ = some (.int .i64 s.b) ∧ w'.cell? ⟨b, o + k * 5 + 2, none⟩ = some (.int .u8 s.c) ∧ w'.cell? ⟨W.heap.size, m, none⟩ = some (.pointer (some ⟨gm, 0, none⟩)) from fun w' hw => ⟨Bel.cell hw hst.2.1, Bel.cell hw hst.2.2.1, Bel.cell hw ((hbk.cell m).trans hg2)⟩)
              have Y := Lib.hid (And.intro hF (And.intro hbk (And.intro HBW (And.intro hm3 (And.intro hg1 (And.intro hg3 hstr))))))
              have hW0 : Bel wr wr.drew := (Bel.refl wr).drew
              have hn0 : ¬ (n = 0) := by have := HN.out.1; omega
              obtain ⟨bN, hw1, hw2, hmod⟩ := mod_norm n HN.out.1 s
              have HW := Lib.hid (And.intro hw1 hw2)
              clear hm hm3 hst hstr hw1 hw2 hF hbk HBW hg1 hg2 hg3
              go_upto_region 25 with fail
              refine wp_aw 20 #[false, false, false, false, false, false, false, false, false, false, false, false, false, false, false, false, false, false, false, false] rfl rfl ?_
              refine aw_meetw 2 ?L25 ?F25 (C := fun w' => Bel wr w') (fun END => ?_) ?_
              case refine_1 =>
                refine awt1 0 16 (o := ({ dst := some 84, op := Go.Op.move (Go.Operand.tmp 16), type := 3, pos := "law.go:182", after := #[], guard := none })) (v := ?_) rfl (by kernel_rfl) (by kernel_rfl) (by kernel_rfl) (fun _ _ _ h => h) (by rfl) (by rfl) (fun ev hc hf h0 W => ?_) ?_; rotate_left; (focus (first | (go_simp; done) | (go_simp; with_reducible rfl))); rotate_left; simp only [Act.put, List.setIfInBounds_toArray, List.set_cons_zero, List.set_cons_succ]
                refine awt2 1 8 84 (o := ({ dst := some 85, op := Go.Op.indexAddr 55 (Go.Operand.tmp 8) (Go.Operand.tmp 84), type := 0, pos := "law.go:182", after := #[{ on := 0, ground := Go.Ground.data }], guard := none })) (v := ?_) rfl (by kernel_rfl) (by kernel_rfl) (by kernel_rfl) (fun _ _ _ h => h) (by rfl) (by rfl) (by rfl) (fun ev hc hf h0 h1 W => ?_) ?_; rotate_left; (focus (first | (go_simp; done) | (go_simp; with_reducible rfl))); rotate_left; simp only [Act.put, List.setIfInBounds_toArray, List.set_cons_zero, List.set_cons_succ]
                refine awt1 3 2 (o := ({ dst := some 87, op := Go.Op.move (Go.Operand.tmp 2), type := 22, pos := "law.go:182", after := #[], guard := none })) (v := ?_) rfl (by kernel_rfl) (by kernel_rfl) (by kernel_rfl) (fun _ _ _ h => h) (by rfl) (by rfl) (fun ev hc hf h0 W => ?_) ?_; rotate_left; (focus (first | (go_simp; done) | (go_simp; with_reducible rfl))); rotate_left; simp only [Act.put, List.setIfInBounds_toArray, List.set_cons_zero, List.set_cons_succ]
                refine awt1 4 15 (o := ({ dst := some 88, op := Go.Op.move (Go.Operand.tmp 15), type := 3, pos := "law.go:182", after := #[], guard := none })) (v := ?_) rfl (by kernel_rfl) (by kernel_rfl) (by kernel_rfl) (fun _ _ _ h => h) (by rfl) (by rfl) (fun ev hc hf h0 W => ?_) ?_; rotate_left; (focus (first | (go_simp; done) | (go_simp; with_reducible rfl))); rotate_left; simp only [Act.put, List.setIfInBounds_toArray, List.set_cons_zero, List.set_cons_succ]
                refine awt2 5 87 88 (o := ({ dst := some 89, op := Go.Op.indexAddr 22 (Go.Operand.tmp 87) (Go.Operand.tmp 88), type := 0, pos := "law.go:182", after := #[{ on := 3, ground := Go.Ground.data }, { on := 4, ground := Go.Ground.data }], guard := none })) (v := ?_) rfl (by kernel_rfl) (by kernel_rfl) (by kernel_rfl) (fun _ _ _ h => h) (by rfl) (by rfl) (by rfl) (fun ev hc hf h0 h1 W => ?_) ?_; rotate_left; (focus (first | (go_simp; done) | (go_simp; with_reducible rfl))); rotate_left; simp only [Act.put, List.setIfInBounds_toArray, List.set_cons_zero, List.set_cons_succ]
                refine awt1 6 89 (o := ({ dst := some 90, op := Go.Op.fieldAddr 35 (Go.Operand.tmp 89) 1, type := 0, pos := "law.go:182", after := #[{ on := 5, ground := Go.Ground.data }], guard := none })) (v := ?_) rfl (by kernel_rfl) (by kernel_rfl) (by kernel_rfl) (fun _ _ _ h => h) (by rfl) (by rfl) (fun ev hc hf h0 W => ?_) ?_; rotate_left; (focus (first | (go_simp; done) | (go_simp; with_reducible rfl))); rotate_left; simp only [Act.put, List.setIfInBounds_toArray, List.set_cons_zero, List.set_cons_succ]
                refine awt1 10 7 (o := ({ dst := some 94, op := Go.Op.move (Go.Operand.tmp 7), type := 3, pos := "law.go:182", after := #[], guard := none })) (v := ?_) rfl (by kernel_rfl) (by kernel_rfl) (by kernel_rfl) (fun _ _ _ h => h) (by rfl) (by rfl) (fun ev hc hf h0 W => ?_) ?_; rotate_left; (focus (first | (go_simp; done) | (go_simp; with_reducible rfl))); rotate_left; simp only [Act.put, List.setIfInBounds_toArray, List.set_cons_zero, List.set_cons_succ]
                refine awt1 12 2 (o := ({ dst := some 96, op := Go.Op.move (Go.Operand.tmp 2), type := 22, pos := "law.go:182", after := #[], guard := none })) (v := ?_) rfl (by kernel_rfl) (by kernel_rfl) (by kernel_rfl) (fun _ _ _ h => h) (by rfl) (by rfl) (fun ev hc hf h0 W => ?_) ?_; rotate_left; (focus (first | (go_simp; done) | (go_simp; with_reducible rfl))); rotate_left; simp only [Act.put, List.setIfInBounds_toArray, List.set_cons_zero, List.set_cons_succ]
                refine awt1 13 15 (o := ({ dst := some 97, op := Go.Op.move (Go.Operand.tmp 15), type := 3, pos := "law.go:182", after := #[], guard := none })) (v := ?_) rfl (by kernel_rfl) (by kernel_rfl) (by kernel_rfl) (fun _ _ _ h => h) (by rfl) (by rfl) (fun ev hc hf h0 W => ?_) ?_; rotate_left; (focus (first | (go_simp; done) | (go_simp; with_reducible rfl))); rotate_left; simp only [Act.put, List.setIfInBounds_toArray, List.set_cons_zero, List.set_cons_succ]
                refine awt2 14 96 97 (o := ({ dst := some 98, op := Go.Op.indexAddr 22 (Go.Operand.tmp 96) (Go.Operand.tmp 97), type := 0, pos := "law.go:182", after := #[{ on := 12, ground := Go.Ground.data }, { on := 13, ground := Go.Ground.data }], guard := none })) (v := ?_) rfl (by kernel_rfl) (by kernel_rfl) (by kernel_rfl) (fun _ _ _ h => h) (by rfl) (by rfl) (by rfl) (fun ev hc hf h0 h1 W => ?_) ?_; rotate_left; (focus (first | (go_simp; done) | (go_simp; with_reducible rfl))); rotate_left; simp only [Act.put, List.setIfInBounds_toArray, List.set_cons_zero, List.set_cons_succ]
                refine awt1 15 98 (o := ({ dst := some 99, op := Go.Op.fieldAddr 35 (Go.Operand.tmp 98) 2, type := 0, pos := "law.go:182", after := #[{ on := 14, ground := Go.Ground.data }], guard := none })) (v := ?_) rfl (by kernel_rfl) (by kernel_rfl) (by kernel_rfl) (fun _ _ _ h => h) (by rfl) (by rfl) (fun ev hc hf h0 W => ?_) ?_; rotate_left; (focus (first | (go_simp; done) | (go_simp; with_reducible rfl))); rotate_left; simp only [Act.put, List.setIfInBounds_toArray, List.set_cons_zero, List.set_cons_succ]
                refine aw_all [2, 7, 16] (by kernel_rfl) (by simp) ?_
                refine arv1 (o := ({ dst := some 86, op := Go.Op.load 25 (Go.Operand.tmp 85), type := 25, pos := "law.go:182", after := #[{ on := 1, ground := Go.Ground.data }], guard := none })) 85 (v := ?_) (W' := ?_) rfl (by rfl) (by rfl) (fun ev hc hf h0 => ?_) ?_ ?_; rotate_left 2; (focus (obtain ⟨e1, e2, e3⟩ := HS.out _ hW0; first | (go_simp; done) | (go_simp; with_reducible rfl) | (go_simp; constructor <;> with_reducible rfl)))
                · simp only [Act.put, List.setIfInBounds_toArray, List.set_cons_zero, List.set_cons_succ]
                  refine aw_all [7, 16] (by kernel_rfl) (by simp) ?_
                  refine arv1 (o := ({ dst := some 91, op := Go.Op.load 3 (Go.Operand.tmp 90), type := 3, pos := "law.go:182", after := #[{ on := 6, ground := Go.Ground.data }], guard := none })) 90 (v := ?_) (W' := ?_) rfl (by rfl) (by rfl) (fun ev hc hf h0 => ?_) ?_ ?_; rotate_left 2; (focus (obtain ⟨e1, e2, e3⟩ := HS.out _ hW0; first | (go_simp; done) | (go_simp; with_reducible rfl) | (go_simp; constructor <;> with_reducible rfl)))
                  · simp only [Act.put, List.setIfInBounds_toArray, List.set_cons_zero, List.set_cons_succ]
                    refine awt1 8 91 (o := ({ dst := some 92, op := Go.Op.convert 3 46 (Go.Operand.tmp 91), type := 46, pos := "law.go:182", after := #[{ on := 7, ground := Go.Ground.data }], guard := none })) (v := ?_) rfl (by kernel_rfl) (by kernel_rfl) (by kernel_rfl) (fun _ _ _ h => h) (by rfl) (by rfl) (fun ev hc hf h0 W => ?_) ?_; rotate_left; (focus (first | (go_simp; done) | (go_simp; with_reducible rfl))); rotate_left; simp only [Act.put, List.setIfInBounds_toArray, List.set_cons_zero, List.set_cons_succ]
                    refine awt1 9 92 (o := ({ dst := some 93, op := Go.Op.convert 46 3 (Go.Operand.tmp 92), type := 3, pos := "law.go:182", after := #[{ on := 8, ground := Go.Ground.data }], guard := none })) (v := ?_) rfl (by kernel_rfl) (by kernel_rfl) (by kernel_rfl) (fun _ _ _ h => h) (by rfl) (by rfl) (fun ev hc hf h0 W => ?_) ?_; rotate_left; (focus (first | (go_simp; done) | (go_simp; with_reducible rfl))); rotate_left; simp only [Act.put, List.setIfInBounds_toArray, List.set_cons_zero, List.set_cons_succ]
                    refine awt2 11 93 94 (o := ({ dst := some 95, op := Go.Op.binOp Go.BinOp.rem 3 (Go.Operand.tmp 93) (Go.Operand.tmp 94) 3, type := 3, pos := "law.go:182", after := #[{ on := 9, ground := Go.Ground.data }, { on := 10, ground := Go.Ground.data }], guard := none })) (v := ?_) rfl (by kernel_rfl) (by kernel_rfl) (by kernel_rfl) (fun _ _ _ h => h) (by rfl) (by rfl) (by rfl) (fun ev hc hf h0 h1 W => ?_) ?_; rotate_left; (focus (first | (go_simp; done) | (go_simp; with_reducible rfl))); rotate_left; simp only [Act.put, List.setIfInBounds_toArray, List.set_cons_zero, List.set_cons_succ]
                    refine aw_all [16] (by kernel_rfl) (by simp) ?_
                    refine arv1 (o := ({ dst := some 100, op := Go.Op.load 5 (Go.Operand.tmp 99), type := 5, pos := "law.go:182", after := #[{ on := 15, ground := Go.Ground.data }], guard := none })) 99 (v := ?_) (W' := ?_) rfl (by rfl) (by rfl) (fun ev hc hf h0 => ?_) ?_ ?_; rotate_left 2; (focus (obtain ⟨e1, e2, e3⟩ := HS.out _ hW0; first | (go_simp; done) | (go_simp; with_reducible rfl) | (go_simp; constructor <;> with_reducible rfl)))
                    · simp only [Act.put, List.setIfInBounds_toArray, List.set_cons_zero, List.set_cons_succ]
                      refine aw_all [17] (by kernel_rfl) (by simp) ?_
                      refine arc1 (o := ({ dst := some 101, op := Go.Op.call { callee := Go.Callee.value (Go.Operand.func 17), args := #[Go.Operand.tmp 100], argTypes := #[5] }, type := 9, pos := "law.go:182", after := #[{ on := 16, ground := Go.Ground.data }], guard := none })) 100 _ _ _ rfl (by rfl) (by rfl) (fun ev hc hf h0 => ?_) (HF.out _) (fun W4 hc4 => ?_) ?_
                      · focus (go_simp; done)
                      · simp only [Act.put, List.setIfInBounds_toArray, List.set_cons_zero, List.set_cons_succ]
                        have hW4 := hW0.step hc4
                        exact END _ hW4
                      exact ar_nil
                    exact ar_nil
                  refine arv1 (o := ({ dst := some 100, op := Go.Op.load 5 (Go.Operand.tmp 99), type := 5, pos := "law.go:182", after := #[{ on := 15, ground := Go.Ground.data }], guard := none })) 99 (v := ?_) (W' := ?_) rfl (by rfl) (by rfl) (fun ev hc hf h0 => ?_) ?_ ?_; rotate_left 2; (focus (obtain ⟨e1, e2, e3⟩ := HS.out _ hW0; first | (go_simp; done) | (go_simp; with_reducible rfl) | (go_simp; constructor <;> with_reducible rfl)))
                  · simp only [Act.put, List.setIfInBounds_toArray, List.set_cons_zero, List.set_cons_succ]
                    refine aw_all [7, 17] (by kernel_rfl) (by simp) ?_
                    refine arv1 (o := ({ dst := some 91, op := Go.Op.load 3 (Go.Operand.tmp 90), type := 3, pos := "law.go:182", after := #[{ on := 6, ground := Go.Ground.data }], guard := none })) 90 (v := ?_) (W' := ?_) rfl (by rfl) (by rfl) (fun ev hc hf h0 => ?_) ?_ ?_; rotate_left 2; (focus (obtain ⟨e1, e2, e3⟩ := HS.out _ hW0; first | (go_simp; done) | (go_simp; with_reducible rfl) | (go_simp; constructor <;> with_reducible rfl)))
                    · simp only [Act.put, List.setIfInBounds_toArray, List.set_cons_zero, List.set_cons_succ]
                      refine awt1 8 91 (o := ({ dst := some 92, op := Go.Op.convert 3 46 (Go.Operand.tmp 91), type := 46, pos := "law.go:182", after := #[{ on := 7, ground := Go.Ground.data }], guard := none })) (v := ?_) rfl (by kernel_rfl) (by kernel_rfl) (by kernel_rfl) (fun _ _ _ h => h) (by rfl) (by rfl) (fun ev hc hf h0 W => ?_) ?_; rotate_left; (focus (first | (go_simp; done) | (go_simp; with_reducible rfl))); rotate_left; simp only [Act.put, List.setIfInBounds_toArray, List.set_cons_zero, List.set_cons_succ]
                      refine awt1 9 92 (o := ({ dst := some 93, op := Go.Op.convert 46 3 (Go.Operand.tmp 92), type := 3, pos := "law.go:182", after := #[{ on := 8, ground := Go.Ground.data }], guard := none })) (v := ?_) rfl (by kernel_rfl) (by kernel_rfl) (by kernel_rfl) (fun _ _ _ h => h) (by rfl) (by rfl) (fun ev hc hf h0 W => ?_) ?_; rotate_left; (focus (first | (go_simp; done) | (go_simp; with_reducible rfl))); rotate_left; simp only [Act.put, List.setIfInBounds_toArray, List.set_cons_zero, List.set_cons_succ]
                      refine awt2 11 93 94 (o := ({ dst := some 95, op := Go.Op.binOp Go.BinOp.rem 3 (Go.Operand.tmp 93) (Go.Operand.tmp 94) 3, type := 3, pos := "law.go:182", after := #[{ on := 9, ground := Go.Ground.data }, { on := 10, ground := Go.Ground.data }], guard := none })) (v := ?_) rfl (by kernel_rfl) (by kernel_rfl) (by kernel_rfl) (fun _ _ _ h => h) (by rfl) (by rfl) (by rfl) (fun ev hc hf h0 h1 W => ?_) ?_; rotate_left; (focus (first | (go_simp; done) | (go_simp; with_reducible rfl))); rotate_left; simp only [Act.put, List.setIfInBounds_toArray, List.set_cons_zero, List.set_cons_succ]
                      refine aw_all [17] (by kernel_rfl) (by simp) ?_
                      refine arc1 (o := ({ dst := some 101, op := Go.Op.call { callee := Go.Callee.value (Go.Operand.func 17), args := #[Go.Operand.tmp 100], argTypes := #[5] }, type := 9, pos := "law.go:182", after := #[{ on := 16, ground := Go.Ground.data }], guard := none })) 100 _ _ _ rfl (by rfl) (by rfl) (fun ev hc hf h0 => ?_) (HF.out _) (fun W7 hc7 => ?_) ?_
                      · focus (go_simp; done)
                      · simp only [Act.put, List.setIfInBounds_toArray, List.set_cons_zero, List.set_cons_succ]
                        have hW7 := hW0.step hc7
                        exact END _ hW7
                      exact ar_nil
                    refine arc1 (o := ({ dst := some 101, op := Go.Op.call { callee := Go.Callee.value (Go.Operand.func 17), args := #[Go.Operand.tmp 100], argTypes := #[5] }, type := 9, pos := "law.go:182", after := #[{ on := 16, ground := Go.Ground.data }], guard := none })) 100 _ _ _ rfl (by rfl) (by rfl) (fun ev hc hf h0 => ?_) (HF.out _) (fun W8 hc8 => ?_) ?_
                    · focus (go_simp; done)
                    · simp only [Act.put, List.setIfInBounds_toArray, List.set_cons_zero, List.set_cons_succ]
                      have hW8 := hW0.step hc8
                      refine aw_all [7] (by kernel_rfl) (by simp) ?_
                      refine arv1 (o := ({ dst := some 91, op := Go.Op.load 3 (Go.Operand.tmp 90), type := 3, pos := "law.go:182", after := #[{ on := 6, ground := Go.Ground.data }], guard := none })) 90 (v := ?_) (W' := ?_) rfl (by rfl) (by rfl) (fun ev hc hf h0 => ?_) ?_ ?_; rotate_left 2; (focus (obtain ⟨e1, e2, e3⟩ := HS.out _ hW8; first | (go_simp; done) | (go_simp; with_reducible rfl) | (go_simp; constructor <;> with_reducible rfl)))
                      · simp only [Act.put, List.setIfInBounds_toArray, List.set_cons_zero, List.set_cons_succ]
                        refine awt1 8 91 (o := ({ dst := some 92, op := Go.Op.convert 3 46 (Go.Operand.tmp 91), type := 46, pos := "law.go:182", after := #[{ on := 7, ground := Go.Ground.data }], guard := none })) (v := ?_) rfl (by kernel_rfl) (by kernel_rfl) (by kernel_rfl) (fun _ _ _ h => h) (by rfl) (by rfl) (fun ev hc hf h0 W => ?_) ?_; rotate_left; (focus (first | (go_simp; done) | (go_simp; with_reducible rfl))); rotate_left; simp only [Act.put, List.setIfInBounds_toArray, List.set_cons_zero, List.set_cons_succ]
                        refine awt1 9 92 (o := ({ dst := some 93, op := Go.Op.convert 46 3 (Go.Operand.tmp 92), type := 3, pos := "law.go:182", after := #[{ on := 8, ground := Go.Ground.data }], guard := none })) (v := ?_) rfl (by kernel_rfl) (by kernel_rfl) (by kernel_rfl) (fun _ _ _ h => h) (by rfl) (by rfl) (fun ev hc hf h0 W => ?_) ?_; rotate_left; (focus (first | (go_simp; done) | (go_simp; with_reducible rfl))); rotate_left; simp only [Act.put, List.setIfInBounds_toArray, List.set_cons_zero, List.set_cons_succ]
                        refine awt2 11 93 94 (o := ({ dst := some 95, op := Go.Op.binOp Go.BinOp.rem 3 (Go.Operand.tmp 93) (Go.Operand.tmp 94) 3, type := 3, pos := "law.go:182", after := #[{ on := 9, ground := Go.Ground.data }, { on := 10, ground := Go.Ground.data }], guard := none })) (v := ?_) rfl (by kernel_rfl) (by kernel_rfl) (by kernel_rfl) (fun _ _ _ h => h) (by rfl) (by rfl) (by rfl) (fun ev hc hf h0 h1 W => ?_) ?_; rotate_left; (focus (first | (go_simp; done) | (go_simp; with_reducible rfl))); rotate_left; simp only [Act.put, List.setIfInBounds_toArray, List.set_cons_zero, List.set_cons_succ]
                        exact END _ hW8
                      exact ar_nil
                    exact ar_nil
                  exact ar_nil
                refine arv1 (o := ({ dst := some 91, op := Go.Op.load 3 (Go.Operand.tmp 90), type := 3, pos := "law.go:182", after := #[{ on := 6, ground := Go.Ground.data }], guard := none })) 90 (v := ?_) (W' := ?_) rfl (by rfl) (by rfl) (fun ev hc hf h0 => ?_) ?_ ?_; rotate_left 2; (focus (obtain ⟨e1, e2, e3⟩ := HS.out _ hW0; first | (go_simp; done) | (go_simp; with_reducible rfl) | (go_simp; constructor <;> with_reducible rfl)))
                · simp only [Act.put, List.setIfInBounds_toArray, List.set_cons_zero, List.set_cons_succ]
                  refine awt1 8 91 (o := ({ dst := some 92, op := Go.Op.convert 3 46 (Go.Operand.tmp 91), type := 46, pos := "law.go:182", after := #[{ on := 7, ground := Go.Ground.data }], guard := none })) (v := ?_) rfl (by kernel_rfl) (by kernel_rfl) (by kernel_rfl) (fun _ _ _ h => h) (by rfl) (by rfl) (fun ev hc hf h0 W => ?_) ?_; rotate_left; (focus (first | (go_simp; done) | (go_simp; with_reducible rfl))); rotate_left; simp only [Act.put, List.setIfInBounds_toArray, List.set_cons_zero, List.set_cons_succ]
                  refine awt1 9 92 (o := ({ dst := some 93, op := Go.Op.convert 46 3 (Go.Operand.tmp 92), type := 3, pos := "law.go:182", after := #[{ on := 8, ground := Go.Ground.data }], guard := none })) (v := ?_) rfl (by kernel_rfl) (by kernel_rfl) (by kernel_rfl) (fun _ _ _ h => h) (by rfl) (by rfl) (fun ev hc hf h0 W => ?_) ?_; rotate_left; (focus (first | (go_simp; done) | (go_simp; with_reducible rfl))); rotate_left; simp only [Act.put, List.setIfInBounds_toArray, List.set_cons_zero, List.set_cons_succ]
                  refine awt2 11 93 94 (o := ({ dst := some 95, op := Go.Op.binOp Go.BinOp.rem 3 (Go.Operand.tmp 93) (Go.Operand.tmp 94) 3, type := 3, pos := "law.go:182", after := #[{ on := 9, ground := Go.Ground.data }, { on := 10, ground := Go.Ground.data }], guard := none })) (v := ?_) rfl (by kernel_rfl) (by kernel_rfl) (by kernel_rfl) (fun _ _ _ h => h) (by rfl) (by rfl) (by rfl) (fun ev hc hf h0 h1 W => ?_) ?_; rotate_left; (focus (first | (go_simp; done) | (go_simp; with_reducible rfl))); rotate_left; simp only [Act.put, List.setIfInBounds_toArray, List.set_cons_zero, List.set_cons_succ]
                  refine aw_all [2, 16] (by kernel_rfl) (by simp) ?_
                  refine arv1 (o := ({ dst := some 86, op := Go.Op.load 25 (Go.Operand.tmp 85), type := 25, pos := "law.go:182", after := #[{ on := 1, ground := Go.Ground.data }], guard := none })) 85 (v := ?_) (W' := ?_) rfl (by rfl) (by rfl) (fun ev hc hf h0 => ?_) ?_ ?_; rotate_left 2; (focus (obtain ⟨e1, e2, e3⟩ := HS.out _ hW0; first | (go_simp; done) | (go_simp; with_reducible rfl) | (go_simp; constructor <;> with_reducible rfl)))
                  · simp only [Act.put, List.setIfInBounds_toArray, List.set_cons_zero, List.set_cons_succ]
                    refine aw_all [16] (by kernel_rfl) (by simp) ?_
                    refine arv1 (o := ({ dst := some 100, op := Go.Op.load 5 (Go.Operand.tmp 99), type := 5, pos := "law.go:182", after := #[{ on := 15, ground := Go.Ground.data }], guard := none })) 99 (v := ?_) (W' := ?_) rfl (by rfl) (by rfl) (fun ev hc hf h0 => ?_) ?_ ?_; rotate_left 2; (focus (obtain ⟨e1, e2, e3⟩ := HS.out _ hW0; first | (go_simp; done) | (go_simp; with_reducible rfl) | (go_simp; constructor <;> with_reducible rfl)))
                    · simp only [Act.put, List.setIfInBounds_toArray, List.set_cons_zero, List.set_cons_succ]
                      refine aw_all [17] (by kernel_rfl) (by simp) ?_
                      refine arc1 (o := ({ dst := some 101, op := Go.Op.call { callee := Go.Callee.value (Go.Operand.func 17), args := #[Go.Operand.tmp 100], argTypes := #[5] }, type := 9, pos := "law.go:182", after := #[{ on := 16, ground := Go.Ground.data }], guard := none })) 100 _ _ _ rfl (by rfl) (by rfl) (fun ev hc hf h0 => ?_) (HF.out _) (fun W13 hc13 => ?_) ?_
                      · focus (go_simp; done)
                      · simp only [Act.put, List.setIfInBounds_toArray, List.set_cons_zero, List.set_cons_succ]
                        have hW13 := hW0.step hc13
                        exact END _ hW13
                      exact ar_nil
                    exact ar_nil
                  refine arv1 (o := ({ dst := some 100, op := Go.Op.load 5 (Go.Operand.tmp 99), type := 5, pos := "law.go:182", after := #[{ on := 15, ground := Go.Ground.data }], guard := none })) 99 (v := ?_) (W' := ?_) rfl (by rfl) (by rfl) (fun ev hc hf h0 => ?_) ?_ ?_; rotate_left 2; (focus (obtain ⟨e1, e2, e3⟩ := HS.out _ hW0; first | (go_simp; done) | (go_simp; with_reducible rfl) | (go_simp; constructor <;> with_reducible rfl)))
                  · simp only [Act.put, List.setIfInBounds_toArray, List.set_cons_zero, List.set_cons_succ]
                    refine aw_all [2, 17] (by kernel_rfl) (by simp) ?_
                    refine arv1 (o := ({ dst := some 86, op := Go.Op.load 25 (Go.Operand.tmp 85), type := 25, pos := "law.go:182", after := #[{ on := 1, ground := Go.Ground.data }], guard := none })) 85 (v := ?_) (W' := ?_) rfl (by rfl) (by rfl) (fun ev hc hf h0 => ?_) ?_ ?_; rotate_left 2; (focus (obtain ⟨e1, e2, e3⟩ := HS.out _ hW0; first | (go_simp; done) | (go_simp; with_reducible rfl) | (go_simp; constructor <;> with_reducible rfl)))
                    · simp only [Act.put, List.setIfInBounds_toArray, List.set_cons_zero, List.set_cons_succ]
                      refine aw_all [17] (by kernel_rfl) (by simp) ?_
                      refine arc1 (o := ({ dst := some 101, op := Go.Op.call { callee := Go.Callee.value (Go.Operand.func 17), args := #[Go.Operand.tmp 100], argTypes := #[5] }, type := 9, pos := "law.go:182", after := #[{ on := 16, ground := Go.Ground.data }], guard := none })) 100 _ _ _ rfl (by rfl) (by rfl) (fun ev hc hf h0 => ?_) (HF.out _) (fun W16 hc16 => ?_) ?_
                      · focus (go_simp; done)
                      · simp only [Act.put, List.setIfInBounds_toArray, List.set_cons_zero, List.set_cons_succ]
                        have hW16 := hW0.step hc16
                        exact END _ hW16
                      exact ar_nil
                    refine arc1 (o := ({ dst := some 101, op := Go.Op.call { callee := Go.Callee.value (Go.Operand.func 17), args := #[Go.Operand.tmp 100], argTypes := #[5] }, type := 9, pos := "law.go:182", after := #[{ on := 16, ground := Go.Ground.data }], guard := none })) 100 _ _ _ rfl (by rfl) (by rfl) (fun ev hc hf h0 => ?_) (HF.out _) (fun W17 hc17 => ?_) ?_
                    · focus (go_simp; done)
                    · simp only [Act.put, List.setIfInBounds_toArray, List.set_cons_zero, List.set_cons_succ]
                      have hW17 := hW0.step hc17
                      refine aw_all [2] (by kernel_rfl) (by simp) ?_
                      refine arv1 (o := ({ dst := some 86, op := Go.Op.load 25 (Go.Operand.tmp 85), type := 25, pos := "law.go:182", after := #[{ on := 1, ground := Go.Ground.data }], guard := none })) 85 (v := ?_) (W' := ?_) rfl (by rfl) (by rfl) (fun ev hc hf h0 => ?_) ?_ ?_; rotate_left 2; (focus (obtain ⟨e1, e2, e3⟩ := HS.out _ hW17; first | (go_simp; done) | (go_simp; with_reducible rfl) | (go_simp; constructor <;> with_reducible rfl)))
                      · simp only [Act.put, List.setIfInBounds_toArray, List.set_cons_zero, List.set_cons_succ]
                        exact END _ hW17
                      exact ar_nil
                    exact ar_nil
                  exact ar_nil
                refine arv1 (o := ({ dst := some 100, op := Go.Op.load 5 (Go.Operand.tmp 99), type := 5, pos := "law.go:182", after := #[{ on := 15, ground := Go.Ground.data }], guard := none })) 99 (v := ?_) (W' := ?_) rfl (by rfl) (by rfl) (fun ev hc hf h0 => ?_) ?_ ?_; rotate_left 2; (focus (obtain ⟨e1, e2, e3⟩ := HS.out _ hW0; first | (go_simp; done) | (go_simp; with_reducible rfl) | (go_simp; constructor <;> with_reducible rfl)))
                · simp only [Act.put, List.setIfInBounds_toArray, List.set_cons_zero, List.set_cons_succ]
                  refine aw_all [2, 7, 17] (by kernel_rfl) (by simp) ?_
                  refine arv1 (o := ({ dst := some 86, op := Go.Op.load 25 (Go.Operand.tmp 85), type := 25, pos := "law.go:182", after := #[{ on := 1, ground := Go.Ground.data }], guard := none })) 85 (v := ?_) (W' := ?_) rfl (by rfl) (by rfl) (fun ev hc hf h0 => ?_) ?_ ?_; rotate_left 2; (focus (obtain ⟨e1, e2, e3⟩ := HS.out _ hW0; first | (go_simp; done) | (go_simp; with_reducible rfl) | (go_simp; constructor <;> with_reducible rfl)))
                  · simp only [Act.put, List.setIfInBounds_toArray, List.set_cons_zero, List.set_cons_succ]
                    refine aw_all [7, 17] (by kernel_rfl) (by simp) ?_
                    refine arv1 (o := ({ dst := some 91, op := Go.Op.load 3 (Go.Operand.tmp 90), type := 3, pos := "law.go:182", after := #[{ on := 6, ground := Go.Ground.data }], guard := none })) 90 (v := ?_) (W' := ?_) rfl (by rfl) (by rfl) (fun ev hc hf h0 => ?_) ?_ ?_; rotate_left 2; (focus (obtain ⟨e1, e2, e3⟩ := HS.out _ hW0; first | (go_simp; done) | (go_simp; with_reducible rfl) | (go_simp; constructor <;> with_reducible rfl)))
                    · simp only [Act.put, List.setIfInBounds_toArray, List.set_cons_zero, List.set_cons_succ]
                      refine awt1 8 91 (o := ({ dst := some 92, op := Go.Op.convert 3 46 (Go.Operand.tmp 91), type := 46, pos := "law.go:182", after := #[{ on := 7, ground := Go.Ground.data }], guard := none })) (v := ?_) rfl (by kernel_rfl) (by kernel_rfl) (by kernel_rfl) (fun _ _ _ h => h) (by rfl) (by rfl) (fun ev hc hf h0 W => ?_) ?_; rotate_left; (focus (first | (go_simp; done) | (go_simp; with_reducible rfl))); rotate_left; simp only [Act.put, List.setIfInBounds_toArray, List.set_cons_zero, List.set_cons_succ]
                      refine awt1 9 92 (o := ({ dst := some 93, op := Go.Op.convert 46 3 (Go.Operand.tmp 92), type := 3, pos := "law.go:182", after := #[{ on := 8, ground := Go.Ground.data }], guard := none })) (v := ?_) rfl (by kernel_rfl) (by kernel_rfl) (by kernel_rfl) (fun _ _ _ h => h) (by rfl) (by rfl) (fun ev hc hf h0 W => ?_) ?_; rotate_left; (focus (first | (go_simp; done) | (go_simp; with_reducible rfl))); rotate_left; simp only [Act.put, List.setIfInBounds_toArray, List.set_cons_zero, List.set_cons_succ]
                      refine awt2 11 93 94 (o := ({ dst := some 95, op := Go.Op.binOp Go.BinOp.rem 3 (Go.Operand.tmp 93) (Go.Operand.tmp 94) 3, type := 3, pos := "law.go:182", after := #[{ on := 9, ground := Go.Ground.data }, { on := 10, ground := Go.Ground.data }], guard := none })) (v := ?_) rfl (by kernel_rfl) (by kernel_rfl) (by kernel_rfl) (fun _ _ _ h => h) (by rfl) (by rfl) (by rfl) (fun ev hc hf h0 h1 W => ?_) ?_; rotate_left; (focus (first | (go_simp; done) | (go_simp; with_reducible rfl))); rotate_left; simp only [Act.put, List.setIfInBounds_toArray, List.set_cons_zero, List.set_cons_succ]
                      refine aw_all [17] (by kernel_rfl) (by simp) ?_
                      refine arc1 (o := ({ dst := some 101, op := Go.Op.call { callee := Go.Callee.value (Go.Operand.func 17), args := #[Go.Operand.tmp 100], argTypes := #[5] }, type := 9, pos := "law.go:182", after := #[{ on := 16, ground := Go.Ground.data }], guard := none })) 100 _ _ _ rfl (by rfl) (by rfl) (fun ev hc hf h0 => ?_) (HF.out _) (fun W22 hc22 => ?_) ?_
                      · focus (go_simp; done)
                      · simp only [Act.put, List.setIfInBounds_toArray, List.set_cons_zero, List.set_cons_succ]
                        have hW22 := hW0.step hc22
                        exact END _ hW22
                      exact ar_nil
                    refine arc1 (o := ({ dst := some 101, op := Go.Op.call { callee := Go.Callee.value (Go.Operand.func 17), args := #[Go.Operand.tmp 100], argTypes := #[5] }, type := 9, pos := "law.go:182", after := #[{ on := 16, ground := Go.Ground.data }], guard := none })) 100 _ _ _ rfl (by rfl) (by rfl) (fun ev hc hf h0 => ?_) (HF.out _) (fun W23 hc23 => ?_) ?_
                    · focus (go_simp; done)
                    · simp only [Act.put, List.setIfInBounds_toArray, List.set_cons_zero, List.set_cons_succ]
                      have hW23 := hW0.step hc23
                      refine aw_all [7] (by kernel_rfl) (by simp) ?_
                      refine arv1 (o := ({ dst := some 91, op := Go.Op.load 3 (Go.Operand.tmp 90), type := 3, pos := "law.go:182", after := #[{ on := 6, ground := Go.Ground.data }], guard := none })) 90 (v := ?_) (W' := ?_) rfl (by rfl) (by rfl) (fun ev hc hf h0 => ?_) ?_ ?_; rotate_left 2; (focus (obtain ⟨e1, e2, e3⟩ := HS.out _ hW23; first | (go_simp; done) | (go_simp; with_reducible rfl) | (go_simp; constructor <;> with_reducible rfl)))
                      · simp only [Act.put, List.setIfInBounds_toArray, List.set_cons_zero, List.set_cons_succ]
                        refine awt1 8 91 (o := ({ dst := some 92, op := Go.Op.convert 3 46 (Go.Operand.tmp 91), type := 46, pos := "law.go:182", after := #[{ on := 7, ground := Go.Ground.data }], guard := none })) (v := ?_) rfl (by kernel_rfl) (by kernel_rfl) (by kernel_rfl) (fun _ _ _ h => h) (by rfl) (by rfl) (fun ev hc hf h0 W => ?_) ?_; rotate_left; (focus (first | (go_simp; done) | (go_simp; with_reducible rfl))); rotate_left; simp only [Act.put, List.setIfInBounds_toArray, List.set_cons_zero, List.set_cons_succ]
                        refine awt1 9 92 (o := ({ dst := some 93, op := Go.Op.convert 46 3 (Go.Operand.tmp 92), type := 3, pos := "law.go:182", after := #[{ on := 8, ground := Go.Ground.data }], guard := none })) (v := ?_) rfl (by kernel_rfl) (by kernel_rfl) (by kernel_rfl) (fun _ _ _ h => h) (by rfl) (by rfl) (fun ev hc hf h0 W => ?_) ?_; rotate_left; (focus (first | (go_simp; done) | (go_simp; with_reducible rfl))); rotate_left; simp only [Act.put, List.setIfInBounds_toArray, List.set_cons_zero, List.set_cons_succ]
                        refine awt2 11 93 94 (o := ({ dst := some 95, op := Go.Op.binOp Go.BinOp.rem 3 (Go.Operand.tmp 93) (Go.Operand.tmp 94) 3, type := 3, pos := "law.go:182", after := #[{ on := 9, ground := Go.Ground.data }, { on := 10, ground := Go.Ground.data }], guard := none })) (v := ?_) rfl (by kernel_rfl) (by kernel_rfl) (by kernel_rfl) (fun _ _ _ h => h) (by rfl) (by rfl) (by rfl) (fun ev hc hf h0 h1 W => ?_) ?_; rotate_left; (focus (first | (go_simp; done) | (go_simp; with_reducible rfl))); rotate_left; simp only [Act.put, List.setIfInBounds_toArray, List.set_cons_zero, List.set_cons_succ]
                        exact END _ hW23
                      exact ar_nil
                    exact ar_nil
                  refine arv1 (o := ({ dst := some 91, op := Go.Op.load 3 (Go.Operand.tmp 90), type := 3, pos := "law.go:182", after := #[{ on := 6, ground := Go.Ground.data }], guard := none })) 90 (v := ?_) (W' := ?_) rfl (by rfl) (by rfl) (fun ev hc hf h0 => ?_) ?_ ?_; rotate_left 2; (focus (obtain ⟨e1, e2, e3⟩ := HS.out _ hW0; first | (go_simp; done) | (go_simp; with_reducible rfl) | (go_simp; constructor <;> with_reducible rfl)))
                  · simp only [Act.put, List.setIfInBounds_toArray, List.set_cons_zero, List.set_cons_succ]
                    refine awt1 8 91 (o := ({ dst := some 92, op := Go.Op.convert 3 46 (Go.Operand.tmp 91), type := 46, pos := "law.go:182", after := #[{ on := 7, ground := Go.Ground.data }], guard := none })) (v := ?_) rfl (by kernel_rfl) (by kernel_rfl) (by kernel_rfl) (fun _ _ _ h => h) (by rfl) (by rfl) (fun ev hc hf h0 W => ?_) ?_; rotate_left; (focus (first | (go_simp; done) | (go_simp; with_reducible rfl))); rotate_left; simp only [Act.put, List.setIfInBounds_toArray, List.set_cons_zero, List.set_cons_succ]
                    refine awt1 9 92 (o := ({ dst := some 93, op := Go.Op.convert 46 3 (Go.Operand.tmp 92), type := 3, pos := "law.go:182", after := #[{ on := 8, ground := Go.Ground.data }], guard := none })) (v := ?_) rfl (by kernel_rfl) (by kernel_rfl) (by kernel_rfl) (fun _ _ _ h => h) (by rfl) (by rfl) (fun ev hc hf h0 W => ?_) ?_; rotate_left; (focus (first | (go_simp; done) | (go_simp; with_reducible rfl))); rotate_left; simp only [Act.put, List.setIfInBounds_toArray, List.set_cons_zero, List.set_cons_succ]
                    refine awt2 11 93 94 (o := ({ dst := some 95, op := Go.Op.binOp Go.BinOp.rem 3 (Go.Operand.tmp 93) (Go.Operand.tmp 94) 3, type := 3, pos := "law.go:182", after := #[{ on := 9, ground := Go.Ground.data }, { on := 10, ground := Go.Ground.data }], guard := none })) (v := ?_) rfl (by kernel_rfl) (by kernel_rfl) (by kernel_rfl) (fun _ _ _ h => h) (by rfl) (by rfl) (by rfl) (fun ev hc hf h0 h1 W => ?_) ?_; rotate_left; (focus (first | (go_simp; done) | (go_simp; with_reducible rfl))); rotate_left; simp only [Act.put, List.setIfInBounds_toArray, List.set_cons_zero, List.set_cons_succ]
                    refine aw_all [2, 17] (by kernel_rfl) (by simp) ?_
                    refine arv1 (o := ({ dst := some 86, op := Go.Op.load 25 (Go.Operand.tmp 85), type := 25, pos := "law.go:182", after := #[{ on := 1, ground := Go.Ground.data }], guard := none })) 85 (v := ?_) (W' := ?_) rfl (by rfl) (by rfl) (fun ev hc hf h0 => ?_) ?_ ?_; rotate_left 2; (focus (obtain ⟨e1, e2, e3⟩ := HS.out _ hW0; first | (go_simp; done) | (go_simp; with_reducible rfl) | (go_simp; constructor <;> with_reducible rfl)))
                    · simp only [Act.put, List.setIfInBounds_toArray, List.set_cons_zero, List.set_cons_succ]
                      refine aw_all [17] (by kernel_rfl) (by simp) ?_
                      refine arc1 (o := ({ dst := some 101, op := Go.Op.call { callee := Go.Callee.value (Go.Operand.func 17), args := #[Go.Operand.tmp 100], argTypes := #[5] }, type := 9, pos := "law.go:182", after := #[{ on := 16, ground := Go.Ground.data }], guard := none })) 100 _ _ _ rfl (by rfl) (by rfl) (fun ev hc hf h0 => ?_) (HF.out _) (fun W27 hc27 => ?_) ?_
                      · focus (go_simp; done)
                      · simp only [Act.put, List.setIfInBounds_toArray, List.set_cons_zero, List.set_cons_succ]
                        have hW27 := hW0.step hc27
                        exact END _ hW27
                      exact ar_nil
                    refine arc1 (o := ({ dst := some 101, op := Go.Op.call { callee := Go.Callee.value (Go.Operand.func 17), args := #[Go.Operand.tmp 100], argTypes := #[5] }, type := 9, pos := "law.go:182", after := #[{ on := 16, ground := Go.Ground.data }], guard := none })) 100 _ _ _ rfl (by rfl) (by rfl) (fun ev hc hf h0 => ?_) (HF.out _) (fun W28 hc28 => ?_) ?_
                    · focus (go_simp; done)
                    · simp only [Act.put, List.setIfInBounds_toArray, List.set_cons_zero, List.set_cons_succ]
                      have hW28 := hW0.step hc28
                      refine aw_all [2] (by kernel_rfl) (by simp) ?_
                      refine arv1 (o := ({ dst := some 86, op := Go.Op.load 25 (Go.Operand.tmp 85), type := 25, pos := "law.go:182", after := #[{ on := 1, ground := Go.Ground.data }], guard := none })) 85 (v := ?_) (W' := ?_) rfl (by rfl) (by rfl) (fun ev hc hf h0 => ?_) ?_ ?_; rotate_left 2; (focus (obtain ⟨e1, e2, e3⟩ := HS.out _ hW28; first | (go_simp; done) | (go_simp; with_reducible rfl) | (go_simp; constructor <;> with_reducible rfl)))
                      · simp only [Act.put, List.setIfInBounds_toArray, List.set_cons_zero, List.set_cons_succ]
                        exact END _ hW28
                      exact ar_nil
                    exact ar_nil
                  refine arc1 (o := ({ dst := some 101, op := Go.Op.call { callee := Go.Callee.value (Go.Operand.func 17), args := #[Go.Operand.tmp 100], argTypes := #[5] }, type := 9, pos := "law.go:182", after := #[{ on := 16, ground := Go.Ground.data }], guard := none })) 100 _ _ _ rfl (by rfl) (by rfl) (fun ev hc hf h0 => ?_) (HF.out _) (fun W30 hc30 => ?_) ?_
                  · focus (go_simp; done)
                  · simp only [Act.put, List.setIfInBounds_toArray, List.set_cons_zero, List.set_cons_succ]
                    have hW30 := hW0.step hc30
                    refine aw_all [2, 7] (by kernel_rfl) (by simp) ?_
                    refine arv1 (o := ({ dst := some 86, op := Go.Op.load 25 (Go.Operand.tmp 85), type := 25, pos := "law.go:182", after := #[{ on := 1, ground := Go.Ground.data }], guard := none })) 85 (v := ?_) (W' := ?_) rfl (by rfl) (by rfl) (fun ev hc hf h0 => ?_) ?_ ?_; rotate_left 2; (focus (obtain ⟨e1, e2, e3⟩ := HS.out _ hW30; first | (go_simp; done) | (go_simp; with_reducible rfl) | (go_simp; constructor <;> with_reducible rfl)))
                    · simp only [Act.put, List.setIfInBounds_toArray, List.set_cons_zero, List.set_cons_succ]
                      refine aw_all [7] (by kernel_rfl) (by simp) ?_
                      refine arv1 (o := ({ dst := some 91, op := Go.Op.load 3 (Go.Operand.tmp 90), type := 3, pos := "law.go:182", after := #[{ on := 6, ground := Go.Ground.data }], guard := none })) 90 (v := ?_) (W' := ?_) rfl (by rfl) (by rfl) (fun ev hc hf h0 => ?_) ?_ ?_; rotate_left 2; (focus (obtain ⟨e1, e2, e3⟩ := HS.out _ hW30; first | (go_simp; done) | (go_simp; with_reducible rfl) | (go_simp; constructor <;> with_reducible rfl)))
                      · simp only [Act.put, List.setIfInBounds_toArray, List.set_cons_zero, List.set_cons_succ]
                        refine awt1 8 91 (o := ({ dst := some 92, op := Go.Op.convert 3 46 (Go.Operand.tmp 91), type := 46, pos := "law.go:182", after := #[{ on := 7, ground := Go.Ground.data }], guard := none })) (v := ?_) rfl (by kernel_rfl) (by kernel_rfl) (by kernel_rfl) (fun _ _ _ h => h) (by rfl) (by rfl) (fun ev hc hf h0 W => ?_) ?_; rotate_left; (focus (first | (go_simp; done) | (go_simp; with_reducible rfl))); rotate_left; simp only [Act.put, List.setIfInBounds_toArray, List.set_cons_zero, List.set_cons_succ]
                        refine awt1 9 92 (o := ({ dst := some 93, op := Go.Op.convert 46 3 (Go.Operand.tmp 92), type := 3, pos := "law.go:182", after := #[{ on := 8, ground := Go.Ground.data }], guard := none })) (v := ?_) rfl (by kernel_rfl) (by kernel_rfl) (by kernel_rfl) (fun _ _ _ h => h) (by rfl) (by rfl) (fun ev hc hf h0 W => ?_) ?_; rotate_left; (focus (first | (go_simp; done) | (go_simp; with_reducible rfl))); rotate_left; simp only [Act.put, List.setIfInBounds_toArray, List.set_cons_zero, List.set_cons_succ]
                        refine awt2 11 93 94 (o := ({ dst := some 95, op := Go.Op.binOp Go.BinOp.rem 3 (Go.Operand.tmp 93) (Go.Operand.tmp 94) 3, type := 3, pos := "law.go:182", after := #[{ on := 9, ground := Go.Ground.data }, { on := 10, ground := Go.Ground.data }], guard := none })) (v := ?_) rfl (by kernel_rfl) (by kernel_rfl) (by kernel_rfl) (fun _ _ _ h => h) (by rfl) (by rfl) (by rfl) (fun ev hc hf h0 h1 W => ?_) ?_; rotate_left; (focus (first | (go_simp; done) | (go_simp; with_reducible rfl))); rotate_left; simp only [Act.put, List.setIfInBounds_toArray, List.set_cons_zero, List.set_cons_succ]
                        exact END _ hW30
                      exact ar_nil
                    refine arv1 (o := ({ dst := some 91, op := Go.Op.load 3 (Go.Operand.tmp 90), type := 3, pos := "law.go:182", after := #[{ on := 6, ground := Go.Ground.data }], guard := none })) 90 (v := ?_) (W' := ?_) rfl (by rfl) (by rfl) (fun ev hc hf h0 => ?_) ?_ ?_; rotate_left 2; (focus (obtain ⟨e1, e2, e3⟩ := HS.out _ hW30; first | (go_simp; done) | (go_simp; with_reducible rfl) | (go_simp; constructor <;> with_reducible rfl)))
                    · simp only [Act.put, List.setIfInBounds_toArray, List.set_cons_zero, List.set_cons_succ]
                      refine awt1 8 91 (o := ({ dst := some 92, op := Go.Op.convert 3 46 (Go.Operand.tmp 91), type := 46, pos := "law.go:182", after := #[{ on := 7, ground := Go.Ground.data }], guard := none })) (v := ?_) rfl (by kernel_rfl) (by kernel_rfl) (by kernel_rfl) (fun _ _ _ h => h) (by rfl) (by rfl) (fun ev hc hf h0 W => ?_) ?_; rotate_left; (focus (first | (go_simp; done) | (go_simp; with_reducible rfl))); rotate_left; simp only [Act.put, List.setIfInBounds_toArray, List.set_cons_zero, List.set_cons_succ]
                      refine awt1 9 92 (o := ({ dst := some 93, op := Go.Op.convert 46 3 (Go.Operand.tmp 92), type := 3, pos := "law.go:182", after := #[{ on := 8, ground := Go.Ground.data }], guard := none })) (v := ?_) rfl (by kernel_rfl) (by kernel_rfl) (by kernel_rfl) (fun _ _ _ h => h) (by rfl) (by rfl) (fun ev hc hf h0 W => ?_) ?_; rotate_left; (focus (first | (go_simp; done) | (go_simp; with_reducible rfl))); rotate_left; simp only [Act.put, List.setIfInBounds_toArray, List.set_cons_zero, List.set_cons_succ]
                      refine awt2 11 93 94 (o := ({ dst := some 95, op := Go.Op.binOp Go.BinOp.rem 3 (Go.Operand.tmp 93) (Go.Operand.tmp 94) 3, type := 3, pos := "law.go:182", after := #[{ on := 9, ground := Go.Ground.data }, { on := 10, ground := Go.Ground.data }], guard := none })) (v := ?_) rfl (by kernel_rfl) (by kernel_rfl) (by kernel_rfl) (fun _ _ _ h => h) (by rfl) (by rfl) (by rfl) (fun ev hc hf h0 h1 W => ?_) ?_; rotate_left; (focus (first | (go_simp; done) | (go_simp; with_reducible rfl))); rotate_left; simp only [Act.put, List.setIfInBounds_toArray, List.set_cons_zero, List.set_cons_succ]
                      refine aw_all [2] (by kernel_rfl) (by simp) ?_
                      refine arv1 (o := ({ dst := some 86, op := Go.Op.load 25 (Go.Operand.tmp 85), type := 25, pos := "law.go:182", after := #[{ on := 1, ground := Go.Ground.data }], guard := none })) 85 (v := ?_) (W' := ?_) rfl (by rfl) (by rfl) (fun ev hc hf h0 => ?_) ?_ ?_; rotate_left 2; (focus (obtain ⟨e1, e2, e3⟩ := HS.out _ hW30; first | (go_simp; done) | (go_simp; with_reducible rfl) | (go_simp; constructor <;> with_reducible rfl)))
                      · simp only [Act.put, List.setIfInBounds_toArray, List.set_cons_zero, List.set_cons_succ]
                        exact END _ hW30
                      exact ar_nil
                    exact ar_nil
                  exact ar_nil
                exact ar_nil
              intro w5 hw5
              refine aw_all [18] (by kernel_rfl) (by simp) ?_
              refine arc3 (o := ({ dst := some 102, op := Go.Op.call { callee := Go.Callee.value (Go.Operand.func 16), args := #[Go.Operand.tmp 86, Go.Operand.tmp 95, Go.Operand.tmp 101], argTypes := #[25, 3, 9] }, type := 26, pos := "law.go:182", after := #[{ on := 2, ground := Go.Ground.data }, { on := 11, ground := Go.Ground.data }, { on := 17, ground := Go.Ground.data }, { on := 17, ground := Go.Ground.chain }], guard := none })) 86 95 101 _ _ _ rfl (by rfl) (by rfl) (by rfl) (by rfl) (fun ev hc hf h0 h1 h2 => ?_) (fleet_write m gm (bN : Int) str (oneByte s.c) (Y.out.1.keep hw5) Y.out.2.2.2.2.1 (dOf_there _ _ _ (by omega) (by rw [T1.out.2]; have := HW.out.2; omega)) (oneByte_len _) (by rw [← Y.out.2.2.2.2.2.2]) (dOf_len _ _ _ (by rw [List.length_take]; have := HL.out; omega))) (fun w6 h6 => ?_) ?_
              · focus (go_simp; done)
              · simp only [Act.put, List.setIfInBounds_toArray, List.set_cons_zero, List.set_cons_succ]
                have hbB : W.heap.size < B := by rw [HB.out]; omega
                have hF6 := h6.1
                have e2 : wOf n s = ((bN : Int), oneByte s.c) := Prod.ext HW.out.1 rfl
                have e3 : (dOf S1 ((l2.take k).map (wOf n))).done.add (bN : Int) (oneByte s.c) = dOf S1 ((l2.take (k + 1)).map (wOf n)) := by
                  rw [take_map l2 n k Q.out.2.2.2.1, e2]
                  rfl
                rw [e3, Y.out.2.2.2.2.2.1] at hF6
                have O7 := Lib.hid (And.intro hF6 (And.intro ((Y.out.2.1.bel hw5).below h6.2 hbB) ((Y.out.2.2.1.trans (Below.mono hw5 Y.out.2.2.1.size)).trans (h6.2.mono (Nat.le_of_lt hbB)))))
                clear h6 hF6 hw5 hbB e2 e3
                refine awt1 19 102 (o := ({ dst := some 103, op := Go.Op.binOp Go.BinOp.neq 26 (Go.Operand.tmp 102) (Go.Operand.const (Go.Value.int Go.IntKind.i64 0)) 26, type := 4, pos := "law.go:182", after := #[{ on := 18, ground := Go.Ground.data }], guard := none })) (v := ?_) rfl (by kernel_rfl) (by kernel_rfl) (by kernel_rfl) (fun _ _ _ h => h) (by rfl) (by rfl) (fun ev hc hf h0 W => ?_) ?_; rotate_left; (focus (first | (go_simp; done) | (go_simp; with_reducible rfl))); rotate_left; simp only [Act.put, List.setIfInBounds_toArray, List.set_cons_zero, List.set_cons_succ]
                refine aw_done (by kernel_rfl) ?_
                go_wp2_with fail
                refine ⟨⟨m + 1, by have := Y.out.2.2.2.1; omega, by simp, O7.out⟩, ?_⟩
                simp [intOf]
                have := Y.out.2.2.2.1
                omega
              exact ar_nil
            · obtain rfl : m = 3 := by omega
              obtain ⟨w2, hw2⟩ : ∃ w2, w2 = wr.alloc (.cells #[.int .i64 256] 3) := ⟨_, rfl⟩
              have b2 : Below wr.heap.size wr w2 := hw2 ▸ (Below.refl _ _).alloc (Nat.le_refl _) _
              have n2 : Bk w2 wr.heap.size #[.int .i64 256] 3 := hw2 ▸ Bk.new wr _ _
              obtain ⟨v', w4, hap, hF4, hb4⟩ := fleet_append 33 ⟨wr.heap.size, 0, none⟩ 256 (by have := HL.out; have := Q.out.2.2.2.2; omega) (hF.keep b2) (n2.cell 0)
              have hbB : W.heap.size < B := by rw [HB.out]; omega
              have AP := Lib.hid hap
              have HW2 := Lib.hid hw2
              have Z := Lib.hid (And.intro hF4 (And.intro ((hbk.bel b2).below hb4 hbB) ((HBW.trans (b2.mono HBW.size)).trans (hb4.mono (Nat.le_of_lt hbB)))))
              clear hF hbk HBW hm hm3 b2 n2 hap hF4 hb4 hw2 hbB
              go_wp2_with (with_reducible refine wpList_pl 105 rfl ?_)
              refine plv0 (.slice (some ⟨wr.heap.size, 0, none⟩) 1 1) (W' := w2) (by rfl) (fun ev hc hf => ?_) ?_
              · rw [HW2.out]
                go_simp
              simp only [Act.put, List.setIfInBounds_toArray, List.set_cons_zero, List.set_cons_succ]
              refine plv2 104 105 _ (by rfl) (by rfl) (by rfl) (fun ev hc hf h0 h1 => ex_app _ _ 33 rfl h0 h1 AP.out) ?_
              simp only [Act.put, List.setIfInBounds_toArray, List.set_cons_zero, List.set_cons_succ]
              refine PL.mk ?_
              go_wp2_with fail
              refine ⟨⟨k + 1, by have := Q.out.2.2.2.2; omega, by simp, ?_, Z.out.2.1, Z.out.2.2⟩, ?_⟩
              · have hz := Z.out.1
                rw [show List.replicate k (Value.int .i64 256) ++ [Value.int .i64 256] = List.replicate (k + 1) (Value.int .i64 256) from by rw [List.replicate_succ']] at hz
                exact hz
              · simp [intOf]
                have := Q.out.2.2.2.2
                omega
        · obtain rfl : k = l2.length := by omega
          rw [List.take_length] at hF
          obtain ⟨A, c, rfl⟩ : ∃ A c, u14 = .slice A l2.length c := by
            obtain ⟨Fs, h⟩ := hF
            exact ownsRow_form h.row
          have hrep : List.replicate l2.length (Value.int .i64 256) = (List.replicate l2.length (256 : Int)).map (Value.int .i64) := by rw [List.map_replicate]
          rw [hrep] at hF
          obtain ⟨L2, hL2⟩ : ∃ L2, l2.map (wOf n) = L2 := ⟨_, rfl⟩
          rw [hL2] at hF
          have hl2 : L2.length = l2.length := by rw [← hL2, List.length_map]
          have hF0 : Fleet B wr [(g0, dOf S1 L2), (g1, dOf S1 L2), (g2, dOf S1 L2)] (.slice A l2.length c) l2.length ((List.replicate l2.length (256 : Int)).map (Value.int .i64)) := hF
          have hLb : L2.length ≤ 1000000 := by have := HL.out; omega
          have hbB : W.heap.size < B := by rw [HB.out]; omega
          have R := Lib.hid (And.intro hF0 (And.intro hbk (And.intro HBW (And.intro hl2 (And.intro hLb hbB)))))
          have a0 : wr.cell? ⟨W.heap.size, 0, none⟩ = some (.pointer (some ⟨g0, 0, none⟩)) := hbk.cell 0
          clear hF hF0 hbk HBW hk hlt hrep hL2 hl2 hLb P1 hbB
          go_wp2_with fail
          refine (fleet_crash0 0 g0 R.out.1 rfl R.out.2.2.2.2.1).mono ?_
          rintro e w2 ⟨rfl, hF, hb2⟩
          have e1 : (dOf S1 L2).crash [] = dOf S1 [] := by show (⟨crashS L2 [] S1, [], false, 0⟩ : Dsk) = _; rw [crash_none]; rfl
          rw [e1] at hF
          have R2 := Lib.hid (And.intro (show Fleet B w2 [(g0, dOf S1 []), (g1, dOf S1 L2), (g2, dOf S1 L2)] (.slice A l2.length c) l2.length ((List.replicate l2.length (256 : Int)).map (Value.int .i64)) from hF) (And.intro (R.out.2.1.below hb2 R.out.2.2.2.2.2) (R.out.2.2.1.trans (hb2.mono (Nat.le_of_lt R.out.2.2.2.2.2)))))
          have a1 : w2.cell? ⟨W.heap.size, 1, none⟩ = some (.pointer (some ⟨g1, 0, none⟩)) := R2.out.2.1.cell 1
          clear hF hb2 e1 a0
          go_wp2_with fail
          refine (fleet_crash' 1 g1 (ps := List.replicate l2.length 256) List.length_replicate R2.out.1 rfl R.out.2.2.2.2.1 (by have := HL.out; omega)).mono ?_
          rintro e w3 ⟨rfl, hF, hb3⟩
          obtain ⟨S2, hS2⟩ : ∃ S2, syncS L2 S1 = S2 := ⟨_, rfl⟩
          have e2 : (dOf S1 L2).crash (List.replicate l2.length 256) = dOf S2 [] := by show (⟨crashS L2 (List.replicate l2.length 256) S1, [], false, 0⟩ : Dsk) = _; rw [← R.out.2.2.2.1, crash_full, hS2]; rfl
          rw [e2] at hF
          have R3 := Lib.hid (And.intro (show Fleet B w3 [(g0, dOf S1 []), (g1, dOf S2 []), (g2, dOf S1 L2)] (.slice A l2.length c) l2.length ((List.replicate l2.length (256 : Int)).map (Value.int .i64)) from hF) (And.intro (R2.out.2.1.below hb3 R.out.2.2.2.2.2) (R2.out.2.2.trans (hb3.mono (Nat.le_of_lt R.out.2.2.2.2.2)))))
          have a2 : w3.cell? ⟨W.heap.size, 2, none⟩ = some (.pointer (some ⟨g2, 0, none⟩)) := R3.out.2.1.cell 2
          clear hF hb3 e2 a1
          go_wp2_with fail
          refine (fleet_sync 2 g2 R3.out.1 rfl rfl R.out.2.2.2.2.1).mono ?_
          rintro e w4 ⟨rfl, hF, hb4⟩
          have e3 : (dOf S1 L2).sync = dOf S2 [] := by show (⟨syncS L2 S1, [], false, 0⟩ : Dsk) = _; rw [hS2]; rfl
          rw [e3] at hF
          have R4 := Lib.hid (And.intro (show Fleet B w4 [(g0, dOf S1 []), (g1, dOf S2 []), (g2, dOf S2 [])] (.slice A l2.length c) l2.length ((List.replicate l2.length (256 : Int)).map (Value.int .i64)) from hF) (And.intro (R3.out.2.1.below hb4 R.out.2.2.2.2.2) (R3.out.2.2.trans (hb4.mono (Nat.le_of_lt R.out.2.2.2.2.2)))))
          clear hF hb4 e3 a2 hS2
          obtain ⟨fin, hfin⟩ : ∃ fin, (⟨(dOf S2 []).sure.toArray⟩ : ByteArray) = fin := ⟨_, rfl⟩
          have K0 := Lib.hid (fun w' (h : Bel w4 w') => fleet_sure 0 g0 was HWAS.out (R4.out.1.keep h) rfl)
          have K1 := Lib.hid (fun w' (h : Bel w4 w') => fleet_sure 1 g1 fin hfin (R4.out.1.keep h) rfl)
          have K2 := Lib.hid (fun w' (h : Bel w4 w') => fleet_sure 2 g2 fin hfin (R4.out.1.keep h) rfl)
          have K8 := Lib.hid (fun w' => alive_any w')
          have HS := Lib.hid (show ∀ w', Bel w4 w' → w'.cell? ⟨W.heap.size, 0, none⟩ = some (.pointer (some ⟨g0, 0, none⟩)) ∧ w'.cell? ⟨W.heap.size, 1, none⟩ = some (.pointer (some ⟨g1, 0, none⟩)) ∧ w'.cell? ⟨W.heap.size, 2, none⟩ = some (.pointer (some ⟨g2, 0, none⟩)) from fun w' hw => ⟨Bel.cell hw (R4.out.2.1.cell 0), Bel.cell hw (R4.out.2.1.cell 1), Bel.cell hw (R4.out.2.1.cell 2)⟩)
          clear hfin
          go_upto_region 31 with fail
          refine wp_qw (by kernel_rfl) ?_
          (refine qv1 8 (v := ?_) (by rfl) (by rfl) (fun ev hc hf h0 W hW => ?_) ?_; rotate_left; (focus (obtain ⟨e0, e1, e2⟩ := HS.out W hW; first | (go_simp; done) | (go_simp; with_reducible rfl))); rotate_left; simp only [Act.put, List.setIfInBounds_toArray, List.set_cons_zero, List.set_cons_succ])
          (refine qv1 117 (v := ?_) (by rfl) (by rfl) (fun ev hc hf h0 W hW => ?_) ?_; rotate_left; (focus (obtain ⟨e0, e1, e2⟩ := HS.out W hW; first | (go_simp; done) | (go_simp; with_reducible rfl))); rotate_left; simp only [Act.put, List.setIfInBounds_toArray, List.set_cons_zero, List.set_cons_succ])
          first
            | (refine qc1 118 _ _ _ (by rfl) (by rfl) (fun ev hc hf h0 W hW => ?_) (fun W hW => q_calls hW (K0.out W hW)) ?_; (focus (obtain ⟨e0, e1, e2⟩ := HS.out W hW; go_simp; done)); simp only [Act.put, List.setIfInBounds_toArray, List.set_cons_zero, List.set_cons_succ])
            | (refine qc1 118 _ _ _ (by rfl) (by rfl) (fun ev hc hf h0 W hW => ?_) (fun W hW => q_calls hW (K1.out W hW)) ?_; (focus (obtain ⟨e0, e1, e2⟩ := HS.out W hW; go_simp; done)); simp only [Act.put, List.setIfInBounds_toArray, List.set_cons_zero, List.set_cons_succ])
            | (refine qc1 118 _ _ _ (by rfl) (by rfl) (fun ev hc hf h0 W hW => ?_) (fun W hW => q_calls hW (K2.out W hW)) ?_; (focus (obtain ⟨e0, e1, e2⟩ := HS.out W hW; go_simp; done)); simp only [Act.put, List.setIfInBounds_toArray, List.set_cons_zero, List.set_cons_succ])
          (refine qv1 13 (v := ?_) (by rfl) (by rfl) (fun ev hc hf h0 W hW => ?_) ?_; rotate_left; (focus (obtain ⟨e0, e1, e2⟩ := HS.out W hW; first | (go_simp; done) | (go_simp; with_reducible rfl))); rotate_left; simp only [Act.put, List.setIfInBounds_toArray, List.set_cons_zero, List.set_cons_succ])
          (refine qv2 119 120 (v := ?_) (by rfl) (by rfl) (by rfl) (fun ev hc hf h0 h1 W hW => ?_) ?_; rotate_left; (focus (obtain ⟨e0, e1, e2⟩ := HS.out W hW; first | (go_simp; done) | (go_simp; with_reducible rfl))); rotate_left; simp only [Act.put, List.setIfInBounds_toArray, List.set_cons_zero, List.set_cons_succ])
          (refine qv1 121 (v := ?_) (by rfl) (by rfl) (fun ev hc hf h0 W hW => ?_) ?_; rotate_left; (focus (obtain ⟨e0, e1, e2⟩ := HS.out W hW; first | (go_simp; done) | (go_simp; with_reducible rfl))); rotate_left; simp only [Act.put, List.setIfInBounds_toArray, List.set_cons_zero, List.set_cons_succ])
          first
            | (refine qskip (by rfl) ?_; simp only [Act.put, List.setIfInBounds_toArray, List.set_cons_zero, List.set_cons_succ])
            | (refine qv1 8 (v := ?_) (by rfl) (by rfl) (fun ev hc hf h0 W hW => ?_) ?_; rotate_left; (focus (obtain ⟨e0, e1, e2⟩ := HS.out W hW; first | (go_simp; done) | (go_simp; with_reducible rfl))); rotate_left; simp only [Act.put, List.setIfInBounds_toArray, List.set_cons_zero, List.set_cons_succ])
          first
            | (refine qskip (by rfl) ?_; simp only [Act.put, List.setIfInBounds_toArray, List.set_cons_zero, List.set_cons_succ])
            | (refine qv1 123 (v := ?_) (by rfl) (by rfl) (fun ev hc hf h0 W hW => ?_) ?_; rotate_left; (focus (obtain ⟨e0, e1, e2⟩ := HS.out W hW; first | (go_simp; done) | (go_simp; with_reducible rfl))); rotate_left; simp only [Act.put, List.setIfInBounds_toArray, List.set_cons_zero, List.set_cons_succ])
          first
            | (refine qskip (by rfl) ?_; simp only [Act.put, List.setIfInBounds_toArray, List.set_cons_zero, List.set_cons_succ])
            | (refine qc1 124 _ _ _ (by rfl) (by rfl) (fun ev hc hf h0 W hW => ?_) (fun W hW => q_calls hW (K0.out W hW)) ?_; (focus (obtain ⟨e0, e1, e2⟩ := HS.out W hW; go_simp; done)); simp only [Act.put, List.setIfInBounds_toArray, List.set_cons_zero, List.set_cons_succ])
            | (refine qc1 124 _ _ _ (by rfl) (by rfl) (fun ev hc hf h0 W hW => ?_) (fun W hW => q_calls hW (K1.out W hW)) ?_; (focus (obtain ⟨e0, e1, e2⟩ := HS.out W hW; go_simp; done)); simp only [Act.put, List.setIfInBounds_toArray, List.set_cons_zero, List.set_cons_succ])
            | (refine qc1 124 _ _ _ (by rfl) (by rfl) (fun ev hc hf h0 W hW => ?_) (fun W hW => q_calls hW (K2.out W hW)) ?_; (focus (obtain ⟨e0, e1, e2⟩ := HS.out W hW; go_simp; done)); simp only [Act.put, List.setIfInBounds_toArray, List.set_cons_zero, List.set_cons_succ])
          first
            | (refine qskip (by rfl) ?_; simp only [Act.put, List.setIfInBounds_toArray, List.set_cons_zero, List.set_cons_succ])
            | (refine qv1 8 (v := ?_) (by rfl) (by rfl) (fun ev hc hf h0 W hW => ?_) ?_; rotate_left; (focus (obtain ⟨e0, e1, e2⟩ := HS.out W hW; first | (go_simp; done) | (go_simp; with_reducible rfl))); rotate_left; simp only [Act.put, List.setIfInBounds_toArray, List.set_cons_zero, List.set_cons_succ])
          first
            | (refine qskip (by rfl) ?_; simp only [Act.put, List.setIfInBounds_toArray, List.set_cons_zero, List.set_cons_succ])
            | (refine qv1 126 (v := ?_) (by rfl) (by rfl) (fun ev hc hf h0 W hW => ?_) ?_; rotate_left; (focus (obtain ⟨e0, e1, e2⟩ := HS.out W hW; first | (go_simp; done) | (go_simp; with_reducible rfl))); rotate_left; simp only [Act.put, List.setIfInBounds_toArray, List.set_cons_zero, List.set_cons_succ])
          first
            | (refine qskip (by rfl) ?_; simp only [Act.put, List.setIfInBounds_toArray, List.set_cons_zero, List.set_cons_succ])
            | (refine qc1 127 _ _ _ (by rfl) (by rfl) (fun ev hc hf h0 W hW => ?_) (fun W hW => q_calls hW (K0.out W hW)) ?_; (focus (obtain ⟨e0, e1, e2⟩ := HS.out W hW; go_simp; done)); simp only [Act.put, List.setIfInBounds_toArray, List.set_cons_zero, List.set_cons_succ])
            | (refine qc1 127 _ _ _ (by rfl) (by rfl) (fun ev hc hf h0 W hW => ?_) (fun W hW => q_calls hW (K1.out W hW)) ?_; (focus (obtain ⟨e0, e1, e2⟩ := HS.out W hW; go_simp; done)); simp only [Act.put, List.setIfInBounds_toArray, List.set_cons_zero, List.set_cons_succ])
            | (refine qc1 127 _ _ _ (by rfl) (by rfl) (fun ev hc hf h0 W hW => ?_) (fun W hW => q_calls hW (K2.out W hW)) ?_; (focus (obtain ⟨e0, e1, e2⟩ := HS.out W hW; go_simp; done)); simp only [Act.put, List.setIfInBounds_toArray, List.set_cons_zero, List.set_cons_succ])
          first
            | (refine qskip (by rfl) ?_; simp only [Act.put, List.setIfInBounds_toArray, List.set_cons_zero, List.set_cons_succ])
            | (refine qv2 125 128 (v := ?_) (by rfl) (by rfl) (by rfl) (fun ev hc hf h0 h1 W hW => ?_) ?_; rotate_left; (focus (obtain ⟨e0, e1, e2⟩ := HS.out W hW; first | (go_simp; done) | (go_simp; with_reducible rfl))); rotate_left; simp only [Act.put, List.setIfInBounds_toArray, List.set_cons_zero, List.set_cons_succ])
          (refine qv2 122 129 (v := ?_) (by rfl) (by rfl) (by rfl) (fun ev hc hf h0 h1 W hW => ?_) ?_; rotate_left; (focus (obtain ⟨e0, e1, e2⟩ := HS.out W hW; first | (go_simp; done) | (go_simp; with_reducible rfl))); rotate_left; simp only [Act.put, List.setIfInBounds_toArray, List.set_cons_zero, List.set_cons_succ])
          (refine qv1 130 (v := ?_) (by rfl) (by rfl) (fun ev hc hf h0 W hW => ?_) ?_; rotate_left; (focus (obtain ⟨e0, e1, e2⟩ := HS.out W hW; first | (go_simp; done) | (go_simp; with_reducible rfl))); rotate_left; simp only [Act.put, List.setIfInBounds_toArray, List.set_cons_zero, List.set_cons_succ])
          first
            | (refine qskip (by rfl) ?_; simp only [Act.put, List.setIfInBounds_toArray, List.set_cons_zero, List.set_cons_succ])
            | (refine qc0  _ _ _ (by rfl) (fun ev hc hf  W hW => ?_) (fun W hW => q_calls hW (K8.out W)) ?_; (focus (obtain ⟨e0, e1, e2⟩ := HS.out W hW; go_simp; done)); simp only [Act.put, List.setIfInBounds_toArray, List.set_cons_zero, List.set_cons_succ])
          (refine qv2 131 132 (v := ?_) (by rfl) (by rfl) (by rfl) (fun ev hc hf h0 h1 W hW => ?_) ?_; rotate_left; (focus (obtain ⟨e0, e1, e2⟩ := HS.out W hW; first | (go_simp; done) | (go_simp; with_reducible rfl))); rotate_left; simp only [Act.put, List.setIfInBounds_toArray, List.set_cons_zero, List.set_cons_succ])
          (refine qv1 133 (v := ?_) (by rfl) (by rfl) (fun ev hc hf h0 W hW => ?_) ?_; rotate_left; (focus (obtain ⟨e0, e1, e2⟩ := HS.out W hW; first | (go_simp; done) | (go_simp; with_reducible rfl))); rotate_left; simp only [Act.put, List.setIfInBounds_toArray, List.set_cons_zero, List.set_cons_succ])
          refine qnil ?_
          intro w9 hW9
          have B9 := Lib.hid (R4.out.2.2.trans (Below.mono (show Below w4.heap.size w4 w9 from hW9) R4.out.2.2.size))
          clear hW9
          go_wp2_with fail
          go_ret
          exact ⟨rfl, B9.out⟩

end Go.Proofs.Ytbobbekbliichaa
