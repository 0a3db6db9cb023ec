import Derived.Test.YtbobbekbliichaaE23
namespace Go.Proofs.Ytbobbekbliichaa
open Go.RowKit
set_option linter.unusedSimpArgs false
set_option linter.unusedVariables false


open Go.Lib (byteCells byteCells_length byteCells_one)
theorem cat_bytes (a b : List UInt8) (n : Nat) (hn : n ≤ 256) (hb : b.length = 256) : (⟨a.toArray⟩ : ByteArray).extract 0 n ++ (⟨b.toArray⟩ : ByteArray).extract n 256 = ⟨(a.take n ++ b.drop n).toArray⟩ := by
  apply ByteArray.ext
  simp
  rw [List.take_of_length_le (by rw [List.length_drop]; omega)]
set_option maxRecDepth 100000 in
set_option maxHeartbeats 6400000 in
theorem rcrash_disk {B : Nat} {F : Nat → Prop} {W : World} {r : Nat} {sv lv : Value} {d : Dsk} (P : Option Addr) (c : Nat) (ps : List Int) (h : RefIn B F W r sv lv d) (hL : d.L.length ≤ 1000000) (hp : PicksAt F W P ps) (hpl : ps.length ≤ 1000000) :
    Calls Try.prog 25 #[.pointer (some ⟨r, 0, none⟩), .slice P ps.length c] W fun e W' => (∃ v, e = .returned v) ∧ RefIn B F W' r sv (.slice none 0 0) (d.crash ps) ∧ Kept F W W' := by
  obtain ⟨gs, cs, hsv, _, _⟩ := h.srow
  have X := Lib.hid (And.intro h (And.intro hL (And.intro hp hpl)))
  subst hsv
  clear h hL hp hpl
  go_enter Try.func25, Try.ntmps25
  go_wp2_with fail
  go_loopw [4] (fun i wr => ∃ (k : Nat) (S : List (List UInt8)), k ≤ d.L.length ∧ i = .int .i64 k ∧ crashS (d.L.drop k) (ps.drop k) S = crashS d.L ps d.S ∧ S.length = d.S.length ∧ RefIn B F wr r (.slice (some ⟨gs, 0, none⟩) d.S.length cs) lv { d with S := S } ∧ Kept F W wr) (fun i _ => d.L.length - (intOf i).toNat)
  case atStart => exact ⟨0, d.S, Nat.zero_le _, rfl, rfl, rfl, X.out.1, Kept.refl _ _⟩
  case round =>
    obtain ⟨k, S, hk, rfl, hS, hSl, hD, hK⟩ := hrel
    obtain ⟨A, cap, hlv, hA⟩ := hD.lrow
    have hlv' : lv = .slice A d.L.length cap := hlv
    have hc1 := hD.cells.2.1
    rw [hlv'] at hc1
    have c0 : wr.cell? ⟨r, 0, none⟩ = some (.slice (some ⟨gs, 0, none⟩) d.S.length cs) := hD.cells.1
    by_cases hlt : k < d.L.length
    · have hki : (k : Int) < (d.L.length : Int) := by omega
      have hkb : (k : Int) ≤ 1000000 := by have := X.out.2.1; omega
      obtain ⟨gl, rfl, _, hr⟩ : ∃ gl, A = some ⟨gl, 0, none⟩ ∧ gl < wr.heap.size ∧ ∀ i x, d.L[i]? = some x → wr.cell? ⟨gl, i * 2, none⟩ = some (.int .i64 x.1) ∧ wr.cell? ⟨gl, i * 2 + 1, none⟩ = some (strV x.2) := by
        rcases hA with h | h
        · exact absurd h (by show ¬ d.L.length = 0; omega)
        · exact h
      obtain ⟨x, hx⟩ : ∃ x, d.L[k]? = some x := ⟨_, List.getElem?_eq_getElem hlt⟩
      have hxo := X.out.1.ok.loose x (List.mem_of_getElem? hx)
      obtain ⟨cx, cy⟩ := hr k x hx
      obtain ⟨bN, hbN⟩ : ∃ bN : Nat, x.1 = bN := ⟨x.1.toNat, by have := hxo.2.1; omega⟩
      have hbS : (bN : Int) < (d.S.length : Int) := by have := hxo.2.2; omega
      rw [hbN] at cx
      obtain ⟨str, hstr⟩ : ∃ str, (⟨x.2.toArray⟩ : ByteArray) = str := ⟨_, rfl⟩
      rw [show strV x.2 = .string str by unfold strV; rw [hstr]] at cy
      obtain ⟨y, hy⟩ : ∃ y, S[bN]? = some y := ⟨_, List.getElem?_eq_getElem (by omega)⟩
      have hyl : y.length = 256 := hD.ok.all y (List.mem_of_getElem? hy)
      obtain ⟨sty, hsty⟩ : ∃ sty, (⟨y.toArray⟩ : ByteArray) = sty := ⟨_, rfl⟩
      have gcc : wr.cell? ⟨gs, bN, none⟩ = some (.string sty) := by
        obtain ⟨gs', cs', e, _, hs⟩ := hD.srow
        injection e with e1 e2 e3
        injection e1 with e1
        injection e1 with e1
        subst e1
        rw [hs bN y hy, ← hsty]
        rfl
      have gff : wr.frozen? ⟨gs, bN, none⟩ = false := by
        rcases hD.at_s.2 with ⟨e, _⟩ | ⟨q, c, cur, e, _, hq, _⟩
        · simp at e
        · injection e with e1 e2 e3
          injection e1 with e1
          injection e1 with e1
          subst e1
          exact Bk.free (show Bk wr gs cur 9 from hq) bN
      obtain ⟨w2, hw2⟩ : ∃ w2, w2 = wr.alloc (.cells #[.int .i64 (bN : Int), .string str] 42) := ⟨_, rfl⟩
      have b2 : Below wr.heap.size wr w2 := hw2 ▸ (Below.refl _ _).alloc (Nat.le_refl _) _
      have n2 : Bk w2 wr.heap.size #[.int .i64 (bN : Int), .string str] 42 := hw2 ▸ Bk.new wr _ _
      have z1 : str.size = 256 := by rw [← hstr]; show x.2.toArray.size = 256; rw [List.size_toArray]; exact hxo.1
      have z2 : sty.size = 256 := by rw [← hsty]; show y.toArray.size = 256; rw [List.size_toArray]; exact hyl
      have C := Lib.hid (show w2.drew.cell? ⟨r, 0, none⟩ = some (.slice (some ⟨gs, 0, none⟩) d.S.length cs) ∧ w2.drew.cell? ⟨wr.heap.size, 0, none⟩ = some (.int .i64 (bN : Int)) ∧ w2.drew.cell? ⟨wr.heap.size, 1, none⟩ = some (.string str) ∧ w2.drew.cell? ⟨gs, bN, none⟩ = some (.string sty) from
        ⟨Bel.cell (show Bel wr w2 from b2) c0, n2.cell 0, n2.cell 1, Bel.cell (show Bel wr w2 from b2) gcc⟩)
      have G := Lib.hid (show w2.drew.cell? ⟨gs, bN, none⟩ = some (.string sty) ∧ w2.drew.frozen? ⟨gs, bN, none⟩ = false from ⟨Bel.cell (show Bel wr w2 from b2) gcc, (Below.frozen b2 (p := ⟨gs, bN, none⟩) (World.block_lt_of_cell? wr _ gcc)).trans gff⟩)
      have Y := Lib.hid (And.intro hS (And.intro hSl (And.intro (hD.bel b2) (And.intro (hK.trans (.of_below b2)) (And.intro hlt (And.intro hx (And.intro hxo (And.intro hbN (And.intro hstr (And.intro hsty hy))))))))))
      have HW2 := Lib.hid hw2
      have HKW := Lib.hid hK
      clear hk hS hSl hD hK hlv hlv' hA hlt hr hx hxo hbN hstr hy hyl hsty gcc gff b2 n2 hw2
      by_cases hpk : k < ps.length
      · have hpi : (k : Int) < (ps.length : Int) := by omega
        obtain ⟨p, hpp⟩ : ∃ p, ps[k]? = some p := ⟨_, List.getElem?_eq_getElem hpk⟩
        obtain ⟨pb, po, rfl, hpF, hpb, hpc⟩ : ∃ b o, P = some ⟨b, o, none⟩ ∧ ¬ F b ∧ b < W.heap.size ∧ ∀ i p, ps[i]? = some p → W.cell? ⟨b, o + i, none⟩ = some (.int .i64 p) := by
          rcases X.out.2.2.1 with h | h
          · rw [h] at hpk; simp at hpk
          · exact h
        have cp : wr.cell? ⟨pb, po + k, none⟩ = some (.int .i64 p) := by
          have h1 : wr.heap[pb]? = W.heap[pb]? := HKW.out.block pb hpb hpF
          rw [← hpc k p hpp]
          simp [World.cell?, h1]
        obtain ⟨n, hn, hn1, hn2⟩ : ∃ n : Nat, (if (if (256 : Int) < p then 256 else p) < 0 then 0 else if (256 : Int) < p then 256 else p) = (n : Int) ∧ (max (min p 256) 0).toNat = n ∧ n ≤ 256 :=
          ⟨(max (min p 256) 0).toNat, by split <;> (try split) <;> omega, rfl, by omega⟩
        have HP := Lib.hid (And.intro hn (show part (ps.drop k) = n by rw [part_some hpp]; exact hn1))
        have hn3 : (n : Int) ≤ 256 := by omega
        clear hpp hpF hpb hpc hpk hn1 hn
        go_upto_region 6 with fail
        rw [HP.out.1]
        obtain ⟨q, hq⟩ : ∃ q, (if (256 : Int) < p then 256 else p) = q := ⟨_, rfl⟩
        rw [hq]
        clear hq
        go_wp2_with (with_reducible refine wpList_pl 27 rfl ?_)
        refine plv1 26 (v := ?_) (W' := ?_) (by rfl) (by rfl) (fun ev hc hf h0 => ?_) ?_; rotate_left 2; (focus (go_simp; constructor <;> with_reducible rfl)); simp only [Act.put, List.setIfInBounds_toArray, List.set_cons_zero, List.set_cons_succ]
        refine plv1 27 (v := ?_) (W' := ?_) (by rfl) (by rfl) (fun ev hc hf h0 => ?_) ?_; rotate_left 2; (focus (go_simp; constructor <;> with_reducible rfl)); simp only [Act.put, List.setIfInBounds_toArray, List.set_cons_zero, List.set_cons_succ]
        refine plv1 28 (v := ?_) (W' := ?_) (by rfl) (by rfl) (fun ev hc hf h0 => ?_) ?_; rotate_left 2; (focus (go_simp; constructor <;> with_reducible rfl)); simp only [Act.put, List.setIfInBounds_toArray, List.set_cons_zero, List.set_cons_succ]
        refine plv1 4 (v := ?_) (W' := ?_) (by rfl) (by rfl) (fun ev hc hf h0 => ?_) ?_; rotate_left 2; (focus (go_simp; constructor <;> with_reducible rfl)); simp only [Act.put, List.setIfInBounds_toArray, List.set_cons_zero, List.set_cons_succ]
        refine plv2 29 30 (v := ?_) (W' := ?_) (by rfl) (by rfl) (by rfl) (fun ev hc hf h0 h1 => ?_) ?_; rotate_left 2; (focus (go_simp; constructor <;> with_reducible rfl)); simp only [Act.put, List.setIfInBounds_toArray, List.set_cons_zero, List.set_cons_succ]
        refine plv1 31 (v := ?_) (W' := ?_) (by rfl) (by rfl) (fun ev hc hf h0 => ?_) ?_; rotate_left 2; (focus (go_simp; constructor <;> with_reducible rfl)); simp only [Act.put, List.setIfInBounds_toArray, List.set_cons_zero, List.set_cons_succ]
        refine plv0 (v := ?_) (W' := ?_) (by rfl) (fun ev hc hf  => ?_) ?_; rotate_left 2; (focus (go_simp; constructor <;> with_reducible rfl)); simp only [Act.put, List.setIfInBounds_toArray, List.set_cons_zero, List.set_cons_succ]
        refine pls2 6 32 (W' := ?_) (by rfl) (by rfl) (by rfl) (fun ev hc hf h0 h1 => ?_) ?_; rotate_left 1; (focus (go_simp; with_reducible rfl)); simp only [Act.put, List.setIfInBounds_toArray, List.set_cons_zero, List.set_cons_succ]
        refine pl_nil ?_
        rw [← HW2.out]
        clear c0 hc1 cx cy
        go_upto_region 7 with fail
        refine wp_sq 21 (by kernel_rfl) ?_
        simp only [List.take_succ_cons, List.take_zero, List.drop_succ_cons, List.drop_zero]
        refine sqv1 0 (v := ?_) (by rfl) (by rfl) (fun ev hc hf h0 => ?_) ?_; rotate_left; (focus (first | (go_simp; done) | (go_simp; with_reducible rfl))); rotate_left; simp only [Act.put, List.setIfInBounds_toArray, List.set_cons_zero, List.set_cons_succ]
        refine sqv1 33 (v := ?_) (by rfl) (by rfl) (fun ev hc hf h0 => ?_) ?_; rotate_left; (focus (first | (go_simp; done) | (go_simp; with_reducible rfl))); rotate_left; simp only [Act.put, List.setIfInBounds_toArray, List.set_cons_zero, List.set_cons_succ]
        refine sqv1 34 (v := ?_) (by rfl) (by rfl) (fun ev hc hf h0 => ?_) ?_; rotate_left; (focus (first | (go_simp; done) | (go_simp; with_reducible rfl))); rotate_left; simp only [Act.put, List.setIfInBounds_toArray, List.set_cons_zero, List.set_cons_succ]
        refine sqv1 35 (v := ?_) (by rfl) (by rfl) (fun ev hc hf h0 => ?_) ?_; rotate_left; (focus (obtain ⟨q0, q1, q2, q3⟩ := C.out; first | (go_simp; done) | (go_simp; with_reducible rfl))); rotate_left; simp only [Act.put, List.setIfInBounds_toArray, List.set_cons_zero, List.set_cons_succ]
        refine sqv1 6 (v := ?_) (by rfl) (by rfl) (fun ev hc hf h0 => ?_) ?_; rotate_left; (focus (first | (go_simp; done) | (go_simp; with_reducible rfl))); rotate_left; simp only [Act.put, List.setIfInBounds_toArray, List.set_cons_zero, List.set_cons_succ]
        refine sqv1 37 (v := ?_) (by rfl) (by rfl) (fun ev hc hf h0 => ?_) ?_; rotate_left; (focus (obtain ⟨q0, q1, q2, q3⟩ := C.out; first | (go_simp; done) | (go_simp; with_reducible rfl))); rotate_left; simp only [Act.put, List.setIfInBounds_toArray, List.set_cons_zero, List.set_cons_succ]
        refine sqv1 6 (v := ?_) (by rfl) (by rfl) (fun ev hc hf h0 => ?_) ?_; rotate_left; (focus (first | (go_simp; done) | (go_simp; with_reducible rfl))); rotate_left; simp only [Act.put, List.setIfInBounds_toArray, List.set_cons_zero, List.set_cons_succ]
        refine sqv1 39 (v := ?_) (by rfl) (by rfl) (fun ev hc hf h0 => ?_) ?_; rotate_left; (focus (obtain ⟨q0, q1, q2, q3⟩ := C.out; first | (go_simp; done) | (go_simp; with_reducible rfl))); rotate_left; simp only [Act.put, List.setIfInBounds_toArray, List.set_cons_zero, List.set_cons_succ]
        refine sqv1 5 (v := ?_) (by rfl) (by rfl) (fun ev hc hf h0 => ?_) ?_; rotate_left; (focus (first | (go_simp; done) | (go_simp; with_reducible rfl))); rotate_left; simp only [Act.put, List.setIfInBounds_toArray, List.set_cons_zero, List.set_cons_succ]
        refine sqv2 40 41 (v := ?_) (by rfl) (by rfl) (by rfl) (fun ev hc hf h0 h1 => ?_) ?_; rotate_left; (focus (first | (go_simp; done) | (go_simp; with_reducible rfl))); rotate_left; simp only [Act.put, List.setIfInBounds_toArray, List.set_cons_zero, List.set_cons_succ]
        refine sqv1 0 (v := ?_) (by rfl) (by rfl) (fun ev hc hf h0 => ?_) ?_; rotate_left; (focus (first | (go_simp; done) | (go_simp; with_reducible rfl))); rotate_left; simp only [Act.put, List.setIfInBounds_toArray, List.set_cons_zero, List.set_cons_succ]
        refine sqv1 43 (v := ?_) (by rfl) (by rfl) (fun ev hc hf h0 => ?_) ?_; rotate_left; (focus (first | (go_simp; done) | (go_simp; with_reducible rfl))); rotate_left; simp only [Act.put, List.setIfInBounds_toArray, List.set_cons_zero, List.set_cons_succ]
        refine sqv1 44 (v := ?_) (by rfl) (by rfl) (fun ev hc hf h0 => ?_) ?_; rotate_left; (focus (first | (go_simp; done) | (go_simp; with_reducible rfl))); rotate_left; simp only [Act.put, List.setIfInBounds_toArray, List.set_cons_zero, List.set_cons_succ]
        refine sqv1 45 (v := ?_) (by rfl) (by rfl) (fun ev hc hf h0 => ?_) ?_; rotate_left; (focus (obtain ⟨q0, q1, q2, q3⟩ := C.out; first | (go_simp; done) | (go_simp; with_reducible rfl))); rotate_left; simp only [Act.put, List.setIfInBounds_toArray, List.set_cons_zero, List.set_cons_succ]
        refine sqv1 6 (v := ?_) (by rfl) (by rfl) (fun ev hc hf h0 => ?_) ?_; rotate_left; (focus (first | (go_simp; done) | (go_simp; with_reducible rfl))); rotate_left; simp only [Act.put, List.setIfInBounds_toArray, List.set_cons_zero, List.set_cons_succ]
        refine sqv1 47 (v := ?_) (by rfl) (by rfl) (fun ev hc hf h0 => ?_) ?_; rotate_left; (focus (obtain ⟨q0, q1, q2, q3⟩ := C.out; first | (go_simp; done) | (go_simp; with_reducible rfl))); rotate_left; simp only [Act.put, List.setIfInBounds_toArray, List.set_cons_zero, List.set_cons_succ]
        refine sqv2 46 48 (v := ?_) (by rfl) (by rfl) (by rfl) (fun ev hc hf h0 h1 => ?_) ?_; rotate_left; (focus (first | (go_simp; done) | (go_simp; with_reducible rfl))); rotate_left; simp only [Act.put, List.setIfInBounds_toArray, List.set_cons_zero, List.set_cons_succ]
        refine sqv1 49 (v := ?_) (by rfl) (by rfl) (fun ev hc hf h0 => ?_) ?_; rotate_left; (focus (obtain ⟨q0, q1, q2, q3⟩ := C.out; first | (go_simp; done) | (go_simp; with_reducible rfl))); rotate_left; simp only [Act.put, List.setIfInBounds_toArray, List.set_cons_zero, List.set_cons_succ]
        refine sqv1 5 (v := ?_) (by rfl) (by rfl) (fun ev hc hf h0 => ?_) ?_; rotate_left; (focus (first | (go_simp; done) | (go_simp; with_reducible rfl))); rotate_left; simp only [Act.put, List.setIfInBounds_toArray, List.set_cons_zero, List.set_cons_succ]
        refine sqv2 50 51 (v := ?_) (by rfl) (by rfl) (by rfl) (fun ev hc hf h0 h1 => ?_) ?_; rotate_left; (focus (first | (go_simp; done) | (go_simp; with_reducible rfl))); rotate_left; simp only [Act.put, List.setIfInBounds_toArray, List.set_cons_zero, List.set_cons_succ]
        refine sqv2 42 52 (v := ?_) (by rfl) (by rfl) (by rfl) (fun ev hc hf h0 h1 => ?_) ?_; rotate_left; (focus (first | (go_simp; done) | (go_simp; with_reducible rfl))); rotate_left; simp only [Act.put, List.setIfInBounds_toArray, List.set_cons_zero, List.set_cons_succ]
        refine sq_nil ?_
        obtain ⟨hS, hSl, hD, hK, hlt, hx, hxo, hbN, hstr, hsty, hy⟩ := Y.out
        have hyl : y.length = 256 := hD.ok.all y (List.mem_of_getElem? hy)
        obtain ⟨s3, hs3⟩ : ∃ s3, (⟨(x.2.take n ++ y.drop n).toArray⟩ : ByteArray) = s3 := ⟨_, rfl⟩
        have hcat : str.extract 0 n ++ sty.extract n 256 = s3 := by
          rw [← hstr, ← hsty, ← hs3]
          exact cat_bytes x.2 y n (by omega) hyl
        rw [hcat]
        have hd3 := RefIn.setS (d := { d with S := S }) (hD.bel ((Below.refl w2.heap.size w2).drew)) hSl.symm bN (by omega) (x.2.take n ++ y.drop n) (by rw [List.length_append, List.length_take, List.length_drop]; omega)
        rw [show strV (x.2.take n ++ y.drop n) = .string s3 by unfold strV; rw [hs3]] at hd3
        have htf : S.set bN (x.2.take n ++ y.drop n) = tear S x n := by
          unfold tear
          rw [hbN, Int.toNat_natCast, List.getD_eq_getElem?_getD, hy]
          rfl
        rw [htf] at hd3
        have hk3 : Kept F W (w2.drew.setCell ⟨gs, bN, none⟩ (.string s3)) := (hK.trans (show Kept F w2 w2.drew from ⟨rfl, rfl, rfl, Nat.le_refl _, fun _ _ _ => rfl⟩)).set (hD.hs gs rfl) _
        have Q3 := Lib.hid (show RefIn B F ((w2.setCell ⟨gs, bN, none⟩ (.string s3)).drew) r (.slice (some ⟨gs, 0, none⟩) d.S.length cs) lv { d with S := tear S x n } ∧ Kept F W ((w2.setCell ⟨gs, bN, none⟩ (.string s3)).drew) from ⟨hd3, hk3⟩)
        have HR := Lib.hid (show crashS (d.L.drop (k + 1)) (ps.drop (k + 1)) (tear S x n) = crashS d.L ps d.S by rw [← hS, crash_step hx, HP.out.2])
        have HLT := Lib.hid (And.intro hlt hSl)
        clear hS hSl hD hK hlt hx hxo hbN hstr hsty hy hyl hs3 hcat hd3 htf hk3 Y
        refine PL.out ?_
        refine plv2 36 38 (v := ?_) (W' := ?_) (by rfl) (by rfl) (by rfl) (fun ev hc hf h0 h1 => ?_) ?_; rotate_left 2; (focus (go_simp; constructor <;> with_reducible rfl)); simp only [Act.put, List.setIfInBounds_toArray, List.set_cons_zero, List.set_cons_succ]
        refine pls2 54 53 (W' := ?_) (by rfl) (by rfl) (by rfl) (fun ev hc hf h0 h1 => ?_) ?_; rotate_left 1; (focus (have g1 := G.out.1; have g2 := G.out.2; go_simp; with_reducible rfl)); simp only [Act.put, List.setIfInBounds_toArray, List.set_cons_zero, List.set_cons_succ]
        refine pl_nil ?_
        clear C G
        generalize (w2.setCell ⟨gs, bN, none⟩ (.string s3)).drew = w5 at Q3 ⊢
        go_wp2_with fail
        refine ⟨⟨k + 1, tear S x n, by have := HLT.out.1; omega, by simp, HR.out, by rw [tear_len]; exact HLT.out.2, Q3.out.1, Q3.out.2⟩, ?_⟩
        simp [intOf]
        have := HLT.out.1
        omega
      · have hpi : ¬ ((k : Int) < (ps.length : Int)) := by omega
        obtain ⟨n, hn0⟩ : ∃ n : Nat, n = 0 := ⟨0, rfl⟩
        have e0 : (0 : Int) = (n : Int) := by omega
        have hn2 : n ≤ 256 := by omega
        have hn3 : (n : Int) ≤ 256 := by omega
        have HP := Lib.hid (And.intro True.intro (show part (ps.drop k) = n by rw [part_none (by omega)]; exact hn0.symm))
        clear hpk hn0
        have HE := Lib.hid e0
        clear e0
        go_upto_region 6 with fail
        rw [HE.out]
        go_wp2_with (with_reducible refine wpList_pl 27 rfl ?_)
        refine plv1 26 (v := ?_) (W' := ?_) (by rfl) (by rfl) (fun ev hc hf h0 => ?_) ?_; rotate_left 2; (focus (go_simp; constructor <;> with_reducible rfl)); simp only [Act.put, List.setIfInBounds_toArray, List.set_cons_zero, List.set_cons_succ]
        refine plv1 27 (v := ?_) (W' := ?_) (by rfl) (by rfl) (fun ev hc hf h0 => ?_) ?_; rotate_left 2; (focus (go_simp; constructor <;> with_reducible rfl)); simp only [Act.put, List.setIfInBounds_toArray, List.set_cons_zero, List.set_cons_succ]
        refine plv1 28 (v := ?_) (W' := ?_) (by rfl) (by rfl) (fun ev hc hf h0 => ?_) ?_; rotate_left 2; (focus (go_simp; constructor <;> with_reducible rfl)); simp only [Act.put, List.setIfInBounds_toArray, List.set_cons_zero, List.set_cons_succ]
        refine plv1 4 (v := ?_) (W' := ?_) (by rfl) (by rfl) (fun ev hc hf h0 => ?_) ?_; rotate_left 2; (focus (go_simp; constructor <;> with_reducible rfl)); simp only [Act.put, List.setIfInBounds_toArray, List.set_cons_zero, List.set_cons_succ]
        refine plv2 29 30 (v := ?_) (W' := ?_) (by rfl) (by rfl) (by rfl) (fun ev hc hf h0 h1 => ?_) ?_; rotate_left 2; (focus (go_simp; constructor <;> with_reducible rfl)); simp only [Act.put, List.setIfInBounds_toArray, List.set_cons_zero, List.set_cons_succ]
        refine plv1 31 (v := ?_) (W' := ?_) (by rfl) (by rfl) (fun ev hc hf h0 => ?_) ?_; rotate_left 2; (focus (go_simp; constructor <;> with_reducible rfl)); simp only [Act.put, List.setIfInBounds_toArray, List.set_cons_zero, List.set_cons_succ]
        refine plv0 (v := ?_) (W' := ?_) (by rfl) (fun ev hc hf  => ?_) ?_; rotate_left 2; (focus (go_simp; constructor <;> with_reducible rfl)); simp only [Act.put, List.setIfInBounds_toArray, List.set_cons_zero, List.set_cons_succ]
        refine pls2 6 32 (W' := ?_) (by rfl) (by rfl) (by rfl) (fun ev hc hf h0 h1 => ?_) ?_; rotate_left 1; (focus (go_simp; with_reducible rfl)); simp only [Act.put, List.setIfInBounds_toArray, List.set_cons_zero, List.set_cons_succ]
        refine pl_nil ?_
        rw [← HW2.out]
        clear c0 hc1 cx cy
        go_upto_region 7 with fail
        refine wp_sq 21 (by kernel_rfl) ?_
        simp only [List.take_succ_cons, List.take_zero, List.drop_succ_cons, List.drop_zero]
        refine sqv1 0 (v := ?_) (by rfl) (by rfl) (fun ev hc hf h0 => ?_) ?_; rotate_left; (focus (first | (go_simp; done) | (go_simp; with_reducible rfl))); rotate_left; simp only [Act.put, List.setIfInBounds_toArray, List.set_cons_zero, List.set_cons_succ]
        refine sqv1 33 (v := ?_) (by rfl) (by rfl) (fun ev hc hf h0 => ?_) ?_; rotate_left; (focus (first | (go_simp; done) | (go_simp; with_reducible rfl))); rotate_left; simp only [Act.put, List.setIfInBounds_toArray, List.set_cons_zero, List.set_cons_succ]
        refine sqv1 34 (v := ?_) (by rfl) (by rfl) (fun ev hc hf h0 => ?_) ?_; rotate_left; (focus (first | (go_simp; done) | (go_simp; with_reducible rfl))); rotate_left; simp only [Act.put, List.setIfInBounds_toArray, List.set_cons_zero, List.set_cons_succ]
        refine sqv1 35 (v := ?_) (by rfl) (by rfl) (fun ev hc hf h0 => ?_) ?_; rotate_left; (focus (obtain ⟨q0, q1, q2, q3⟩ := C.out; first | (go_simp; done) | (go_simp; with_reducible rfl))); rotate_left; simp only [Act.put, List.setIfInBounds_toArray, List.set_cons_zero, List.set_cons_succ]
        refine sqv1 6 (v := ?_) (by rfl) (by rfl) (fun ev hc hf h0 => ?_) ?_; rotate_left; (focus (first | (go_simp; done) | (go_simp; with_reducible rfl))); rotate_left; simp only [Act.put, List.setIfInBounds_toArray, List.set_cons_zero, List.set_cons_succ]
        refine sqv1 37 (v := ?_) (by rfl) (by rfl) (fun ev hc hf h0 => ?_) ?_; rotate_left; (focus (obtain ⟨q0, q1, q2, q3⟩ := C.out; first | (go_simp; done) | (go_simp; with_reducible rfl))); rotate_left; simp only [Act.put, List.setIfInBounds_toArray, List.set_cons_zero, List.set_cons_succ]
        refine sqv1 6 (v := ?_) (by rfl) (by rfl) (fun ev hc hf h0 => ?_) ?_; rotate_left; (focus (first | (go_simp; done) | (go_simp; with_reducible rfl))); rotate_left; simp only [Act.put, List.setIfInBounds_toArray, List.set_cons_zero, List.set_cons_succ]
        refine sqv1 39 (v := ?_) (by rfl) (by rfl) (fun ev hc hf h0 => ?_) ?_; rotate_left; (focus (obtain ⟨q0, q1, q2, q3⟩ := C.out; first | (go_simp; done) | (go_simp; with_reducible rfl))); rotate_left; simp only [Act.put, List.setIfInBounds_toArray, List.set_cons_zero, List.set_cons_succ]
        refine sqv1 5 (v := ?_) (by rfl) (by rfl) (fun ev hc hf h0 => ?_) ?_; rotate_left; (focus (first | (go_simp; done) | (go_simp; with_reducible rfl))); rotate_left; simp only [Act.put, List.setIfInBounds_toArray, List.set_cons_zero, List.set_cons_succ]
        refine sqv2 40 41 (v := ?_) (by rfl) (by rfl) (by rfl) (fun ev hc hf h0 h1 => ?_) ?_; rotate_left; (focus (first | (go_simp; done) | (go_simp; with_reducible rfl))); rotate_left; simp only [Act.put, List.setIfInBounds_toArray, List.set_cons_zero, List.set_cons_succ]
        refine sqv1 0 (v := ?_) (by rfl) (by rfl) (fun ev hc hf h0 => ?_) ?_; rotate_left; (focus (first | (go_simp; done) | (go_simp; with_reducible rfl))); rotate_left; simp only [Act.put, List.setIfInBounds_toArray, List.set_cons_zero, List.set_cons_succ]
        refine sqv1 43 (v := ?_) (by rfl) (by rfl) (fun ev hc hf h0 => ?_) ?_; rotate_left; (focus (first | (go_simp; done) | (go_simp; with_reducible rfl))); rotate_left; simp only [Act.put, List.setIfInBounds_toArray, List.set_cons_zero, List.set_cons_succ]
        refine sqv1 44 (v := ?_) (by rfl) (by rfl) (fun ev hc hf h0 => ?_) ?_; rotate_left; (focus (first | (go_simp; done) | (go_simp; with_reducible rfl))); rotate_left; simp only [Act.put, List.setIfInBounds_toArray, List.set_cons_zero, List.set_cons_succ]
        refine sqv1 45 (v := ?_) (by rfl) (by rfl) (fun ev hc hf h0 => ?_) ?_; rotate_left; (focus (obtain ⟨q0, q1, q2, q3⟩ := C.out; first | (go_simp; done) | (go_simp; with_reducible rfl))); rotate_left; simp only [Act.put, List.setIfInBounds_toArray, List.set_cons_zero, List.set_cons_succ]
        refine sqv1 6 (v := ?_) (by rfl) (by rfl) (fun ev hc hf h0 => ?_) ?_; rotate_left; (focus (first | (go_simp; done) | (go_simp; with_reducible rfl))); rotate_left; simp only [Act.put, List.setIfInBounds_toArray, List.set_cons_zero, List.set_cons_succ]
        refine sqv1 47 (v := ?_) (by rfl) (by rfl) (fun ev hc hf h0 => ?_) ?_; rotate_left; (focus (obtain ⟨q0, q1, q2, q3⟩ := C.out; first | (go_simp; done) | (go_simp; with_reducible rfl))); rotate_left; simp only [Act.put, List.setIfInBounds_toArray, List.set_cons_zero, List.set_cons_succ]
        refine sqv2 46 48 (v := ?_) (by rfl) (by rfl) (by rfl) (fun ev hc hf h0 h1 => ?_) ?_; rotate_left; (focus (first | (go_simp; done) | (go_simp; with_reducible rfl))); rotate_left; simp only [Act.put, List.setIfInBounds_toArray, List.set_cons_zero, List.set_cons_succ]
        refine sqv1 49 (v := ?_) (by rfl) (by rfl) (fun ev hc hf h0 => ?_) ?_; rotate_left; (focus (obtain ⟨q0, q1, q2, q3⟩ := C.out; first | (go_simp; done) | (go_simp; with_reducible rfl))); rotate_left; simp only [Act.put, List.setIfInBounds_toArray, List.set_cons_zero, List.set_cons_succ]
        refine sqv1 5 (v := ?_) (by rfl) (by rfl) (fun ev hc hf h0 => ?_) ?_; rotate_left; (focus (first | (go_simp; done) | (go_simp; with_reducible rfl))); rotate_left; simp only [Act.put, List.setIfInBounds_toArray, List.set_cons_zero, List.set_cons_succ]
        refine sqv2 50 51 (v := ?_) (by rfl) (by rfl) (by rfl) (fun ev hc hf h0 h1 => ?_) ?_; rotate_left; (focus (first | (go_simp; done) | (go_simp; with_reducible rfl))); rotate_left; simp only [Act.put, List.setIfInBounds_toArray, List.set_cons_zero, List.set_cons_succ]
        refine sqv2 42 52 (v := ?_) (by rfl) (by rfl) (by rfl) (fun ev hc hf h0 h1 => ?_) ?_; rotate_left; (focus (first | (go_simp; done) | (go_simp; with_reducible rfl))); rotate_left; simp only [Act.put, List.setIfInBounds_toArray, List.set_cons_zero, List.set_cons_succ]
        refine sq_nil ?_
        obtain ⟨hS, hSl, hD, hK, hlt, hx, hxo, hbN, hstr, hsty, hy⟩ := Y.out
        have hyl : y.length = 256 := hD.ok.all y (List.mem_of_getElem? hy)
        obtain ⟨s3, hs3⟩ : ∃ s3, (⟨(x.2.take n ++ y.drop n).toArray⟩ : ByteArray) = s3 := ⟨_, rfl⟩
        have hcat : str.extract 0 n ++ sty.extract n 256 = s3 := by
          rw [← hstr, ← hsty, ← hs3]
          exact cat_bytes x.2 y n (by omega) hyl
        rw [hcat]
        have hd3 := RefIn.setS (d := { d with S := S }) (hD.bel ((Below.refl w2.heap.size w2).drew)) hSl.symm bN (by omega) (x.2.take n ++ y.drop n) (by rw [List.length_append, List.length_take, List.length_drop]; omega)
        rw [show strV (x.2.take n ++ y.drop n) = .string s3 by unfold strV; rw [hs3]] at hd3
        have htf : S.set bN (x.2.take n ++ y.drop n) = tear S x n := by
          unfold tear
          rw [hbN, Int.toNat_natCast, List.getD_eq_getElem?_getD, hy]
          rfl
        rw [htf] at hd3
        have hk3 : Kept F W (w2.drew.setCell ⟨gs, bN, none⟩ (.string s3)) := (hK.trans (show Kept F w2 w2.drew from ⟨rfl, rfl, rfl, Nat.le_refl _, fun _ _ _ => rfl⟩)).set (hD.hs gs rfl) _
        have Q3 := Lib.hid (show RefIn B F ((w2.setCell ⟨gs, bN, none⟩ (.string s3)).drew) r (.slice (some ⟨gs, 0, none⟩) d.S.length cs) lv { d with S := tear S x n } ∧ Kept F W ((w2.setCell ⟨gs, bN, none⟩ (.string s3)).drew) from ⟨hd3, hk3⟩)
        have HR := Lib.hid (show crashS (d.L.drop (k + 1)) (ps.drop (k + 1)) (tear S x n) = crashS d.L ps d.S by rw [← hS, crash_step hx, HP.out.2])
        have HLT := Lib.hid (And.intro hlt hSl)
        clear hS hSl hD hK hlt hx hxo hbN hstr hsty hy hyl hs3 hcat hd3 htf hk3 Y
        refine PL.out ?_
        refine plv2 36 38 (v := ?_) (W' := ?_) (by rfl) (by rfl) (by rfl) (fun ev hc hf h0 h1 => ?_) ?_; rotate_left 2; (focus (go_simp; constructor <;> with_reducible rfl)); simp only [Act.put, List.setIfInBounds_toArray, List.set_cons_zero, List.set_cons_succ]
        refine pls2 54 53 (W' := ?_) (by rfl) (by rfl) (by rfl) (fun ev hc hf h0 h1 => ?_) ?_; rotate_left 1; (focus (have g1 := G.out.1; have g2 := G.out.2; go_simp; with_reducible rfl)); simp only [Act.put, List.setIfInBounds_toArray, List.set_cons_zero, List.set_cons_succ]
        refine pl_nil ?_
        clear C G
        generalize (w2.setCell ⟨gs, bN, none⟩ (.string s3)).drew = w5 at Q3 ⊢
        go_wp2_with fail
        refine ⟨⟨k + 1, tear S x n, by have := HLT.out.1; omega, by simp, HR.out, by rw [tear_len]; exact HLT.out.2, Q3.out.1, Q3.out.2⟩, ?_⟩
        simp [intOf]
        have := HLT.out.1
        omega
    · obtain rfl : k = d.L.length := by omega
      rw [List.drop_length] at hS
      have hS' : S = crashS d.L ps d.S := hS
      subst hS'
      have f1 := hD.at_r.free 1
      have f2 := hD.at_r.free 2
      have c2 := hD.cells.2.2
      have Q := Lib.hid (And.intro hD hK)
      clear hD hK hS hSl hlt hk c0 hlv hlv' hA
      go_wp2_with fail
      go_end0
      refine ⟨⟨_, rfl⟩, ?_, (Q.out.2.set Q.out.1.hr _).set Q.out.1.hr _⟩
      have h1 := Q.out.1.dropL
      exact h1.setLeft (d.crash ps) rfl rfl ⟨h1.ok.pos, h1.ok.few, h1.ok.all, h1.ok.loose, by simp [Dsk.crash], h1.ok.big⟩

end Go.Proofs.Ytbobbekbliichaa
