import Derived.Test.YtlgljcfkoakogaaB8
import Derived.Test.YtlgljcfkoakogaaB6
import Derived.Deep.DeepCutAuto
namespace Go.Proofs.Ytlgljcfkoakogaa
open Go.RowKit
set_option linter.unusedSimpArgs false
set_option linter.unusedVariables false


theorem prep_cases3 (a : Acc) (r n : Int) : (∃ c, prep a r n = (false, Acc.zero, c, a)) ∨ (prep a r n = (true, a, 0, a.promise r n) ∧ aboveB a.pr a.pn r n = false ∧ namedB r n = true) := by
  unfold prep
  split
  · split
    · exact .inl ⟨_, rfl⟩
    · refine .inr ⟨rfl, ?_, by assumption⟩
      have h1 := cmpB_above a.pr a.pn r n
      have h2 := cmpB_sym r n a.pr a.pn
      exact h1.1 (by omega)
  · exact .inl ⟨_, rfl⟩
theorem acpt_cases3 (a : Acc) (r n : Int) (v : ByteArray) : (∃ c, acpt a r n v = (false, c, a)) ∨ (acpt a r n v = (true, 0, Acc.accept r n v) ∧ aboveB a.pr a.pn r n = false ∧ namedB r n = true ∧ v.size ≤ 8192) := by
  unfold acpt
  split
  · split
    · exact .inl ⟨_, rfl⟩
    · split
      · exact .inl ⟨_, rfl⟩
      · refine .inr ⟨rfl, ?_, by assumption, by omega⟩
        have h1 := cmpB_above a.pr a.pn r n
        have h2 := cmpB_sym r n a.pr a.pn
        exact h1.1 (by omega)
  · exact .inl ⟨_, rfl⟩


set_option maxRecDepth 100000 in
set_option maxHeartbeats 51200000 in
theorem plays_walk (pr pn : Int) (has : Bool) (vr vn : Int) (val : ByteArray) (A : Option Addr) (cap : Nat) (l : List Stp) (w : World) (hvs : val.size ≤ 9223372036854775807) (hx : StepsAt w A l) (hl : l.length ≤ 9223372036854775807) (hoks : ∀ s ∈ l, s.ok) :
    Calls Try.prog 9 #[.agg #[.int .u64 pr, .int .i64 pn], .agg #[.bool has, .int .u64 vr, .int .i64 vn, .string val], .slice A l.length cap] w fun e w' => e = .returned (.bool true) ∧ Below w.heap.size w w' := by
  have hbb : Below w.heap.size w ((w.alloc (.cells #[.int .u64 pr, .int .i64 pn] 24)).alloc (.cells #[.bool has, .int .u64 vr, .int .i64 vn, .string val] 46)) := ((Below.refl _ _).alloc (Nat.le_refl _) _).alloc (by simp) _
  have kp := (Bk.new w #[.int .u64 pr, .int .i64 pn] 24).alloc (.cells #[.bool has, .int .u64 vr, .int .i64 vn, .string val] 46)
  have kv := Bk.new (w.alloc (.cells #[.int .u64 pr, .int .i64 pn] 24)) #[.bool has, .int .u64 vr, .int .i64 vn, .string val] 46
  rw [World.size_alloc] at kv
  have HX1 := Lib.hid (hx.bel hbb)
  have HX0 := Lib.hid hx
  clear hx
  go_enter Try.func9, Try.ntmps9
  go_wp2_with fail
  refine (heavy12_any A cap l _ HX1.out hl).mono ?_
  rintro e w0 ⟨b, rfl, rfl⟩
  generalize (w.alloc (.cells #[.int .u64 pr, .int .i64 pn] 24)).alloc (.cells #[.bool has, .int .u64 vr, .int .i64 vn, .string val] 46) = w0 at *
  cases b
  rotate_left
  · go_wp2_with (go_at_call 28; refine (works12_any _).mono ?_; rintro e w' ⟨rfl, hbw⟩)
    go_ret
    exact ⟨rfl, hbb.trans (hbw.mono hbb.size)⟩
  by_cases hbig : (16384 : Int) < (val.size : Int)
  · obtain ⟨y0, y1, y2, y3, _, _, _, _⟩ := kv.vote
    go_wp2_with (go_at_call 28; refine (works12_any _).mono ?_; rintro e w' ⟨rfl, hbw⟩)
    go_ret
    exact ⟨rfl, hbb.trans (hbw.mono hbb.size)⟩
  obtain ⟨y0, y1, y2, y3, _, _, _, _⟩ := kv.vote
  have p0 : w0.cell? ⟨w.heap.size, 0, none⟩ = _ := kp.cell 0
  have p1 : w0.cell? ⟨w.heap.size, 1, none⟩ = _ := kp.cell 1
  simp at p0 p1
  go_wp2_with fail
  refine (load_any pr pn has vr vn val _ hvs).mono ?_
  rintro e w1 (⟨hx, rfl, hb1⟩ | ⟨hx, g, hg1, rfl, kg1, hb1⟩)
  · have kp1 := kp.bel hb1
    have kv1 := kv.bel hb1
    have HB1 := hbb.trans (hb1.mono hbb.size)
    clear y0 y1 y2 y3 p0 p1
    obtain ⟨y0, y1, y2, y3, _, _, _, _⟩ := kv1.vote
    have p0 : w1.cell? ⟨w.heap.size, 0, none⟩ = _ := kp1.cell 0
    have p1 : w1.cell? ⟨w.heap.size, 1, none⟩ = _ := kp1.cell 1
    simp at p0 p1
    go_wp2_with fail
    refine (mayLoad_any pr pn has vr vn val _ hvs).mono ?_
    rintro e w2 ⟨rfl, hb2⟩
    rw [hx]
    go_wp2_with (go_at_call 28; refine (works12_any _).mono ?_; rintro e w' ⟨rfl, hbw⟩)
    go_ret
    exact ⟨rfl, (HB1.trans (hb2.mono HB1.size)).trans (hbw.mono (HB1.trans (hb2.mono HB1.size)).size)⟩
  · have kp1 := kp.bel hb1
    have kv1 := kv.bel hb1
    have HB1 := hbb.trans (hb1.mono hbb.size)
    clear y0 y1 y2 y3 p0 p1
    obtain ⟨y0, y1, y2, y3, _, _, _, _⟩ := kv1.vote
    have p0 : w1.cell? ⟨w.heap.size, 0, none⟩ = _ := kp1.cell 0
    have p1 : w1.cell? ⟨w.heap.size, 1, none⟩ = _ := kp1.cell 1
    simp at p0 p1
    go_wp2_with fail
    refine (mayLoad_any pr pn has vr vn val _ hvs).mono ?_
    rintro e w2 ⟨rfl, hb2⟩
    rw [hx]
    clear hx y0 y1 y2 y3 p0 p1
    have kp3 := kp1.bel hb2
    have kv3 := kv1.bel hb2
    have kb3 := kg1.bel hb2
    have HB3 := HB1.trans (hb2.mono HB1.size)
    have hwg : w.heap.size ≤ g := Nat.le_trans hbb.size hg1
    have hgg : g < w2.heap.size := kb3.lt
    obtain ⟨y0, y1, y2, y3, _, _, _, _⟩ := kv3.vote
    have p0 : w2.cell? ⟨w.heap.size, 0, none⟩ = _ := kp3.cell 0
    have p1 : w2.cell? ⟨w.heap.size, 1, none⟩ = _ := kp3.cell 1
    simp at p0 p1
    clear kp1 kv1 kg1 HB1 hb2 hb1 hg1 kp3 kv3 kp kv
    have hx1 := HX0.out
    clear HX0 HX1
    go_upto_region 9 with fail
    clear y0 y1 y2 y3 p0 p1
    generalize hgr : w2.heap.size = gr at *
    have HX := Lib.hid hx1
    clear hx1
    go_wp2_with fail
    go_loopw [10] (fun i wr => ∃ (k : Nat) (a : Acc), k ≤ l.length ∧ i = .int .i64 k ∧ Bk wr g a.cells 116 ∧ Bk wr gr a.cells 63 ∧ Below w.heap.size w wr) (fun i _ => l.length + 1 - (intOf i).toNat)
    case atStart => exact ⟨0, Acc.mk pr pn has vr vn val, by omega, rfl, kb3.alloc _, by rw [← hgr]; exact Bk.new _ _ _, HB3.alloc HB3.size _⟩
    case round =>
      obtain ⟨k, a, hk, rfl, kb, kr, HB⟩ := hrel
      have hlk : (k : Int) ≤ (l.length : Int) := by omega
      have HS : ∀ W, Bel wr W → W.cell? ⟨gr, 0, none⟩ = some (.int .u64 a.pr) ∧ W.cell? ⟨gr, 1, none⟩ = some (.int .i64 a.pn) ∧ W.cell? ⟨gr, 2, none⟩ = some (.bool a.has) ∧ W.cell? ⟨gr, 3, none⟩ = some (.int .u64 a.vr) ∧ W.cell? ⟨gr, 4, none⟩ = some (.int .i64 a.vn) ∧ W.cell? ⟨gr, 5, none⟩ = some (.string a.val) :=
        fun W hW => ⟨(kr.bel hW).cell 0, (kr.bel hW).cell 1, (kr.bel hW).cell 2, (kr.bel hW).cell 3, (kr.bel hW).cell 4, (kr.bel hW).cell 5⟩
      have V1 : Hid (∀ W, Bel wr W → Calls Try.prog 31 #[.pointer (some ⟨g, 0, none⟩)] W fun e W' => e = .returned (.agg #[.int .u64 a.pr, .int .i64 a.pn]) ∧ Below W.heap.size W W') := Lib.hid (fun W hW => promised_any g a W (kb.bel hW))
      have V2 : Hid (∀ W, Bel wr W → Calls Try.prog 32 #[.pointer (some ⟨g, 0, none⟩)] W fun e W' => e = .returned (.agg #[.bool a.has, .int .u64 a.vr, .int .i64 a.vn, .string a.val]) ∧ Below W.heap.size W W') := Lib.hid (fun W hW => vote_any g a W (kb.bel hW))
      go_upto_region 12 with fail
      refine wp_qw (by kernel_rfl) ?_
      (refine qv1 7 (v := ?_) (by rfl) (by rfl) (fun ev hc hf h0 W hW => ?_) ?_; rotate_left; (focus (obtain ⟨c0, c1, c2, c3, c4, c5⟩ := HS W hW; first | (go_simp; done) | (go_simp; with_reducible rfl))); rotate_left; simp only [Act.put, List.setIfInBounds_toArray, List.set_cons_zero, List.set_cons_succ])
      (refine qc1 66 _ _ _ (by rfl) (by rfl) (fun ev hc hf h0 W hW => ?_) (fun W hW => q_calls hW (V1.out W hW)) ?_; (focus (obtain ⟨c0, c1, c2, c3, c4, c5⟩ := HS W hW; go_simp; done)); simp only [Act.put, List.setIfInBounds_toArray, List.set_cons_zero, List.set_cons_succ])
      (refine qv1 9 (v := ?_) (by rfl) (by rfl) (fun ev hc hf h0 W hW => ?_) ?_; rotate_left; (focus (obtain ⟨c0, c1, c2, c3, c4, c5⟩ := HS W hW; first | (go_simp; done) | (go_simp; with_reducible rfl))); rotate_left; simp only [Act.put, List.setIfInBounds_toArray, List.set_cons_zero, List.set_cons_succ])
      (refine qv1 68 (v := ?_) (by rfl) (by rfl) (fun ev hc hf h0 W hW => ?_) ?_; rotate_left; (focus (obtain ⟨c0, c1, c2, c3, c4, c5⟩ := HS W hW; first | (go_simp; done) | (go_simp; with_reducible rfl))); rotate_left; simp only [Act.put, List.setIfInBounds_toArray, List.set_cons_zero, List.set_cons_succ])
      (refine qv1 69 (v := ?_) (by rfl) (by rfl) (fun ev hc hf h0 W hW => ?_) ?_; rotate_left; (focus (obtain ⟨c0, c1, c2, c3, c4, c5⟩ := HS W hW; first | (go_simp; done) | (go_simp; with_reducible rfl))); rotate_left; simp only [Act.put, List.setIfInBounds_toArray, List.set_cons_zero, List.set_cons_succ])
      (refine qv1 70 (v := ?_) (by rfl) (by rfl) (fun ev hc hf h0 W hW => ?_) ?_; rotate_left; (focus (obtain ⟨c0, c1, c2, c3, c4, c5⟩ := HS W hW; first | (go_simp; done) | (go_simp; with_reducible rfl))); rotate_left; simp only [Act.put, List.setIfInBounds_toArray, List.set_cons_zero, List.set_cons_succ])
      (refine qv2 67 71 (v := ?_) (by rfl) (by rfl) (by rfl) (fun ev hc hf h0 h1 W hW => ?_) ?_; rotate_left; (focus (obtain ⟨c0, c1, c2, c3, c4, c5⟩ := HS W hW; first | (go_simp; done) | (go_simp; with_reducible rfl))); rotate_left; simp only [Act.put, List.setIfInBounds_toArray, List.set_cons_zero, List.set_cons_succ])
      (refine qv1 72 (v := ?_) (by rfl) (by rfl) (fun ev hc hf h0 W hW => ?_) ?_; rotate_left; (focus (obtain ⟨c0, c1, c2, c3, c4, c5⟩ := HS W hW; first | (go_simp; done) | (go_simp; with_reducible rfl))); rotate_left; simp only [Act.put, List.setIfInBounds_toArray, List.set_cons_zero, List.set_cons_succ])
      first
        | (refine qskip (by rfl) ?_; simp only [Act.put, List.setIfInBounds_toArray, List.set_cons_zero, List.set_cons_succ])
        | (refine qv1 7 (v := ?_) (by rfl) (by rfl) (fun ev hc hf h0 W hW => ?_) ?_; rotate_left; (focus (obtain ⟨c0, c1, c2, c3, c4, c5⟩ := HS W hW; first | (go_simp; done) | (go_simp; with_reducible rfl))); rotate_left; simp only [Act.put, List.setIfInBounds_toArray, List.set_cons_zero, List.set_cons_succ])
      first
        | (refine qskip (by rfl) ?_; simp only [Act.put, List.setIfInBounds_toArray, List.set_cons_zero, List.set_cons_succ])
        | (refine qc1 74 _ _ _ (by rfl) (by rfl) (fun ev hc hf h0 W hW => ?_) (fun W hW => q_calls hW (V2.out W hW)) ?_; (focus (obtain ⟨c0, c1, c2, c3, c4, c5⟩ := HS W hW; go_simp; done)); simp only [Act.put, List.setIfInBounds_toArray, List.set_cons_zero, List.set_cons_succ])
      first
        | (refine qskip (by rfl) ?_; simp only [Act.put, List.setIfInBounds_toArray, List.set_cons_zero, List.set_cons_succ])
        | (refine qv1 9 (v := ?_) (by rfl) (by rfl) (fun ev hc hf h0 W hW => ?_) ?_; rotate_left; (focus (obtain ⟨c0, c1, c2, c3, c4, c5⟩ := HS W hW; first | (go_simp; done) | (go_simp; with_reducible rfl))); rotate_left; simp only [Act.put, List.setIfInBounds_toArray, List.set_cons_zero, List.set_cons_succ])
      first
        | (refine qskip (by rfl) ?_; simp only [Act.put, List.setIfInBounds_toArray, List.set_cons_zero, List.set_cons_succ])
        | (refine qv1 76 (v := ?_) (by rfl) (by rfl) (fun ev hc hf h0 W hW => ?_) ?_; rotate_left; (focus (obtain ⟨c0, c1, c2, c3, c4, c5⟩ := HS W hW; first | (go_simp; done) | (go_simp; with_reducible rfl))); rotate_left; simp only [Act.put, List.setIfInBounds_toArray, List.set_cons_zero, List.set_cons_succ])
      first
        | (refine qskip (by rfl) ?_; simp only [Act.put, List.setIfInBounds_toArray, List.set_cons_zero, List.set_cons_succ])
        | (refine qv1 77 (v := ?_) (by rfl) (by rfl) (fun ev hc hf h0 W hW => ?_) ?_; rotate_left; (focus (obtain ⟨c0, c1, c2, c3, c4, c5⟩ := HS W hW; first | (go_simp; done) | (go_simp; with_reducible rfl))); rotate_left; simp only [Act.put, List.setIfInBounds_toArray, List.set_cons_zero, List.set_cons_succ])
      first
        | (refine qskip (by rfl) ?_; simp only [Act.put, List.setIfInBounds_toArray, List.set_cons_zero, List.set_cons_succ])
        | (refine qv1 78 (v := ?_) (by rfl) (by rfl) (fun ev hc hf h0 W hW => ?_) ?_; rotate_left; (focus (obtain ⟨c0, c1, c2, c3, c4, c5⟩ := HS W hW; first | (go_simp; done) | (go_simp; with_reducible rfl))); rotate_left; simp only [Act.put, List.setIfInBounds_toArray, List.set_cons_zero, List.set_cons_succ])
      first
        | (refine qskip (by rfl) ?_; simp only [Act.put, List.setIfInBounds_toArray, List.set_cons_zero, List.set_cons_succ])
        | (refine qv2 75 79 (v := ?_) (by rfl) (by rfl) (by rfl) (fun ev hc hf h0 h1 W hW => ?_) ?_; rotate_left; (focus (obtain ⟨c0, c1, c2, c3, c4, c5⟩ := HS W hW; first | (go_simp; done) | (go_simp; with_reducible rfl))); rotate_left; simp only [Act.put, List.setIfInBounds_toArray, List.set_cons_zero, List.set_cons_succ])
      (refine qv2 73 80 (v := ?_) (by rfl) (by rfl) (by rfl) (fun ev hc hf h0 h1 W hW => ?_) ?_; rotate_left; (focus (obtain ⟨c0, c1, c2, c3, c4, c5⟩ := HS W hW; first | (go_simp; done) | (go_simp; with_reducible rfl))); rotate_left; simp only [Act.put, List.setIfInBounds_toArray, List.set_cons_zero, List.set_cons_succ])
      refine qnil ?_
      intro w1 hW1
      have kb1 := kb.bel hW1
      have kr1 := kr.bel hW1
      have HB1 := HB.trans (Below.mono hW1 HB.size)
      clear V1 V2 HS kb kr HB hW1
      by_cases hlt : k < l.length
      · have hne : ¬ (k : Int) = (l.length : Int) := by omega
        obtain ⟨⟨r, n, acc, v⟩, hs⟩ : ∃ s, l[k]? = some s := ⟨_, List.getElem?_eq_getElem hlt⟩
        have hok : Stp.ok ⟨r, n, acc, v⟩ := hoks _ (List.mem_of_getElem? hs)
        obtain ⟨b, o, rfl, c0, c1, c2, c3⟩ : ∃ b o, A = some ⟨b, o, none⟩ ∧ StepAt w1 b (o + k * 4) ⟨r, n, acc, v⟩ := by
          rcases HX.out with h0 | ⟨b, o, e, h⟩
          · rw [h0] at hlt; simp at hlt
          · exact ⟨b, o, e, (h k _ hs).bel HB1⟩
        clear hs
        have hv := hok.2
        have zr1 := kr1.lt
        dsimp only at c0 c1 c2 c3 hv
        cases acc
        · go_wp2_with fail
          clear c0 c1 c2 c3
          refine (prepare_any g a r n _ (kb1.alloc _)).mono ?_
          rintro e w2 ⟨rfl, kb2, hg2⟩
          have kr2 := (kr1.alloc (.cells #[.int .u64 r, .int .i64 n, .bool false, .string v] 57)).grown hg2 (by intro e; injection e; omega)
          have ks2 := (Bk.new w1 #[.int .u64 r, .int .i64 n, .bool false, .string v] 57).grown hg2 (by intro e; injection e; omega)
          have HB2 := bel_grown (HB1.alloc HB1.size (.cells #[.int .u64 r, .int .i64 n, .bool false, .string v] 57)) hg2 (by have := HB1.size; simp; omega) hwg
          have s0 : w2.cell? ⟨w1.heap.size, 0, none⟩ = _ := ks2.cell 0
          have s1 : w2.cell? ⟨w1.heap.size, 1, none⟩ = _ := ks2.cell 1
          simp at s0 s1
          have z2 := ks2.lt
          have zr := kr2.lt
          clear hg2 kr1 kb1 HB1 ks2
          rcases prep_cases3 a r n with ⟨c, h⟩ | ⟨h, _, _⟩
          · rw [h] at kb2 ⊢
            simp only [Acc.vote, voteV, Acc.zero]
            go_wp2_with fail
            clear s0 s1
            refine (refPrepare_any gr a r n _ (kr2.alloc (.cells #[.bool false, .int .u64 0, .int .i64 0, .string ⟨#[]⟩] 46))).mono ?_
            rintro e w3 ⟨rfl, kr3, hg3⟩
            have kb3 := (kb2.alloc (.cells #[.bool false, .int .u64 0, .int .i64 0, .string ⟨#[]⟩] 46)).grown hg3 (by intro e; injection e; omega)
            have kv3 := (Bk.new w2 #[.bool false, .int .u64 0, .int .i64 0, .string ⟨#[]⟩] 46).grown hg3 (by intro e; injection e; omega)
            have HB3 := bel_grown (HB2.alloc HB2.size (.cells #[.bool false, .int .u64 0, .int .i64 0, .string ⟨#[]⟩] 46)) hg3 (by have := HB2.size; simp; omega) (by omega)
            clear hg3 kb2 kr2 HB2
            rw [h] at kr3 ⊢
            simp only [Acc.vote, voteV, Acc.zero]
            clear h
            have kb4 := kb3.alloc (.cells #[.bool false, .int .u64 0, .int .i64 0, .string ⟨#[]⟩] 46)
            have kr4 := kr3.alloc (.cells #[.bool false, .int .u64 0, .int .i64 0, .string ⟨#[]⟩] 46)
            have kv4 := kv3.alloc (.cells #[.bool false, .int .u64 0, .int .i64 0, .string ⟨#[]⟩] 46)
            have kx4 := Bk.new w3 #[.bool false, .int .u64 0, .int .i64 0, .string ⟨#[]⟩] 46
            have HB4 := HB3.alloc HB3.size (.cells #[.bool false, .int .u64 0, .int .i64 0, .string ⟨#[]⟩] 46)
            clear kb3 kr3 kv3 HB3
            go_upto_region 23 with fail
            generalize hw4 : w3.alloc (.cells #[.bool false, .int .u64 0, .int .i64 0, .string ⟨#[]⟩] 46) = w4 at *
            have HS : ∀ W, Bel w4 W → W.cell? ⟨w2.heap.size, 0, none⟩ = some (.bool false) ∧ W.cell? ⟨w2.heap.size, 1, none⟩ = some (.int .u64 0) ∧ W.cell? ⟨w2.heap.size, 2, none⟩ = some (.int .i64 0) ∧ W.cell? ⟨w2.heap.size, 3, none⟩ = some (.string ⟨#[]⟩) ∧ W.cell? ⟨w3.heap.size, 0, none⟩ = some (.bool false) ∧ W.cell? ⟨w3.heap.size, 1, none⟩ = some (.int .u64 0) ∧ W.cell? ⟨w3.heap.size, 2, none⟩ = some (.int .i64 0) ∧ W.cell? ⟨w3.heap.size, 3, none⟩ = some (.string ⟨#[]⟩) :=
              fun W hW => ⟨(kv4.bel hW).cell 0, (kv4.bel hW).cell 1, (kv4.bel hW).cell 2, (kv4.bel hW).cell 3, (kx4.bel hW).cell 0, (kx4.bel hW).cell 1, (kx4.bel hW).cell 2, (kx4.bel hW).cell 3⟩
            have KB := Lib.hid kb4
            have KR := Lib.hid kr4
            clear kb4 kr4 kv4 kx4 hw4
            go_wp2_with (with_reducible refine wpList_qw 136 rfl ?_)
            (refine qv2 134 135 (v := ?_) (by rfl) (by rfl) (by rfl) (fun ev hc hf h0 h1 W hW => ?_) ?_; rotate_left; (focus (obtain ⟨c0, c1, c2, c3, c4, c5, c6, c7⟩ := HS W hW; first | (go_simp; done) | (go_simp; with_reducible rfl))); rotate_left; simp only [Act.put, List.setIfInBounds_toArray, List.set_cons_zero, List.set_cons_succ])
            (refine qv1 136 (v := ?_) (by rfl) (by rfl) (fun ev hc hf h0 W hW => ?_) ?_; rotate_left; (focus (obtain ⟨c0, c1, c2, c3, c4, c5, c6, c7⟩ := HS W hW; first | (go_simp; done) | (go_simp; with_reducible rfl))); rotate_left; simp only [Act.put, List.setIfInBounds_toArray, List.set_cons_zero, List.set_cons_succ])
            first
              | (refine qskip (by rfl) ?_; simp only [Act.put, List.setIfInBounds_toArray, List.set_cons_zero, List.set_cons_succ])
              | (refine qv1 17 (v := ?_) (by rfl) (by rfl) (fun ev hc hf h0 W hW => ?_) ?_; rotate_left; (focus (obtain ⟨c0, c1, c2, c3, c4, c5, c6, c7⟩ := HS W hW; first | (go_simp; done) | (go_simp; with_reducible rfl))); rotate_left; simp only [Act.put, List.setIfInBounds_toArray, List.set_cons_zero, List.set_cons_succ])
            first
              | (refine qskip (by rfl) ?_; simp only [Act.put, List.setIfInBounds_toArray, List.set_cons_zero, List.set_cons_succ])
              | (refine qv1 20 (v := ?_) (by rfl) (by rfl) (fun ev hc hf h0 W hW => ?_) ?_; rotate_left; (focus (obtain ⟨c0, c1, c2, c3, c4, c5, c6, c7⟩ := HS W hW; first | (go_simp; done) | (go_simp; with_reducible rfl))); rotate_left; simp only [Act.put, List.setIfInBounds_toArray, List.set_cons_zero, List.set_cons_succ])
            first
              | (refine qskip (by rfl) ?_; simp only [Act.put, List.setIfInBounds_toArray, List.set_cons_zero, List.set_cons_succ])
              | (refine qv2 138 139 (v := ?_) (by rfl) (by rfl) (by rfl) (fun ev hc hf h0 h1 W hW => ?_) ?_; rotate_left; (focus (obtain ⟨c0, c1, c2, c3, c4, c5, c6, c7⟩ := HS W hW; first | (go_simp; done) | (go_simp; with_reducible rfl))); rotate_left; simp only [Act.put, List.setIfInBounds_toArray, List.set_cons_zero, List.set_cons_succ])
            (refine qv2 137 140 (v := ?_) (by rfl) (by rfl) (by rfl) (fun ev hc hf h0 h1 W hW => ?_) ?_; rotate_left; (focus (obtain ⟨c0, c1, c2, c3, c4, c5, c6, c7⟩ := HS W hW; first | (go_simp; done) | (go_simp; with_reducible rfl))); rotate_left; simp only [Act.put, List.setIfInBounds_toArray, List.set_cons_zero, List.set_cons_succ])
            (refine qv1 141 (v := ?_) (by rfl) (by rfl) (fun ev hc hf h0 W hW => ?_) ?_; rotate_left; (focus (obtain ⟨c0, c1, c2, c3, c4, c5, c6, c7⟩ := HS W hW; first | (go_simp; done) | (go_simp; with_reducible rfl))); rotate_left; simp only [Act.put, List.setIfInBounds_toArray, List.set_cons_zero, List.set_cons_succ])
            first
              | (refine qskip (by rfl) ?_; simp only [Act.put, List.setIfInBounds_toArray, List.set_cons_zero, List.set_cons_succ])
              | (refine qv1 18 (v := ?_) (by rfl) (by rfl) (fun ev hc hf h0 W hW => ?_) ?_; rotate_left; (focus (obtain ⟨c0, c1, c2, c3, c4, c5, c6, c7⟩ := HS W hW; first | (go_simp; done) | (go_simp; with_reducible rfl))); rotate_left; simp only [Act.put, List.setIfInBounds_toArray, List.set_cons_zero, List.set_cons_succ])
            first
              | (refine qskip (by rfl) ?_; simp only [Act.put, List.setIfInBounds_toArray, List.set_cons_zero, List.set_cons_succ])
              | (refine qv1 21 (v := ?_) (by rfl) (by rfl) (fun ev hc hf h0 W hW => ?_) ?_; rotate_left; (focus (obtain ⟨c0, c1, c2, c3, c4, c5, c6, c7⟩ := HS W hW; first | (go_simp; done) | (go_simp; with_reducible rfl))); rotate_left; simp only [Act.put, List.setIfInBounds_toArray, List.set_cons_zero, List.set_cons_succ])
            first
              | (refine qskip (by rfl) ?_; simp only [Act.put, List.setIfInBounds_toArray, List.set_cons_zero, List.set_cons_succ])
              | (refine qv2 143 144 (v := ?_) (by rfl) (by rfl) (by rfl) (fun ev hc hf h0 h1 W hW => ?_) ?_; rotate_left; (focus (obtain ⟨c0, c1, c2, c3, c4, c5, c6, c7⟩ := HS W hW; first | (go_simp; done) | (go_simp; with_reducible rfl))); rotate_left; simp only [Act.put, List.setIfInBounds_toArray, List.set_cons_zero, List.set_cons_succ])
            (refine qv2 142 145 (v := ?_) (by rfl) (by rfl) (by rfl) (fun ev hc hf h0 h1 W hW => ?_) ?_; rotate_left; (focus (obtain ⟨c0, c1, c2, c3, c4, c5, c6, c7⟩ := HS W hW; first | (go_simp; done) | (go_simp; with_reducible rfl))); rotate_left; simp only [Act.put, List.setIfInBounds_toArray, List.set_cons_zero, List.set_cons_succ])
            refine qnil ?_
            intro w5 hW5
            go_wp2
            go_roundw
            case rel => exact ⟨k + 1, a, by omega, by go_num, KB.out.bel hW5, KR.out.bel hW5, HB4.trans (Below.mono hW5 HB4.size)⟩
            case measure => simp [intOf]; omega
          · rw [h] at kb2 ⊢
            simp only [Acc.vote, voteV, Acc.zero]
            go_wp2_with fail
            clear s0 s1
            refine (refPrepare_any gr a r n _ (kr2.alloc (.cells #[.bool a.has, .int .u64 a.vr, .int .i64 a.vn, .string a.val] 46))).mono ?_
            rintro e w3 ⟨rfl, kr3, hg3⟩
            have kb3 := (kb2.alloc (.cells #[.bool a.has, .int .u64 a.vr, .int .i64 a.vn, .string a.val] 46)).grown hg3 (by intro e; injection e; omega)
            have kv3 := (Bk.new w2 #[.bool a.has, .int .u64 a.vr, .int .i64 a.vn, .string a.val] 46).grown hg3 (by intro e; injection e; omega)
            have HB3 := bel_grown (HB2.alloc HB2.size (.cells #[.bool a.has, .int .u64 a.vr, .int .i64 a.vn, .string a.val] 46)) hg3 (by have := HB2.size; simp; omega) (by omega)
            clear hg3 kb2 kr2 HB2
            rw [h] at kr3 ⊢
            simp only [Acc.vote, voteV, Acc.zero]
            clear h
            have kb4 := kb3.alloc (.cells #[.bool a.has, .int .u64 a.vr, .int .i64 a.vn, .string a.val] 46)
            have kr4 := kr3.alloc (.cells #[.bool a.has, .int .u64 a.vr, .int .i64 a.vn, .string a.val] 46)
            have kv4 := kv3.alloc (.cells #[.bool a.has, .int .u64 a.vr, .int .i64 a.vn, .string a.val] 46)
            have kx4 := Bk.new w3 #[.bool a.has, .int .u64 a.vr, .int .i64 a.vn, .string a.val] 46
            have HB4 := HB3.alloc HB3.size (.cells #[.bool a.has, .int .u64 a.vr, .int .i64 a.vn, .string a.val] 46)
            clear kb3 kr3 kv3 HB3
            go_upto_region 23 with fail
            generalize hw4 : w3.alloc (.cells #[.bool a.has, .int .u64 a.vr, .int .i64 a.vn, .string a.val] 46) = w4 at *
            have HS : ∀ W, Bel w4 W → W.cell? ⟨w2.heap.size, 0, none⟩ = some (.bool a.has) ∧ W.cell? ⟨w2.heap.size, 1, none⟩ = some (.int .u64 a.vr) ∧ W.cell? ⟨w2.heap.size, 2, none⟩ = some (.int .i64 a.vn) ∧ W.cell? ⟨w2.heap.size, 3, none⟩ = some (.string a.val) ∧ W.cell? ⟨w3.heap.size, 0, none⟩ = some (.bool a.has) ∧ W.cell? ⟨w3.heap.size, 1, none⟩ = some (.int .u64 a.vr) ∧ W.cell? ⟨w3.heap.size, 2, none⟩ = some (.int .i64 a.vn) ∧ W.cell? ⟨w3.heap.size, 3, none⟩ = some (.string a.val) :=
              fun W hW => ⟨(kv4.bel hW).cell 0, (kv4.bel hW).cell 1, (kv4.bel hW).cell 2, (kv4.bel hW).cell 3, (kx4.bel hW).cell 0, (kx4.bel hW).cell 1, (kx4.bel hW).cell 2, (kx4.bel hW).cell 3⟩
            have KB := Lib.hid kb4
            have KR := Lib.hid kr4
            clear kb4 kr4 kv4 kx4 hw4
            go_wp2_with (with_reducible refine wpList_qw 136 rfl ?_)
            (refine qv2 134 135 (v := ?_) (by rfl) (by rfl) (by rfl) (fun ev hc hf h0 h1 W hW => ?_) ?_; rotate_left; (focus (obtain ⟨c0, c1, c2, c3, c4, c5, c6, c7⟩ := HS W hW; first | (go_simp; done) | (go_simp; with_reducible rfl))); rotate_left; simp only [Act.put, List.setIfInBounds_toArray, List.set_cons_zero, List.set_cons_succ])
            (refine qv1 136 (v := ?_) (by rfl) (by rfl) (fun ev hc hf h0 W hW => ?_) ?_; rotate_left; (focus (obtain ⟨c0, c1, c2, c3, c4, c5, c6, c7⟩ := HS W hW; first | (go_simp; done) | (go_simp; with_reducible rfl))); rotate_left; simp only [Act.put, List.setIfInBounds_toArray, List.set_cons_zero, List.set_cons_succ])
            first
              | (refine qskip (by rfl) ?_; simp only [Act.put, List.setIfInBounds_toArray, List.set_cons_zero, List.set_cons_succ])
              | (refine qv1 17 (v := ?_) (by rfl) (by rfl) (fun ev hc hf h0 W hW => ?_) ?_; rotate_left; (focus (obtain ⟨c0, c1, c2, c3, c4, c5, c6, c7⟩ := HS W hW; first | (go_simp; done) | (go_simp; with_reducible rfl))); rotate_left; simp only [Act.put, List.setIfInBounds_toArray, List.set_cons_zero, List.set_cons_succ])
            first
              | (refine qskip (by rfl) ?_; simp only [Act.put, List.setIfInBounds_toArray, List.set_cons_zero, List.set_cons_succ])
              | (refine qv1 20 (v := ?_) (by rfl) (by rfl) (fun ev hc hf h0 W hW => ?_) ?_; rotate_left; (focus (obtain ⟨c0, c1, c2, c3, c4, c5, c6, c7⟩ := HS W hW; first | (go_simp; done) | (go_simp; with_reducible rfl))); rotate_left; simp only [Act.put, List.setIfInBounds_toArray, List.set_cons_zero, List.set_cons_succ])
            first
              | (refine qskip (by rfl) ?_; simp only [Act.put, List.setIfInBounds_toArray, List.set_cons_zero, List.set_cons_succ])
              | (refine qv2 138 139 (v := ?_) (by rfl) (by rfl) (by rfl) (fun ev hc hf h0 h1 W hW => ?_) ?_; rotate_left; (focus (obtain ⟨c0, c1, c2, c3, c4, c5, c6, c7⟩ := HS W hW; first | (go_simp; done) | (go_simp; with_reducible rfl))); rotate_left; simp only [Act.put, List.setIfInBounds_toArray, List.set_cons_zero, List.set_cons_succ])
            (refine qv2 137 140 (v := ?_) (by rfl) (by rfl) (by rfl) (fun ev hc hf h0 h1 W hW => ?_) ?_; rotate_left; (focus (obtain ⟨c0, c1, c2, c3, c4, c5, c6, c7⟩ := HS W hW; first | (go_simp; done) | (go_simp; with_reducible rfl))); rotate_left; simp only [Act.put, List.setIfInBounds_toArray, List.set_cons_zero, List.set_cons_succ])
            (refine qv1 141 (v := ?_) (by rfl) (by rfl) (fun ev hc hf h0 W hW => ?_) ?_; rotate_left; (focus (obtain ⟨c0, c1, c2, c3, c4, c5, c6, c7⟩ := HS W hW; first | (go_simp; done) | (go_simp; with_reducible rfl))); rotate_left; simp only [Act.put, List.setIfInBounds_toArray, List.set_cons_zero, List.set_cons_succ])
            first
              | (refine qskip (by rfl) ?_; simp only [Act.put, List.setIfInBounds_toArray, List.set_cons_zero, List.set_cons_succ])
              | (refine qv1 18 (v := ?_) (by rfl) (by rfl) (fun ev hc hf h0 W hW => ?_) ?_; rotate_left; (focus (obtain ⟨c0, c1, c2, c3, c4, c5, c6, c7⟩ := HS W hW; first | (go_simp; done) | (go_simp; with_reducible rfl))); rotate_left; simp only [Act.put, List.setIfInBounds_toArray, List.set_cons_zero, List.set_cons_succ])
            first
              | (refine qskip (by rfl) ?_; simp only [Act.put, List.setIfInBounds_toArray, List.set_cons_zero, List.set_cons_succ])
              | (refine qv1 21 (v := ?_) (by rfl) (by rfl) (fun ev hc hf h0 W hW => ?_) ?_; rotate_left; (focus (obtain ⟨c0, c1, c2, c3, c4, c5, c6, c7⟩ := HS W hW; first | (go_simp; done) | (go_simp; with_reducible rfl))); rotate_left; simp only [Act.put, List.setIfInBounds_toArray, List.set_cons_zero, List.set_cons_succ])
            first
              | (refine qskip (by rfl) ?_; simp only [Act.put, List.setIfInBounds_toArray, List.set_cons_zero, List.set_cons_succ])
              | (refine qv2 143 144 (v := ?_) (by rfl) (by rfl) (by rfl) (fun ev hc hf h0 h1 W hW => ?_) ?_; rotate_left; (focus (obtain ⟨c0, c1, c2, c3, c4, c5, c6, c7⟩ := HS W hW; first | (go_simp; done) | (go_simp; with_reducible rfl))); rotate_left; simp only [Act.put, List.setIfInBounds_toArray, List.set_cons_zero, List.set_cons_succ])
            (refine qv2 142 145 (v := ?_) (by rfl) (by rfl) (by rfl) (fun ev hc hf h0 h1 W hW => ?_) ?_; rotate_left; (focus (obtain ⟨c0, c1, c2, c3, c4, c5, c6, c7⟩ := HS W hW; first | (go_simp; done) | (go_simp; with_reducible rfl))); rotate_left; simp only [Act.put, List.setIfInBounds_toArray, List.set_cons_zero, List.set_cons_succ])
            refine qnil ?_
            intro w5 hW5
            go_wp2
            go_roundw
            case rel => exact ⟨k + 1, a.promise r n, by omega, by go_num, KB.out.bel hW5, KR.out.bel hW5, HB4.trans (Below.mono hW5 HB4.size)⟩
            case measure => simp [intOf]; omega
        · go_wp2_with fail
          clear c0 c1 c2 c3
          refine (accept_any g a r n v _ (kb1.alloc _) hv).mono ?_
          rintro e w2 ⟨rfl, kb2, hg2⟩
          have kr2 := (kr1.alloc (.cells #[.int .u64 r, .int .i64 n, .bool true, .string v] 57)).grown hg2 (by intro e; injection e; omega)
          have ks2 := (Bk.new w1 #[.int .u64 r, .int .i64 n, .bool true, .string v] 57).grown hg2 (by intro e; injection e; omega)
          have HB2 := bel_grown (HB1.alloc HB1.size (.cells #[.int .u64 r, .int .i64 n, .bool true, .string v] 57)) hg2 (by have := HB1.size; simp; omega) hwg
          have s0 : w2.cell? ⟨w1.heap.size, 0, none⟩ = _ := ks2.cell 0
          have s1 : w2.cell? ⟨w1.heap.size, 1, none⟩ = _ := ks2.cell 1
          have s3 : w2.cell? ⟨w1.heap.size, 3, none⟩ = _ := ks2.cell 3
          simp at s0 s1 s3
          clear hg2 kr1 kb1 HB1 ks2
          go_wp2_with fail
          clear s0 s1 s3
          refine (refAccept_any gr a r n v _ kr2 hv).mono ?_
          rintro e w3 ⟨rfl, kr3, hg3⟩
          have kb3 := kb2.grown hg3 (by intro e; injection e; omega)
          have HB3 := bel_grown HB2 hg3 HB2.size (by omega)
          clear hg3 kb2 kr2 HB2
          rcases acpt_cases3 a r n v with ⟨c, h⟩ | ⟨h, _⟩
          · rw [h] at kb3 kr3 ⊢
            clear h
            go_wp2
            go_roundw
            case rel => exact ⟨k + 1, a, by omega, by go_num, kb3, kr3, HB3⟩
            case measure => simp [intOf]; omega
          · rw [h] at kb3 kr3 ⊢
            clear h
            go_wp2
            go_roundw
            case rel => exact ⟨k + 1, Acc.accept r n v, by omega, by go_num, kb3, kr3, HB3⟩
            case measure => simp [intOf]; omega
      · obtain rfl : k = l.length := by omega
        go_wp2_with (go_at_call 28; refine (works12_any _).mono ?_; rintro e w' ⟨rfl, hbw⟩)
        go_ret
        exact ⟨rfl, HB1.trans (hbw.mono HB1.size)⟩

theorem playsWalk (pr pn : Int) (has : Bool) (vr vn : Int) (val : ByteArray) (A : Option Addr) (len cap : Nat) (l : List Stp) (w : World) (_ : (Lit.int .u64 pr).wf = true) (_ : (Lit.int .i64 pn).wf = true) (hvs : val.size ≤ 9223372036854775807) (hlen : l.length = len) (hl : len ≤ 9223372036854775807) (hoks : ∀ s ∈ l, s.ok) (hx : StepsAt w A l) :
    Calls Try.prog 9 #[.agg #[.int .u64 pr, .int .i64 pn], .agg #[.bool has, .int .u64 vr, .int .i64 vn, .string val], .slice A len cap] w fun e w' => e = .returned (.bool true) ∧ Below w.heap.size w w' := by
  subst hlen
  exact plays_walk pr pn has vr vn val A cap l w hvs hx hl hoks

end Go.Proofs.Ytlgljcfkoakogaa
