import Derived.Test.YtlgljcfkoakogaaB7
import Derived.Test.YtlgljcfkoakogaaA11
import Derived.Test.YtlgljcfkoakogaaA12
import Derived.Deep.DeepCutAuto
namespace Go.Proofs.Ytlgljcfkoakogaa
open Go.RowKit
set_option linter.unusedSimpArgs false
set_option linter.unusedVariables false


theorem aboveB_self (r n : Int) : aboveB r n r n = false := by simp [aboveB]
theorem cmpB_self (r n : Int) : cmpB r n r n = 0 := by have := cmpB_vals r n r n; omega
theorem valid_zero : mayLoadB Acc.zero.pr Acc.zero.pn Acc.zero.has Acc.zero.vr Acc.zero.vn Acc.zero.val = true := by simp [mayLoadB, mayVoteB, Acc.zero, mayB, cmpB, orI, cmpI]
theorem valid_above {pr pn vr vn : Int} {has : Bool} {val : ByteArray} (h : mayLoadB pr pn has vr vn val = true) : aboveB vr vn pr pn = false := by
  simp [mayLoadB] at h
  exact (cmpB_above vr vn pr pn).1 h.2.2
theorem valid_promise {a : Acc} {r n : Int} (h : mayLoadB a.pr a.pn a.has a.vr a.vn a.val = true) (hn : namedB r n = true) (hab : aboveB a.pr a.pn r n = false) : mayLoadB r n a.has a.vr a.vn a.val = true := by
  simp [mayLoadB] at h ⊢
  simp [namedB] at hn
  exact ⟨hn.1, h.2.1, cmpB_trans _ _ _ _ _ _ h.2.2 ((cmpB_above _ _ _ _).2 hab)⟩
theorem valid_trans {a : Acc} {r n : Int} (h : mayLoadB a.pr a.pn a.has a.vr a.vn a.val = true) (hab : aboveB a.pr a.pn r n = false) : aboveB a.vr a.vn r n = false := by
  simp [mayLoadB] at h
  exact (cmpB_above _ _ _ _).1 (cmpB_trans _ _ _ _ _ _ h.2.2 ((cmpB_above _ _ _ _).2 hab))
theorem valid_accept {r n : Int} {v : ByteArray} (hn : namedB r n = true) (hv : v.size ≤ 8192) : mayLoadB r n true r n v = true := by
  have h := hn
  simp [namedB] at hn
  simp [mayLoadB, mayVoteB, h, hv, cmpB_self, hn.1]
theorem prep_cases2 (a : Acc) (r n : Int) : (∃ c, prep a r n = (false, Acc.zero, c, a)) ∨ (prep a r n = (true, a, 0, a.promise r n) ∧ aboveB a.pr a.pn r n = false ∧ namedB r n = true) := by
  unfold prep
  split
  · split
    · exact .inl ⟨_, rfl⟩
    · refine .inr ⟨rfl, ?_, by assumption⟩
      have h1 := cmpB_above a.pr a.pn r n
      have h2 := cmpB_sym r n a.pr a.pn
      exact h1.1 (by omega)
  · exact .inl ⟨_, rfl⟩
theorem acpt_cases2 (a : Acc) (r n : Int) (v : ByteArray) : (∃ c, acpt a r n v = (false, c, a)) ∨ (acpt a r n v = (true, 0, Acc.accept r n v) ∧ aboveB a.pr a.pn r n = false ∧ namedB r n = true ∧ v.size ≤ 8192) := by
  unfold acpt
  split
  · split
    · exact .inl ⟨_, rfl⟩
    · split
      · exact .inl ⟨_, rfl⟩
      · refine .inr ⟨rfl, ?_, by assumption, by omega⟩
        have h1 := cmpB_above a.pr a.pn r n
        have h2 := cmpB_sym r n a.pr a.pn
        exact h1.1 (by omega)
  · exact .inl ⟨_, rfl⟩

set_option maxRecDepth 100000 in
set_option maxHeartbeats 51200000 in
theorem keeps_walk (A : Option Addr) (cap : Nat) (l : List Stp) (w : World) (hx : StepsAt w A l) (hl : l.length ≤ 9223372036854775807) (hoks : ∀ s ∈ l, s.ok) :
    Calls Try.prog 10 #[.slice A l.length cap] w fun e w' => e = .returned (.bool true) ∧ Below w.heap.size w w' := by
  have HX := Lib.hid hx
  clear hx
  go_enter Try.func10, Try.ntmps10
  go_wp2_with fail
  refine (heavy12_any A cap l w HX.out hl).mono ?_
  rintro e w0 ⟨b, rfl, rfl⟩
  cases b
  rotate_left
  · go_wp2_with (go_at_call 28; refine (works12_any _).mono ?_; rintro e w' ⟨rfl, hbw⟩)
    go_ret
    exact ⟨rfl, hbw⟩
  · go_wp2_with fail
    refine (accNew_any _).mono ?_; rintro e w1 ⟨rfl, rfl⟩
    go_wp2_with fail
    go_loopw [4] (fun i wr => ∃ (k : Nat) (a : Acc), k ≤ l.length ∧ i = .int .i64 k ∧ Bk wr w.heap.size a.cells 116 ∧ mayLoadB a.pr a.pn a.has a.vr a.vn a.val = true ∧ a.val.size ≤ 9223372036854775807 ∧ Below w.heap.size w wr) (fun i _ => l.length - (intOf i).toNat)
    case atStart => exact ⟨0, Acc.zero, by omega, rfl, Bk.new w Acc.zero.cells 116, valid_zero, by decide, (Below.refl _ _).alloc (Nat.le_refl _) _⟩
    case round =>
      obtain ⟨k, a, hk, rfl, kb, hval, hvs, HB⟩ := hrel
      have hwr : w.heap.size < wr.heap.size := kb.lt
      by_cases hlt : k < l.length
      · obtain ⟨⟨r, n, acc, v⟩, hs⟩ : ∃ s, l[k]? = some s := ⟨_, List.getElem?_eq_getElem hlt⟩
        have hok : Stp.ok ⟨r, n, acc, v⟩ := hoks _ (List.mem_of_getElem? hs)
        obtain ⟨b, o, rfl, c0, c1, c2, c3⟩ : ∃ b o, A = some ⟨b, o, none⟩ ∧ StepAt wr b (o + k * 4) ⟨r, n, acc, v⟩ := by
          rcases HX.out with h0 | ⟨b, o, e, h⟩
          · rw [h0] at hlt; simp at hlt
          · exact ⟨b, o, e, (h k _ hs).bel HB⟩
        clear hs
        have hv := hok.2
        dsimp only at c0 c1 c2 c3 hv
        have HVL := Lib.hid hval
        clear hval
        go_wp2_with fail
        clear c0 c1 c2 c3
        refine (promised_any w.heap.size a _ (kb.alloc _)).mono ?_
        rintro e w1 ⟨rfl, hb1⟩
        have kb1 := (kb.alloc (.cells #[.int .u64 r, .int .i64 n, .bool acc, .string v] 57)).bel hb1
        have ks1 := (Bk.new wr #[.int .u64 r, .int .i64 n, .bool acc, .string v] 57).bel hb1
        have HB1 := (HB.alloc HB.size (.cells #[.int .u64 r, .int .i64 n, .bool acc, .string v] 57)).trans (hb1.mono (by have := HB.size; simp; omega))
        clear kb hb1
        go_wp2_with fail
        refine (vote_any w.heap.size a _ kb1).mono ?_
        rintro e w2 ⟨rfl, hb2⟩
        simp only [voteV]
        have kb3 := ((kb1.bel hb2).alloc (.cells #[.int .u64 a.pr, .int .i64 a.pn] 24)).alloc (.cells #[.bool a.has, .int .u64 a.vr, .int .i64 a.vn, .string a.val] 46)
        have ks3 := ((ks1.bel hb2).alloc (.cells #[.int .u64 a.pr, .int .i64 a.pn] 24)).alloc (.cells #[.bool a.has, .int .u64 a.vr, .int .i64 a.vn, .string a.val] 46)
        have kp3 := (Bk.new w2 #[.int .u64 a.pr, .int .i64 a.pn] 24).alloc (.cells #[.bool a.has, .int .u64 a.vr, .int .i64 a.vn, .string a.val] 46)
        have kv3 := Bk.new (w2.alloc (.cells #[.int .u64 a.pr, .int .i64 a.pn] 24)) #[.bool a.has, .int .u64 a.vr, .int .i64 a.vn, .string a.val] 46
        rw [World.size_alloc] at kv3
        have ks2 := ks1.bel hb2
        have zs := ks2.lt
        have hgw : w.heap.size ≤ wr.heap.size := HB.size
        have hgw2 : wr.heap.size < w2.heap.size := ks2.lt
        have HB2 := HB1.trans (hb2.mono HB1.size)
        have HB3 := (HB2.alloc HB2.size (.cells #[.int .u64 a.pr, .int .i64 a.pn] 24)).alloc (by have := HB2.size; simp; omega) (.cells #[.bool a.has, .int .u64 a.vr, .int .i64 a.vn, .string a.val] 46)
        have s0 : w2.cell? ⟨wr.heap.size, 0, none⟩ = _ := ks2.cell 0
        have s1 : w2.cell? ⟨wr.heap.size, 1, none⟩ = _ := ks2.cell 1
        have s2 : w2.cell? ⟨wr.heap.size, 2, none⟩ = _ := ks2.cell 2
        have s3 : w2.cell? ⟨wr.heap.size, 3, none⟩ = _ := ks2.cell 3
        simp at s0 s1 s2 s3
        clear kb1 ks1 hb2 HB1 HB2 ks2
        cases acc
        · go_wp2_with fail
          clear s0 s1 s2 s3
          refine (prepare_any w.heap.size a r n _ kb3).mono ?_
          rintro e w4 ⟨rfl, kb4, hg4⟩
          have kp4 := kp3.grown hg4 (by intro e; injection e; omega)
          have kv4 := kv3.grown hg4 (by intro e; injection e; omega)
          have ks4 := ks3.grown hg4 (by intro e; injection e; omega)
          have HB4 := bel_grown HB3 hg4 HB3.size (Nat.le_refl _)
          clear hg4 kp3 kv3 ks3 HB3
          have hval := HVL.out
          clear HVL
          rcases prep_cases2 a r n with ⟨c, h⟩ | ⟨h, hab, hnm⟩
          · rw [h] at kb4 ⊢
            simp only [Acc.vote, voteV, Acc.zero]
            clear h
            have kb5 := kb4.alloc (.cells #[.bool false, .int .u64 0, .int .i64 0, .string ⟨#[]⟩] 46)
            have kp5 := kp4.alloc (.cells #[.bool false, .int .u64 0, .int .i64 0, .string ⟨#[]⟩] 46)
            have kv5 := kv4.alloc (.cells #[.bool false, .int .u64 0, .int .i64 0, .string ⟨#[]⟩] 46)
            have ks5 := ks4.alloc (.cells #[.bool false, .int .u64 0, .int .i64 0, .string ⟨#[]⟩] 46)
            have kw5 := Bk.new w4 #[.bool false, .int .u64 0, .int .i64 0, .string ⟨#[]⟩] 46
            have HB5 := HB4.alloc HB4.size (.cells #[.bool false, .int .u64 0, .int .i64 0, .string ⟨#[]⟩] 46)
            clear kb4 kp4 kv4 ks4 HB4
            go_upto_region 16 with fail
            generalize hw5 : w4.alloc (.cells #[.bool false, .int .u64 0, .int .i64 0, .string ⟨#[]⟩] 46) = w5 at *
            have HS13 : ∀ W, Bel w5 W → W.cell? ⟨wr.heap.size, 0, none⟩ = some (.int .u64 r) ∧ W.cell? ⟨wr.heap.size, 1, none⟩ = some (.int .i64 n) ∧ W.cell? ⟨wr.heap.size, 2, none⟩ = some (.bool false) ∧ W.cell? ⟨wr.heap.size, 3, none⟩ = some (.string v) ∧ W.cell? ⟨w2.heap.size, 0, none⟩ = some (.int .u64 a.pr) ∧ W.cell? ⟨w2.heap.size, 1, none⟩ = some (.int .i64 a.pn) ∧ W.cell? ⟨w2.heap.size + 1, 0, none⟩ = some (.bool a.has) ∧ W.cell? ⟨w2.heap.size + 1, 1, none⟩ = some (.int .u64 a.vr) ∧ W.cell? ⟨w2.heap.size + 1, 2, none⟩ = some (.int .i64 a.vn) ∧ W.cell? ⟨w2.heap.size + 1, 3, none⟩ = some (.string a.val) ∧ W.cell? ⟨w4.heap.size, 0, none⟩ = some (.bool false) ∧ W.cell? ⟨w4.heap.size, 1, none⟩ = some (.int .u64 0) ∧ W.cell? ⟨w4.heap.size, 2, none⟩ = some (.int .i64 0) ∧ W.cell? ⟨w4.heap.size, 3, none⟩ = some (.string ⟨#[]⟩) :=
              fun W hW => ⟨(ks5.bel hW).cell 0, (ks5.bel hW).cell 1, (ks5.bel hW).cell 2, (ks5.bel hW).cell 3, (kp5.bel hW).cell 0, (kp5.bel hW).cell 1, (kv5.bel hW).cell 0, (kv5.bel hW).cell 1, (kv5.bel hW).cell 2, (kv5.bel hW).cell 3, (kw5.bel hW).cell 0, (kw5.bel hW).cell 1, (kw5.bel hW).cell 2, (kw5.bel hW).cell 3⟩
            have V1 : Hid (∀ W, Bel w5 W → Calls Try.prog 31 #[.pointer (some ⟨w.heap.size, 0, none⟩)] W fun e W' => e = .returned (.agg #[.int .u64 a.pr, .int .i64 a.pn]) ∧ Below W.heap.size W W') := Lib.hid (fun W hW => promised_any (w.heap.size) (a) W (kb5.bel hW))
            have V2 : Hid (∀ W, Bel w5 W → Calls Try.prog 32 #[.pointer (some ⟨w.heap.size, 0, none⟩)] W fun e W' => e = .returned (.agg #[.bool a.has, .int .u64 a.vr, .int .i64 a.vn, .string a.val]) ∧ Below W.heap.size W W') := Lib.hid (fun W hW => vote_any (w.heap.size) (a) W (kb5.bel hW))
            have KB5 := Lib.hid kb5
            have KP5 := Lib.hid kp5
            have KV5 := Lib.hid kv5
            clear kb5 kp5 kv5 ks5 kw5 hw5
            refine wp_qw (by kernel_rfl) ?_
            (refine qv1 10 (v := ?_) (by rfl) (by rfl) (fun ev hc hf h0 W hW => ?_) ?_; rotate_left; (focus (obtain ⟨c0, c1, c2, c3, c4, c5, c6, c7, c8, c9, c10, c11, c12, c13⟩ := HS13 W hW; first | (go_simp; done) | (go_simp; with_reducible rfl))); rotate_left; simp only [Act.put, List.setIfInBounds_toArray, List.set_cons_zero, List.set_cons_succ])
            (refine qv1 83 (v := ?_) (by rfl) (by rfl) (fun ev hc hf h0 W hW => ?_) ?_; rotate_left; (focus (obtain ⟨c0, c1, c2, c3, c4, c5, c6, c7, c8, c9, c10, c11, c12, c13⟩ := HS13 W hW; first | (go_simp; done) | (go_simp; with_reducible rfl))); rotate_left; simp only [Act.put, List.setIfInBounds_toArray, List.set_cons_zero, List.set_cons_succ])
            first
              | (refine qskip (by rfl) ?_; simp only [Act.put, List.setIfInBounds_toArray, List.set_cons_zero, List.set_cons_succ])
              | (refine qv1 11 (v := ?_) (by rfl) (by rfl) (fun ev hc hf h0 W hW => ?_) ?_; rotate_left; (focus (obtain ⟨c0, c1, c2, c3, c4, c5, c6, c7, c8, c9, c10, c11, c12, c13⟩ := HS13 W hW; first | (go_simp; done) | (go_simp; with_reducible rfl))); rotate_left; simp only [Act.put, List.setIfInBounds_toArray, List.set_cons_zero, List.set_cons_succ])
            first
              | (refine qskip (by rfl) ?_; simp only [Act.put, List.setIfInBounds_toArray, List.set_cons_zero, List.set_cons_succ])
              | (refine qv1 7 (v := ?_) (by rfl) (by rfl) (fun ev hc hf h0 W hW => ?_) ?_; rotate_left; (focus (obtain ⟨c0, c1, c2, c3, c4, c5, c6, c7, c8, c9, c10, c11, c12, c13⟩ := HS13 W hW; first | (go_simp; done) | (go_simp; with_reducible rfl))); rotate_left; simp only [Act.put, List.setIfInBounds_toArray, List.set_cons_zero, List.set_cons_succ])
            first
              | (refine qskip (by rfl) ?_; simp only [Act.put, List.setIfInBounds_toArray, List.set_cons_zero, List.set_cons_succ])
              | (refine qv2 85 86 (v := ?_) (by rfl) (by rfl) (by rfl) (fun ev hc hf h0 h1 W hW => ?_) ?_; rotate_left; (focus (obtain ⟨c0, c1, c2, c3, c4, c5, c6, c7, c8, c9, c10, c11, c12, c13⟩ := HS13 W hW; first | (go_simp; done) | (go_simp; with_reducible rfl))); rotate_left; simp only [Act.put, List.setIfInBounds_toArray, List.set_cons_zero, List.set_cons_succ])
            first
              | (refine qskip (by rfl) ?_; simp only [Act.put, List.setIfInBounds_toArray, List.set_cons_zero, List.set_cons_succ])
              | (refine qv1 87 (v := ?_) (by rfl) (by rfl) (fun ev hc hf h0 W hW => ?_) ?_; rotate_left; (focus (obtain ⟨c0, c1, c2, c3, c4, c5, c6, c7, c8, c9, c10, c11, c12, c13⟩ := HS13 W hW; first | (go_simp; done) | (go_simp; with_reducible rfl))); rotate_left; simp only [Act.put, List.setIfInBounds_toArray, List.set_cons_zero, List.set_cons_succ])
            first
              | (refine qskip (by rfl) ?_; simp only [Act.put, List.setIfInBounds_toArray, List.set_cons_zero, List.set_cons_succ])
              | (refine qv1 3 (v := ?_) (by rfl) (by rfl) (fun ev hc hf h0 W hW => ?_) ?_; rotate_left; (focus (obtain ⟨c0, c1, c2, c3, c4, c5, c6, c7, c8, c9, c10, c11, c12, c13⟩ := HS13 W hW; first | (go_simp; done) | (go_simp; with_reducible rfl))); rotate_left; simp only [Act.put, List.setIfInBounds_toArray, List.set_cons_zero, List.set_cons_succ])
            first
              | (refine qskip (by rfl) ?_; simp only [Act.put, List.setIfInBounds_toArray, List.set_cons_zero, List.set_cons_succ])
              | (refine qc1 89 _ _ _ (by rfl) (by rfl) (fun ev hc hf h0 W hW => ?_) (fun W hW => q_calls hW (V1.out W hW)) ?_; (focus (obtain ⟨c0, c1, c2, c3, c4, c5, c6, c7, c8, c9, c10, c11, c12, c13⟩ := HS13 W hW; go_simp; done)); simp only [Act.put, List.setIfInBounds_toArray, List.set_cons_zero, List.set_cons_succ])
            first
              | (refine qskip (by rfl) ?_; simp only [Act.put, List.setIfInBounds_toArray, List.set_cons_zero, List.set_cons_succ])
              | (refine qv1 5 (v := ?_) (by rfl) (by rfl) (fun ev hc hf h0 W hW => ?_) ?_; rotate_left; (focus (obtain ⟨c0, c1, c2, c3, c4, c5, c6, c7, c8, c9, c10, c11, c12, c13⟩ := HS13 W hW; first | (go_simp; done) | (go_simp; with_reducible rfl))); rotate_left; simp only [Act.put, List.setIfInBounds_toArray, List.set_cons_zero, List.set_cons_succ])
            first
              | (refine qskip (by rfl) ?_; simp only [Act.put, List.setIfInBounds_toArray, List.set_cons_zero, List.set_cons_succ])
              | (refine qv1 91 (v := ?_) (by rfl) (by rfl) (fun ev hc hf h0 W hW => ?_) ?_; rotate_left; (focus (obtain ⟨c0, c1, c2, c3, c4, c5, c6, c7, c8, c9, c10, c11, c12, c13⟩ := HS13 W hW; first | (go_simp; done) | (go_simp; with_reducible rfl))); rotate_left; simp only [Act.put, List.setIfInBounds_toArray, List.set_cons_zero, List.set_cons_succ])
            first
              | (refine qskip (by rfl) ?_; simp only [Act.put, List.setIfInBounds_toArray, List.set_cons_zero, List.set_cons_succ])
              | (refine qv2 90 92 (v := ?_) (by rfl) (by rfl) (by rfl) (fun ev hc hf h0 h1 W hW => ?_) ?_; rotate_left; (focus (obtain ⟨c0, c1, c2, c3, c4, c5, c6, c7, c8, c9, c10, c11, c12, c13⟩ := HS13 W hW; first | (go_simp; done) | (go_simp; with_reducible rfl))); rotate_left; simp only [Act.put, List.setIfInBounds_toArray, List.set_cons_zero, List.set_cons_succ])
            first
              | (refine qskip (by rfl) ?_; simp only [Act.put, List.setIfInBounds_toArray, List.set_cons_zero, List.set_cons_succ])
              | (refine qv2 88 93 (v := ?_) (by rfl) (by rfl) (by rfl) (fun ev hc hf h0 h1 W hW => ?_) ?_; rotate_left; (focus (obtain ⟨c0, c1, c2, c3, c4, c5, c6, c7, c8, c9, c10, c11, c12, c13⟩ := HS13 W hW; first | (go_simp; done) | (go_simp; with_reducible rfl))); rotate_left; simp only [Act.put, List.setIfInBounds_toArray, List.set_cons_zero, List.set_cons_succ])
            (refine qv2 84 94 (v := ?_) (by rfl) (by rfl) (by rfl) (fun ev hc hf h0 h1 W hW => ?_) ?_; rotate_left; (focus (obtain ⟨c0, c1, c2, c3, c4, c5, c6, c7, c8, c9, c10, c11, c12, c13⟩ := HS13 W hW; first | (go_simp; done) | (go_simp; with_reducible rfl))); rotate_left; simp only [Act.put, List.setIfInBounds_toArray, List.set_cons_zero, List.set_cons_succ])
            (refine qv1 95 (v := ?_) (by rfl) (by rfl) (fun ev hc hf h0 W hW => ?_) ?_; rotate_left; (focus (obtain ⟨c0, c1, c2, c3, c4, c5, c6, c7, c8, c9, c10, c11, c12, c13⟩ := HS13 W hW; first | (go_simp; done) | (go_simp; with_reducible rfl))); rotate_left; simp only [Act.put, List.setIfInBounds_toArray, List.set_cons_zero, List.set_cons_succ])
            first
              | (refine qskip (by rfl) ?_; simp only [Act.put, List.setIfInBounds_toArray, List.set_cons_zero, List.set_cons_succ])
              | (refine qv1 10 (v := ?_) (by rfl) (by rfl) (fun ev hc hf h0 W hW => ?_) ?_; rotate_left; (focus (obtain ⟨c0, c1, c2, c3, c4, c5, c6, c7, c8, c9, c10, c11, c12, c13⟩ := HS13 W hW; first | (go_simp; done) | (go_simp; with_reducible rfl))); rotate_left; simp only [Act.put, List.setIfInBounds_toArray, List.set_cons_zero, List.set_cons_succ])
            first
              | (refine qskip (by rfl) ?_; simp only [Act.put, List.setIfInBounds_toArray, List.set_cons_zero, List.set_cons_succ])
              | (refine qv1 97 (v := ?_) (by rfl) (by rfl) (fun ev hc hf h0 W hW => ?_) ?_; rotate_left; (focus (obtain ⟨c0, c1, c2, c3, c4, c5, c6, c7, c8, c9, c10, c11, c12, c13⟩ := HS13 W hW; first | (go_simp; done) | (go_simp; with_reducible rfl))); rotate_left; simp only [Act.put, List.setIfInBounds_toArray, List.set_cons_zero, List.set_cons_succ])
            first
              | (refine qskip (by rfl) ?_; simp only [Act.put, List.setIfInBounds_toArray, List.set_cons_zero, List.set_cons_succ])
              | (refine qv1 98 (v := ?_) (by rfl) (by rfl) (fun ev hc hf h0 W hW => ?_) ?_; rotate_left; (focus (obtain ⟨c0, c1, c2, c3, c4, c5, c6, c7, c8, c9, c10, c11, c12, c13⟩ := HS13 W hW; first | (go_simp; done) | (go_simp; with_reducible rfl))); rotate_left; simp only [Act.put, List.setIfInBounds_toArray, List.set_cons_zero, List.set_cons_succ])
            first
              | (refine qskip (by rfl) ?_; simp only [Act.put, List.setIfInBounds_toArray, List.set_cons_zero, List.set_cons_succ])
              | (refine qv1 11 (v := ?_) (by rfl) (by rfl) (fun ev hc hf h0 W hW => ?_) ?_; rotate_left; (focus (obtain ⟨c0, c1, c2, c3, c4, c5, c6, c7, c8, c9, c10, c11, c12, c13⟩ := HS13 W hW; first | (go_simp; done) | (go_simp; with_reducible rfl))); rotate_left; simp only [Act.put, List.setIfInBounds_toArray, List.set_cons_zero, List.set_cons_succ])
            first
              | (refine qskip (by rfl) ?_; simp only [Act.put, List.setIfInBounds_toArray, List.set_cons_zero, List.set_cons_succ])
              | (refine qv0  (v := ?_) (by rfl) (fun ev hc hf  W hW => ?_) ?_; rotate_left; (focus (obtain ⟨c0, c1, c2, c3, c4, c5, c6, c7, c8, c9, c10, c11, c12, c13⟩ := HS13 W hW; first | (go_simp; done) | (go_simp; with_reducible rfl))); rotate_left; simp only [Act.put, List.setIfInBounds_toArray, List.set_cons_zero, List.set_cons_succ])
            first
              | (refine qskip (by rfl) ?_; simp only [Act.put, List.setIfInBounds_toArray, List.set_cons_zero, List.set_cons_succ])
              | (refine qv2 100 101 (v := ?_) (by rfl) (by rfl) (by rfl) (fun ev hc hf h0 h1 W hW => ?_) ?_; rotate_left; (focus (obtain ⟨c0, c1, c2, c3, c4, c5, c6, c7, c8, c9, c10, c11, c12, c13⟩ := HS13 W hW; first | (go_simp; done) | (go_simp; with_reducible rfl))); rotate_left; simp only [Act.put, List.setIfInBounds_toArray, List.set_cons_zero, List.set_cons_succ])
            first
              | (refine qskip (by rfl) ?_; simp only [Act.put, List.setIfInBounds_toArray, List.set_cons_zero, List.set_cons_succ])
              | (refine qv2 99 102 (v := ?_) (by rfl) (by rfl) (by rfl) (fun ev hc hf h0 h1 W hW => ?_) ?_; rotate_left; (focus (obtain ⟨c0, c1, c2, c3, c4, c5, c6, c7, c8, c9, c10, c11, c12, c13⟩ := HS13 W hW; first | (go_simp; done) | (go_simp; with_reducible rfl))); rotate_left; simp only [Act.put, List.setIfInBounds_toArray, List.set_cons_zero, List.set_cons_succ])
            (refine qv2 96 103 (v := ?_) (by rfl) (by rfl) (by rfl) (fun ev hc hf h0 h1 W hW => ?_) ?_; rotate_left; (focus (obtain ⟨c0, c1, c2, c3, c4, c5, c6, c7, c8, c9, c10, c11, c12, c13⟩ := HS13 W hW; first | (go_simp; done) | (go_simp; with_reducible rfl))); rotate_left; simp only [Act.put, List.setIfInBounds_toArray, List.set_cons_zero, List.set_cons_succ])
            (refine qv1 104 (v := ?_) (by rfl) (by rfl) (fun ev hc hf h0 W hW => ?_) ?_; rotate_left; (focus (obtain ⟨c0, c1, c2, c3, c4, c5, c6, c7, c8, c9, c10, c11, c12, c13⟩ := HS13 W hW; first | (go_simp; done) | (go_simp; with_reducible rfl))); rotate_left; simp only [Act.put, List.setIfInBounds_toArray, List.set_cons_zero, List.set_cons_succ])
            first
              | (refine qskip (by rfl) ?_; simp only [Act.put, List.setIfInBounds_toArray, List.set_cons_zero, List.set_cons_succ])
              | (refine qv1 3 (v := ?_) (by rfl) (by rfl) (fun ev hc hf h0 W hW => ?_) ?_; rotate_left; (focus (obtain ⟨c0, c1, c2, c3, c4, c5, c6, c7, c8, c9, c10, c11, c12, c13⟩ := HS13 W hW; first | (go_simp; done) | (go_simp; with_reducible rfl))); rotate_left; simp only [Act.put, List.setIfInBounds_toArray, List.set_cons_zero, List.set_cons_succ])
            first
              | (refine qskip (by rfl) ?_; simp only [Act.put, List.setIfInBounds_toArray, List.set_cons_zero, List.set_cons_succ])
              | (refine qc1 106 _ _ _ (by rfl) (by rfl) (fun ev hc hf h0 W hW => ?_) (fun W hW => q_calls hW (V2.out W hW)) ?_; (focus (obtain ⟨c0, c1, c2, c3, c4, c5, c6, c7, c8, c9, c10, c11, c12, c13⟩ := HS13 W hW; go_simp; done)); simp only [Act.put, List.setIfInBounds_toArray, List.set_cons_zero, List.set_cons_succ])
            first
              | (refine qskip (by rfl) ?_; simp only [Act.put, List.setIfInBounds_toArray, List.set_cons_zero, List.set_cons_succ])
              | (refine qv1 7 (v := ?_) (by rfl) (by rfl) (fun ev hc hf h0 W hW => ?_) ?_; rotate_left; (focus (obtain ⟨c0, c1, c2, c3, c4, c5, c6, c7, c8, c9, c10, c11, c12, c13⟩ := HS13 W hW; first | (go_simp; done) | (go_simp; with_reducible rfl))); rotate_left; simp only [Act.put, List.setIfInBounds_toArray, List.set_cons_zero, List.set_cons_succ])
            first
              | (refine qskip (by rfl) ?_; simp only [Act.put, List.setIfInBounds_toArray, List.set_cons_zero, List.set_cons_succ])
              | (refine qv2 107 108 (v := ?_) (by rfl) (by rfl) (by rfl) (fun ev hc hf h0 h1 W hW => ?_) ?_; rotate_left; (focus (obtain ⟨c0, c1, c2, c3, c4, c5, c6, c7, c8, c9, c10, c11, c12, c13⟩ := HS13 W hW; first | (go_simp; done) | (go_simp; with_reducible rfl))); rotate_left; simp only [Act.put, List.setIfInBounds_toArray, List.set_cons_zero, List.set_cons_succ])
            (refine qv2 105 109 (v := ?_) (by rfl) (by rfl) (by rfl) (fun ev hc hf h0 h1 W hW => ?_) ?_; rotate_left; (focus (obtain ⟨c0, c1, c2, c3, c4, c5, c6, c7, c8, c9, c10, c11, c12, c13⟩ := HS13 W hW; first | (go_simp; done) | (go_simp; with_reducible rfl))); rotate_left; simp only [Act.put, List.setIfInBounds_toArray, List.set_cons_zero, List.set_cons_succ])
            refine qnil ?_
            intro w51 hW51
            have kb51 := KB5.out.bel hW51
            have kp51 := KP5.out.bel hW51
            have kv51 := KV5.out.bel hW51
            have HB51 := HB5.trans (Below.mono hW51 HB5.size)
            clear KB5 KP5 KV5 HB5 HS13 hW51 V1 V2
            generalize w51 = w5 at *
            have kb5 := kb51
            have kp5 := kp51
            have kv5 := kv51
            have HB5 := HB51
            clear kb51 kp51 kv51 HB51
            have ab1 := aboveB_self a.pr a.pn
            have ab2 := aboveB_self a.vr a.vn
            have ab3 := valid_above hval

            have hz5 := HB5.size
            have hg5 := kb5.lt
            go_wp2_with fail
            refine (promised_any w.heap.size (a) _ kb5).mono ?_
            rintro e w6 ⟨rfl, hb6⟩
            have kb6 := kb5.bel hb6
            have kp6 := kp5.bel hb6
            have kv6 := kv5.bel hb6
            have HB6 := HB5.trans (hb6.mono HB5.size)
            clear kb5 kp5 kv5 HB5 hb6 hz5 hg5
            go_wp2_with fail
            refine (vote_any w.heap.size (a) _ kb6).mono ?_
            rintro e w7 ⟨rfl, hb7⟩
            simp only [voteV, Acc.promise, Acc.accept]
            have kb7 := ((kb6.bel hb7).alloc (.cells #[.int .u64 a.pr, .int .i64 a.pn] 24)).alloc (.cells #[.bool a.has, .int .u64 a.vr, .int .i64 a.vn, .string a.val] 46)
            have kp7 := ((kp6.bel hb7).alloc (.cells #[.int .u64 a.pr, .int .i64 a.pn] 24)).alloc (.cells #[.bool a.has, .int .u64 a.vr, .int .i64 a.vn, .string a.val] 46)
            have kv7 := ((kv6.bel hb7).alloc (.cells #[.int .u64 a.pr, .int .i64 a.pn] 24)).alloc (.cells #[.bool a.has, .int .u64 a.vr, .int .i64 a.vn, .string a.val] 46)
            have kq7 := (Bk.new w7 #[.int .u64 a.pr, .int .i64 a.pn] 24).alloc (.cells #[.bool a.has, .int .u64 a.vr, .int .i64 a.vn, .string a.val] 46)
            have kx7 := Bk.new (w7.alloc (.cells #[.int .u64 a.pr, .int .i64 a.pn] 24)) #[.bool a.has, .int .u64 a.vr, .int .i64 a.vn, .string a.val] 46
            rw [World.size_alloc] at kx7
            have HB7 := HB6.trans (hb7.mono HB6.size)
            have HB7 := (HB7.alloc HB7.size (.cells #[.int .u64 a.pr, .int .i64 a.pn] 24)).alloc (by have := HB7.size; simp; omega) (.cells #[.bool a.has, .int .u64 a.vr, .int .i64 a.vn, .string a.val] 46)
            clear kb6 kp6 kv6 HB6 hb7
            go_upto_region 19 with fail
            generalize (w7.alloc (.cells #[.int .u64 a.pr, .int .i64 a.pn] 24)).alloc (.cells #[.bool a.has, .int .u64 a.vr, .int .i64 a.vn, .string a.val] 46) = w8 at *
            have HS19 : ∀ W, Bel w8 W → W.cell? ⟨w2.heap.size, 0, none⟩ = some (.int .u64 a.pr) ∧ W.cell? ⟨w2.heap.size, 1, none⟩ = some (.int .i64 a.pn) ∧ W.cell? ⟨w2.heap.size + 1, 0, none⟩ = some (.bool a.has) ∧ W.cell? ⟨w2.heap.size + 1, 1, none⟩ = some (.int .u64 a.vr) ∧ W.cell? ⟨w2.heap.size + 1, 2, none⟩ = some (.int .i64 a.vn) ∧ W.cell? ⟨w2.heap.size + 1, 3, none⟩ = some (.string a.val) ∧ W.cell? ⟨w7.heap.size, 0, none⟩ = some (.int .u64 a.pr) ∧ W.cell? ⟨w7.heap.size, 1, none⟩ = some (.int .i64 a.pn) ∧ W.cell? ⟨w7.heap.size + 1, 0, none⟩ = some (.bool a.has) ∧ W.cell? ⟨w7.heap.size + 1, 1, none⟩ = some (.int .u64 a.vr) ∧ W.cell? ⟨w7.heap.size + 1, 2, none⟩ = some (.int .i64 a.vn) ∧ W.cell? ⟨w7.heap.size + 1, 3, none⟩ = some (.string a.val) :=
              fun W hW => ⟨(kp7.bel hW).cell 0, (kp7.bel hW).cell 1, (kv7.bel hW).cell 0, (kv7.bel hW).cell 1, (kv7.bel hW).cell 2, (kv7.bel hW).cell 3, (kq7.bel hW).cell 0, (kq7.bel hW).cell 1, (kx7.bel hW).cell 0, (kx7.bel hW).cell 1, (kx7.bel hW).cell 2, (kx7.bel hW).cell 3⟩
            have K1 := Lib.hid (fun (W : World) => above_v false a.pr a.pn a.pr a.pn ab1 W)
            have K2 := Lib.hid (fun (W : World) => above_v false a.vr a.vn a.vr a.vn ab2 W)
            have K3 := Lib.hid (fun (W : World) => above_v false a.vr a.vn a.pr a.pn ab3 W)
            have KB7 := Lib.hid kb7
            have KQ7 := Lib.hid kq7
            have KX7 := Lib.hid kx7
            clear kb7 kp7 kv7 kq7 kx7 ab1 ab2 ab3
            go_wp2_with (with_reducible refine wpList_qw 115 rfl ?_)
            (refine qv1 6 (v := ?_) (by rfl) (by rfl) (fun ev hc hf h0 W hW => ?_) ?_; rotate_left; (focus (obtain ⟨c0, c1, c2, c3, c4, c5, c6, c7, c8, c9, c10, c11⟩ := HS19 W hW; first | (go_simp; done) | (go_simp; with_reducible rfl))); rotate_left; simp only [Act.put, List.setIfInBounds_toArray, List.set_cons_zero, List.set_cons_succ])
            (refine qv1 13 (v := ?_) (by rfl) (by rfl) (fun ev hc hf h0 W hW => ?_) ?_; rotate_left; (focus (obtain ⟨c0, c1, c2, c3, c4, c5, c6, c7, c8, c9, c10, c11⟩ := HS19 W hW; first | (go_simp; done) | (go_simp; with_reducible rfl))); rotate_left; simp only [Act.put, List.setIfInBounds_toArray, List.set_cons_zero, List.set_cons_succ])
            first
              | (refine qc2 115 116 _ _ _ (by rfl) (by rfl) (by rfl) (fun ev hc hf h0 h1 W hW => ?_) (fun W hW => q_calls hW (K1.out W)) ?_; (focus (obtain ⟨c0, c1, c2, c3, c4, c5, c6, c7, c8, c9, c10, c11⟩ := HS19 W hW; go_simp; done)); simp only [Act.put, List.setIfInBounds_toArray, List.set_cons_zero, List.set_cons_succ])
              | (refine qc2 115 116 _ _ _ (by rfl) (by rfl) (by rfl) (fun ev hc hf h0 h1 W hW => ?_) (fun W hW => q_calls hW (K2.out W)) ?_; (focus (obtain ⟨c0, c1, c2, c3, c4, c5, c6, c7, c8, c9, c10, c11⟩ := HS19 W hW; go_simp; done)); simp only [Act.put, List.setIfInBounds_toArray, List.set_cons_zero, List.set_cons_succ])
              | (refine qc2 115 116 _ _ _ (by rfl) (by rfl) (by rfl) (fun ev hc hf h0 h1 W hW => ?_) (fun W hW => q_calls hW (K3.out W)) ?_; (focus (obtain ⟨c0, c1, c2, c3, c4, c5, c6, c7, c8, c9, c10, c11⟩ := HS19 W hW; go_simp; done)); simp only [Act.put, List.setIfInBounds_toArray, List.set_cons_zero, List.set_cons_succ])
            (refine qv1 117 (v := ?_) (by rfl) (by rfl) (fun ev hc hf h0 W hW => ?_) ?_; rotate_left; (focus (obtain ⟨c0, c1, c2, c3, c4, c5, c6, c7, c8, c9, c10, c11⟩ := HS19 W hW; first | (go_simp; done) | (go_simp; with_reducible rfl))); rotate_left; simp only [Act.put, List.setIfInBounds_toArray, List.set_cons_zero, List.set_cons_succ])
            first
              | (refine qskip (by rfl) ?_; simp only [Act.put, List.setIfInBounds_toArray, List.set_cons_zero, List.set_cons_succ])
              | (refine qv1 7 (v := ?_) (by rfl) (by rfl) (fun ev hc hf h0 W hW => ?_) ?_; rotate_left; (focus (obtain ⟨c0, c1, c2, c3, c4, c5, c6, c7, c8, c9, c10, c11⟩ := HS19 W hW; first | (go_simp; done) | (go_simp; with_reducible rfl))); rotate_left; simp only [Act.put, List.setIfInBounds_toArray, List.set_cons_zero, List.set_cons_succ])
            first
              | (refine qskip (by rfl) ?_; simp only [Act.put, List.setIfInBounds_toArray, List.set_cons_zero, List.set_cons_succ])
              | (refine qv1 119 (v := ?_) (by rfl) (by rfl) (fun ev hc hf h0 W hW => ?_) ?_; rotate_left; (focus (obtain ⟨c0, c1, c2, c3, c4, c5, c6, c7, c8, c9, c10, c11⟩ := HS19 W hW; first | (go_simp; done) | (go_simp; with_reducible rfl))); rotate_left; simp only [Act.put, List.setIfInBounds_toArray, List.set_cons_zero, List.set_cons_succ])
            first
              | (refine qskip (by rfl) ?_; simp only [Act.put, List.setIfInBounds_toArray, List.set_cons_zero, List.set_cons_succ])
              | (refine qv1 14 (v := ?_) (by rfl) (by rfl) (fun ev hc hf h0 W hW => ?_) ?_; rotate_left; (focus (obtain ⟨c0, c1, c2, c3, c4, c5, c6, c7, c8, c9, c10, c11⟩ := HS19 W hW; first | (go_simp; done) | (go_simp; with_reducible rfl))); rotate_left; simp only [Act.put, List.setIfInBounds_toArray, List.set_cons_zero, List.set_cons_succ])
            first
              | (refine qskip (by rfl) ?_; simp only [Act.put, List.setIfInBounds_toArray, List.set_cons_zero, List.set_cons_succ])
              | (refine qv1 121 (v := ?_) (by rfl) (by rfl) (fun ev hc hf h0 W hW => ?_) ?_; rotate_left; (focus (obtain ⟨c0, c1, c2, c3, c4, c5, c6, c7, c8, c9, c10, c11⟩ := HS19 W hW; first | (go_simp; done) | (go_simp; with_reducible rfl))); rotate_left; simp only [Act.put, List.setIfInBounds_toArray, List.set_cons_zero, List.set_cons_succ])
            first
              | (refine qskip (by rfl) ?_; simp only [Act.put, List.setIfInBounds_toArray, List.set_cons_zero, List.set_cons_succ])
              | (refine qc2 120 122 _ _ _ (by rfl) (by rfl) (by rfl) (fun ev hc hf h0 h1 W hW => ?_) (fun W hW => q_calls hW (K1.out W)) ?_; (focus (obtain ⟨c0, c1, c2, c3, c4, c5, c6, c7, c8, c9, c10, c11⟩ := HS19 W hW; go_simp; done)); simp only [Act.put, List.setIfInBounds_toArray, List.set_cons_zero, List.set_cons_succ])
              | (refine qc2 120 122 _ _ _ (by rfl) (by rfl) (by rfl) (fun ev hc hf h0 h1 W hW => ?_) (fun W hW => q_calls hW (K2.out W)) ?_; (focus (obtain ⟨c0, c1, c2, c3, c4, c5, c6, c7, c8, c9, c10, c11⟩ := HS19 W hW; go_simp; done)); simp only [Act.put, List.setIfInBounds_toArray, List.set_cons_zero, List.set_cons_succ])
              | (refine qc2 120 122 _ _ _ (by rfl) (by rfl) (by rfl) (fun ev hc hf h0 h1 W hW => ?_) (fun W hW => q_calls hW (K3.out W)) ?_; (focus (obtain ⟨c0, c1, c2, c3, c4, c5, c6, c7, c8, c9, c10, c11⟩ := HS19 W hW; go_simp; done)); simp only [Act.put, List.setIfInBounds_toArray, List.set_cons_zero, List.set_cons_succ])
            (refine qv2 118 123 (v := ?_) (by rfl) (by rfl) (by rfl) (fun ev hc hf h0 h1 W hW => ?_) ?_; rotate_left; (focus (obtain ⟨c0, c1, c2, c3, c4, c5, c6, c7, c8, c9, c10, c11⟩ := HS19 W hW; first | (go_simp; done) | (go_simp; with_reducible rfl))); rotate_left; simp only [Act.put, List.setIfInBounds_toArray, List.set_cons_zero, List.set_cons_succ])
            (refine qv1 124 (v := ?_) (by rfl) (by rfl) (fun ev hc hf h0 W hW => ?_) ?_; rotate_left; (focus (obtain ⟨c0, c1, c2, c3, c4, c5, c6, c7, c8, c9, c10, c11⟩ := HS19 W hW; first | (go_simp; done) | (go_simp; with_reducible rfl))); rotate_left; simp only [Act.put, List.setIfInBounds_toArray, List.set_cons_zero, List.set_cons_succ])
            first
              | (refine qskip (by rfl) ?_; simp only [Act.put, List.setIfInBounds_toArray, List.set_cons_zero, List.set_cons_succ])
              | (refine qv1 14 (v := ?_) (by rfl) (by rfl) (fun ev hc hf h0 W hW => ?_) ?_; rotate_left; (focus (obtain ⟨c0, c1, c2, c3, c4, c5, c6, c7, c8, c9, c10, c11⟩ := HS19 W hW; first | (go_simp; done) | (go_simp; with_reducible rfl))); rotate_left; simp only [Act.put, List.setIfInBounds_toArray, List.set_cons_zero, List.set_cons_succ])
            first
              | (refine qskip (by rfl) ?_; simp only [Act.put, List.setIfInBounds_toArray, List.set_cons_zero, List.set_cons_succ])
              | (refine qv1 126 (v := ?_) (by rfl) (by rfl) (fun ev hc hf h0 W hW => ?_) ?_; rotate_left; (focus (obtain ⟨c0, c1, c2, c3, c4, c5, c6, c7, c8, c9, c10, c11⟩ := HS19 W hW; first | (go_simp; done) | (go_simp; with_reducible rfl))); rotate_left; simp only [Act.put, List.setIfInBounds_toArray, List.set_cons_zero, List.set_cons_succ])
            first
              | (refine qskip (by rfl) ?_; simp only [Act.put, List.setIfInBounds_toArray, List.set_cons_zero, List.set_cons_succ])
              | (refine qv1 13 (v := ?_) (by rfl) (by rfl) (fun ev hc hf h0 W hW => ?_) ?_; rotate_left; (focus (obtain ⟨c0, c1, c2, c3, c4, c5, c6, c7, c8, c9, c10, c11⟩ := HS19 W hW; first | (go_simp; done) | (go_simp; with_reducible rfl))); rotate_left; simp only [Act.put, List.setIfInBounds_toArray, List.set_cons_zero, List.set_cons_succ])
            first
              | (refine qskip (by rfl) ?_; simp only [Act.put, List.setIfInBounds_toArray, List.set_cons_zero, List.set_cons_succ])
              | (refine qc2 127 128 _ _ _ (by rfl) (by rfl) (by rfl) (fun ev hc hf h0 h1 W hW => ?_) (fun W hW => q_calls hW (K1.out W)) ?_; (focus (obtain ⟨c0, c1, c2, c3, c4, c5, c6, c7, c8, c9, c10, c11⟩ := HS19 W hW; go_simp; done)); simp only [Act.put, List.setIfInBounds_toArray, List.set_cons_zero, List.set_cons_succ])
              | (refine qc2 127 128 _ _ _ (by rfl) (by rfl) (by rfl) (fun ev hc hf h0 h1 W hW => ?_) (fun W hW => q_calls hW (K2.out W)) ?_; (focus (obtain ⟨c0, c1, c2, c3, c4, c5, c6, c7, c8, c9, c10, c11⟩ := HS19 W hW; go_simp; done)); simp only [Act.put, List.setIfInBounds_toArray, List.set_cons_zero, List.set_cons_succ])
              | (refine qc2 127 128 _ _ _ (by rfl) (by rfl) (by rfl) (fun ev hc hf h0 h1 W hW => ?_) (fun W hW => q_calls hW (K3.out W)) ?_; (focus (obtain ⟨c0, c1, c2, c3, c4, c5, c6, c7, c8, c9, c10, c11⟩ := HS19 W hW; go_simp; done)); simp only [Act.put, List.setIfInBounds_toArray, List.set_cons_zero, List.set_cons_succ])
            (refine qv2 125 129 (v := ?_) (by rfl) (by rfl) (by rfl) (fun ev hc hf h0 h1 W hW => ?_) ?_; rotate_left; (focus (obtain ⟨c0, c1, c2, c3, c4, c5, c6, c7, c8, c9, c10, c11⟩ := HS19 W hW; first | (go_simp; done) | (go_simp; with_reducible rfl))); rotate_left; simp only [Act.put, List.setIfInBounds_toArray, List.set_cons_zero, List.set_cons_succ])
            refine qnil ?_
            intro w9 hW9
            have kb9 := KB7.out.bel hW9
            have kq9 := KQ7.out.bel hW9
            have kx9 := KX7.out.bel hW9
            have HB9 := HB7.trans (Below.mono hW9 HB7.size)
            clear KB7 KQ7 KX7 HB7 HS19 K1 K2 K3 hW9
            have q0 : w9.cell? ⟨w7.heap.size, 0, none⟩ = _ := kq9.cell 0
            have q1 : w9.cell? ⟨w7.heap.size, 1, none⟩ = _ := kq9.cell 1
            simp at q0 q1
            obtain ⟨x0, x1, x2, x3, _, _, _, _⟩ := kx9.vote
            go_wp2_with fail
            refine (load_any a.pr a.pn a.has a.vr a.vn a.val _ hvs).mono ?_
            rintro e w10 (⟨hx, _, _⟩ | ⟨_, g2, hg2, rfl, kg, hb10⟩)
            · rw [hval] at hx; cases hx
            have kb10 := kb9.bel hb10
            have kq10 := kq9.bel hb10
            have kx10 := kx9.bel hb10
            have HB10 := HB9.trans (hb10.mono HB9.size)
            clear q0 q1 x0 x1 x2 x3 kb9 kq9 kx9 HB9 hb10 hg2
            have HS22 : ∀ W, Bel w10 W → W.cell? ⟨w7.heap.size, 0, none⟩ = some (.int .u64 a.pr) ∧ W.cell? ⟨w7.heap.size, 1, none⟩ = some (.int .i64 a.pn) ∧ W.cell? ⟨w7.heap.size + 1, 0, none⟩ = some (.bool a.has) ∧ W.cell? ⟨w7.heap.size + 1, 1, none⟩ = some (.int .u64 a.vr) ∧ W.cell? ⟨w7.heap.size + 1, 2, none⟩ = some (.int .i64 a.vn) ∧ W.cell? ⟨w7.heap.size + 1, 3, none⟩ = some (.string a.val) :=
              fun W hW => ⟨(kq10.bel hW).cell 0, (kq10.bel hW).cell 1, (kx10.bel hW).cell 0, (kx10.bel hW).cell 1, (kx10.bel hW).cell 2, (kx10.bel hW).cell 3⟩
            have V1 : Hid (∀ W, Bel w10 W → Calls Try.prog 31 #[.pointer (some ⟨g2, 0, none⟩)] W fun e W' => e = .returned (.agg #[.int .u64 a.pr, .int .i64 a.pn]) ∧ Below W.heap.size W W') := Lib.hid (fun W hW => promised_any (g2) (Acc.mk a.pr a.pn a.has a.vr a.vn a.val) W (kg.bel hW))
            have V2 : Hid (∀ W, Bel w10 W → Calls Try.prog 32 #[.pointer (some ⟨g2, 0, none⟩)] W fun e W' => e = .returned (.agg #[.bool a.has, .int .u64 a.vr, .int .i64 a.vn, .string a.val]) ∧ Below W.heap.size W W') := Lib.hid (fun W hW => vote_any (g2) (Acc.mk a.pr a.pn a.has a.vr a.vn a.val) W (kg.bel hW))
            have KB10 := Lib.hid kb10
            have HV := Lib.hid hval
            clear kg kb10 kq10 kx10 hval
            go_upto_region 22 with fail
            refine wp_qw (by kernel_rfl) ?_
            (refine qv1 16 (v := ?_) (by rfl) (by rfl) (fun ev hc hf h0 W hW => ?_) ?_; rotate_left; (focus (obtain ⟨c0, c1, c2, c3, c4, c5⟩ := HS22 W hW; first | (go_simp; done) | (go_simp; with_reducible rfl))); rotate_left; simp only [Act.put, List.setIfInBounds_toArray, List.set_cons_zero, List.set_cons_succ])
            (refine qv1 137 (v := ?_) (by rfl) (by rfl) (fun ev hc hf h0 W hW => ?_) ?_; rotate_left; (focus (obtain ⟨c0, c1, c2, c3, c4, c5⟩ := HS22 W hW; first | (go_simp; done) | (go_simp; with_reducible rfl))); rotate_left; simp only [Act.put, List.setIfInBounds_toArray, List.set_cons_zero, List.set_cons_succ])
            (refine qv1 138 (v := ?_) (by rfl) (by rfl) (fun ev hc hf h0 W hW => ?_) ?_; rotate_left; (focus (obtain ⟨c0, c1, c2, c3, c4, c5⟩ := HS22 W hW; first | (go_simp; done) | (go_simp; with_reducible rfl))); rotate_left; simp only [Act.put, List.setIfInBounds_toArray, List.set_cons_zero, List.set_cons_succ])
            first
              | (refine qskip (by rfl) ?_; simp only [Act.put, List.setIfInBounds_toArray, List.set_cons_zero, List.set_cons_succ])
              | (refine qv1 15 (v := ?_) (by rfl) (by rfl) (fun ev hc hf h0 W hW => ?_) ?_; rotate_left; (focus (obtain ⟨c0, c1, c2, c3, c4, c5⟩ := HS22 W hW; first | (go_simp; done) | (go_simp; with_reducible rfl))); rotate_left; simp only [Act.put, List.setIfInBounds_toArray, List.set_cons_zero, List.set_cons_succ])
            first
              | (refine qskip (by rfl) ?_; simp only [Act.put, List.setIfInBounds_toArray, List.set_cons_zero, List.set_cons_succ])
              | (refine qv1 140 (v := ?_) (by rfl) (by rfl) (fun ev hc hf h0 W hW => ?_) ?_; rotate_left; (focus (obtain ⟨c0, c1, c2, c3, c4, c5⟩ := HS22 W hW; first | (go_simp; done) | (go_simp; with_reducible rfl))); rotate_left; simp only [Act.put, List.setIfInBounds_toArray, List.set_cons_zero, List.set_cons_succ])
            (refine qv2 139 141 (v := ?_) (by rfl) (by rfl) (by rfl) (fun ev hc hf h0 h1 W hW => ?_) ?_; rotate_left; (focus (obtain ⟨c0, c1, c2, c3, c4, c5⟩ := HS22 W hW; first | (go_simp; done) | (go_simp; with_reducible rfl))); rotate_left; simp only [Act.put, List.setIfInBounds_toArray, List.set_cons_zero, List.set_cons_succ])
            (refine qv1 142 (v := ?_) (by rfl) (by rfl) (fun ev hc hf h0 W hW => ?_) ?_; rotate_left; (focus (obtain ⟨c0, c1, c2, c3, c4, c5⟩ := HS22 W hW; first | (go_simp; done) | (go_simp; with_reducible rfl))); rotate_left; simp only [Act.put, List.setIfInBounds_toArray, List.set_cons_zero, List.set_cons_succ])
            first
              | (refine qskip (by rfl) ?_; simp only [Act.put, List.setIfInBounds_toArray, List.set_cons_zero, List.set_cons_succ])
              | (refine qv1 15 (v := ?_) (by rfl) (by rfl) (fun ev hc hf h0 W hW => ?_) ?_; rotate_left; (focus (obtain ⟨c0, c1, c2, c3, c4, c5⟩ := HS22 W hW; first | (go_simp; done) | (go_simp; with_reducible rfl))); rotate_left; simp only [Act.put, List.setIfInBounds_toArray, List.set_cons_zero, List.set_cons_succ])
            first
              | (refine qskip (by rfl) ?_; simp only [Act.put, List.setIfInBounds_toArray, List.set_cons_zero, List.set_cons_succ])
              | (refine qc1 144 _ _ _ (by rfl) (by rfl) (fun ev hc hf h0 W hW => ?_) (fun W hW => q_calls hW (V1.out W hW)) ?_; (focus (obtain ⟨c0, c1, c2, c3, c4, c5⟩ := HS22 W hW; go_simp; done)); simp only [Act.put, List.setIfInBounds_toArray, List.set_cons_zero, List.set_cons_succ])
            first
              | (refine qskip (by rfl) ?_; simp only [Act.put, List.setIfInBounds_toArray, List.set_cons_zero, List.set_cons_succ])
              | (refine qv1 13 (v := ?_) (by rfl) (by rfl) (fun ev hc hf h0 W hW => ?_) ?_; rotate_left; (focus (obtain ⟨c0, c1, c2, c3, c4, c5⟩ := HS22 W hW; first | (go_simp; done) | (go_simp; with_reducible rfl))); rotate_left; simp only [Act.put, List.setIfInBounds_toArray, List.set_cons_zero, List.set_cons_succ])
            first
              | (refine qskip (by rfl) ?_; simp only [Act.put, List.setIfInBounds_toArray, List.set_cons_zero, List.set_cons_succ])
              | (refine qv2 145 146 (v := ?_) (by rfl) (by rfl) (by rfl) (fun ev hc hf h0 h1 W hW => ?_) ?_; rotate_left; (focus (obtain ⟨c0, c1, c2, c3, c4, c5⟩ := HS22 W hW; first | (go_simp; done) | (go_simp; with_reducible rfl))); rotate_left; simp only [Act.put, List.setIfInBounds_toArray, List.set_cons_zero, List.set_cons_succ])
            (refine qv2 143 147 (v := ?_) (by rfl) (by rfl) (by rfl) (fun ev hc hf h0 h1 W hW => ?_) ?_; rotate_left; (focus (obtain ⟨c0, c1, c2, c3, c4, c5⟩ := HS22 W hW; first | (go_simp; done) | (go_simp; with_reducible rfl))); rotate_left; simp only [Act.put, List.setIfInBounds_toArray, List.set_cons_zero, List.set_cons_succ])
            (refine qv1 148 (v := ?_) (by rfl) (by rfl) (fun ev hc hf h0 W hW => ?_) ?_; rotate_left; (focus (obtain ⟨c0, c1, c2, c3, c4, c5⟩ := HS22 W hW; first | (go_simp; done) | (go_simp; with_reducible rfl))); rotate_left; simp only [Act.put, List.setIfInBounds_toArray, List.set_cons_zero, List.set_cons_succ])
            first
              | (refine qskip (by rfl) ?_; simp only [Act.put, List.setIfInBounds_toArray, List.set_cons_zero, List.set_cons_succ])
              | (refine qv1 15 (v := ?_) (by rfl) (by rfl) (fun ev hc hf h0 W hW => ?_) ?_; rotate_left; (focus (obtain ⟨c0, c1, c2, c3, c4, c5⟩ := HS22 W hW; first | (go_simp; done) | (go_simp; with_reducible rfl))); rotate_left; simp only [Act.put, List.setIfInBounds_toArray, List.set_cons_zero, List.set_cons_succ])
            first
              | (refine qskip (by rfl) ?_; simp only [Act.put, List.setIfInBounds_toArray, List.set_cons_zero, List.set_cons_succ])
              | (refine qc1 150 _ _ _ (by rfl) (by rfl) (fun ev hc hf h0 W hW => ?_) (fun W hW => q_calls hW (V2.out W hW)) ?_; (focus (obtain ⟨c0, c1, c2, c3, c4, c5⟩ := HS22 W hW; go_simp; done)); simp only [Act.put, List.setIfInBounds_toArray, List.set_cons_zero, List.set_cons_succ])
            first
              | (refine qskip (by rfl) ?_; simp only [Act.put, List.setIfInBounds_toArray, List.set_cons_zero, List.set_cons_succ])
              | (refine qv1 14 (v := ?_) (by rfl) (by rfl) (fun ev hc hf h0 W hW => ?_) ?_; rotate_left; (focus (obtain ⟨c0, c1, c2, c3, c4, c5⟩ := HS22 W hW; first | (go_simp; done) | (go_simp; with_reducible rfl))); rotate_left; simp only [Act.put, List.setIfInBounds_toArray, List.set_cons_zero, List.set_cons_succ])
            first
              | (refine qskip (by rfl) ?_; simp only [Act.put, List.setIfInBounds_toArray, List.set_cons_zero, List.set_cons_succ])
              | (refine qv2 151 152 (v := ?_) (by rfl) (by rfl) (by rfl) (fun ev hc hf h0 h1 W hW => ?_) ?_; rotate_left; (focus (obtain ⟨c0, c1, c2, c3, c4, c5⟩ := HS22 W hW; first | (go_simp; done) | (go_simp; with_reducible rfl))); rotate_left; simp only [Act.put, List.setIfInBounds_toArray, List.set_cons_zero, List.set_cons_succ])
            (refine qv2 149 153 (v := ?_) (by rfl) (by rfl) (by rfl) (fun ev hc hf h0 h1 W hW => ?_) ?_; rotate_left; (focus (obtain ⟨c0, c1, c2, c3, c4, c5⟩ := HS22 W hW; first | (go_simp; done) | (go_simp; with_reducible rfl))); rotate_left; simp only [Act.put, List.setIfInBounds_toArray, List.set_cons_zero, List.set_cons_succ])
            refine qnil ?_
            intro w11 hW11
            go_wp2
            go_roundw
            case rel => exact ⟨k + 1, a, by omega, by go_num, KB10.out.bel hW11, HV.out, hvs, HB10.trans (Below.mono hW11 HB10.size)⟩
            case measure => simp [intOf]; omega
          · rw [h] at kb4 ⊢
            simp only [Acc.vote, voteV, Acc.zero]
            clear h
            have kb5 := kb4.alloc (.cells #[.bool a.has, .int .u64 a.vr, .int .i64 a.vn, .string a.val] 46)
            have kp5 := kp4.alloc (.cells #[.bool a.has, .int .u64 a.vr, .int .i64 a.vn, .string a.val] 46)
            have kv5 := kv4.alloc (.cells #[.bool a.has, .int .u64 a.vr, .int .i64 a.vn, .string a.val] 46)
            have ks5 := ks4.alloc (.cells #[.bool a.has, .int .u64 a.vr, .int .i64 a.vn, .string a.val] 46)
            have kw5 := Bk.new w4 #[.bool a.has, .int .u64 a.vr, .int .i64 a.vn, .string a.val] 46
            have HB5 := HB4.alloc HB4.size (.cells #[.bool a.has, .int .u64 a.vr, .int .i64 a.vn, .string a.val] 46)
            clear kb4 kp4 kv4 ks4 HB4
            go_upto_region 16 with fail
            generalize hw5 : w4.alloc (.cells #[.bool a.has, .int .u64 a.vr, .int .i64 a.vn, .string a.val] 46) = w5 at *
            have HS13 : ∀ W, Bel w5 W → W.cell? ⟨wr.heap.size, 0, none⟩ = some (.int .u64 r) ∧ W.cell? ⟨wr.heap.size, 1, none⟩ = some (.int .i64 n) ∧ W.cell? ⟨wr.heap.size, 2, none⟩ = some (.bool false) ∧ W.cell? ⟨wr.heap.size, 3, none⟩ = some (.string v) ∧ W.cell? ⟨w2.heap.size, 0, none⟩ = some (.int .u64 a.pr) ∧ W.cell? ⟨w2.heap.size, 1, none⟩ = some (.int .i64 a.pn) ∧ W.cell? ⟨w2.heap.size + 1, 0, none⟩ = some (.bool a.has) ∧ W.cell? ⟨w2.heap.size + 1, 1, none⟩ = some (.int .u64 a.vr) ∧ W.cell? ⟨w2.heap.size + 1, 2, none⟩ = some (.int .i64 a.vn) ∧ W.cell? ⟨w2.heap.size + 1, 3, none⟩ = some (.string a.val) ∧ W.cell? ⟨w4.heap.size, 0, none⟩ = some (.bool a.has) ∧ W.cell? ⟨w4.heap.size, 1, none⟩ = some (.int .u64 a.vr) ∧ W.cell? ⟨w4.heap.size, 2, none⟩ = some (.int .i64 a.vn) ∧ W.cell? ⟨w4.heap.size, 3, none⟩ = some (.string a.val) :=
              fun W hW => ⟨(ks5.bel hW).cell 0, (ks5.bel hW).cell 1, (ks5.bel hW).cell 2, (ks5.bel hW).cell 3, (kp5.bel hW).cell 0, (kp5.bel hW).cell 1, (kv5.bel hW).cell 0, (kv5.bel hW).cell 1, (kv5.bel hW).cell 2, (kv5.bel hW).cell 3, (kw5.bel hW).cell 0, (kw5.bel hW).cell 1, (kw5.bel hW).cell 2, (kw5.bel hW).cell 3⟩
            have V1 : Hid (∀ W, Bel w5 W → Calls Try.prog 31 #[.pointer (some ⟨w.heap.size, 0, none⟩)] W fun e W' => e = .returned (.agg #[.int .u64 r, .int .i64 n]) ∧ Below W.heap.size W W') := Lib.hid (fun W hW => promised_any (w.heap.size) (a.promise r n) W (kb5.bel hW))
            have V2 : Hid (∀ W, Bel w5 W → Calls Try.prog 32 #[.pointer (some ⟨w.heap.size, 0, none⟩)] W fun e W' => e = .returned (.agg #[.bool a.has, .int .u64 a.vr, .int .i64 a.vn, .string a.val]) ∧ Below W.heap.size W W') := Lib.hid (fun W hW => vote_any (w.heap.size) (a.promise r n) W (kb5.bel hW))
            have KB5 := Lib.hid kb5
            have KP5 := Lib.hid kp5
            have KV5 := Lib.hid kv5
            clear kb5 kp5 kv5 ks5 kw5 hw5
            refine wp_qw (by kernel_rfl) ?_
            (refine qv1 10 (v := ?_) (by rfl) (by rfl) (fun ev hc hf h0 W hW => ?_) ?_; rotate_left; (focus (obtain ⟨c0, c1, c2, c3, c4, c5, c6, c7, c8, c9, c10, c11, c12, c13⟩ := HS13 W hW; first | (go_simp; done) | (go_simp; with_reducible rfl))); rotate_left; simp only [Act.put, List.setIfInBounds_toArray, List.set_cons_zero, List.set_cons_succ])
            (refine qv1 83 (v := ?_) (by rfl) (by rfl) (fun ev hc hf h0 W hW => ?_) ?_; rotate_left; (focus (obtain ⟨c0, c1, c2, c3, c4, c5, c6, c7, c8, c9, c10, c11, c12, c13⟩ := HS13 W hW; first | (go_simp; done) | (go_simp; with_reducible rfl))); rotate_left; simp only [Act.put, List.setIfInBounds_toArray, List.set_cons_zero, List.set_cons_succ])
            first
              | (refine qskip (by rfl) ?_; simp only [Act.put, List.setIfInBounds_toArray, List.set_cons_zero, List.set_cons_succ])
              | (refine qv1 11 (v := ?_) (by rfl) (by rfl) (fun ev hc hf h0 W hW => ?_) ?_; rotate_left; (focus (obtain ⟨c0, c1, c2, c3, c4, c5, c6, c7, c8, c9, c10, c11, c12, c13⟩ := HS13 W hW; first | (go_simp; done) | (go_simp; with_reducible rfl))); rotate_left; simp only [Act.put, List.setIfInBounds_toArray, List.set_cons_zero, List.set_cons_succ])
            first
              | (refine qskip (by rfl) ?_; simp only [Act.put, List.setIfInBounds_toArray, List.set_cons_zero, List.set_cons_succ])
              | (refine qv1 7 (v := ?_) (by rfl) (by rfl) (fun ev hc hf h0 W hW => ?_) ?_; rotate_left; (focus (obtain ⟨c0, c1, c2, c3, c4, c5, c6, c7, c8, c9, c10, c11, c12, c13⟩ := HS13 W hW; first | (go_simp; done) | (go_simp; with_reducible rfl))); rotate_left; simp only [Act.put, List.setIfInBounds_toArray, List.set_cons_zero, List.set_cons_succ])
            first
              | (refine qskip (by rfl) ?_; simp only [Act.put, List.setIfInBounds_toArray, List.set_cons_zero, List.set_cons_succ])
              | (refine qv2 85 86 (v := ?_) (by rfl) (by rfl) (by rfl) (fun ev hc hf h0 h1 W hW => ?_) ?_; rotate_left; (focus (obtain ⟨c0, c1, c2, c3, c4, c5, c6, c7, c8, c9, c10, c11, c12, c13⟩ := HS13 W hW; first | (go_simp; done) | (go_simp; with_reducible rfl))); rotate_left; simp only [Act.put, List.setIfInBounds_toArray, List.set_cons_zero, List.set_cons_succ])
            first
              | (refine qskip (by rfl) ?_; simp only [Act.put, List.setIfInBounds_toArray, List.set_cons_zero, List.set_cons_succ])
              | (refine qv1 87 (v := ?_) (by rfl) (by rfl) (fun ev hc hf h0 W hW => ?_) ?_; rotate_left; (focus (obtain ⟨c0, c1, c2, c3, c4, c5, c6, c7, c8, c9, c10, c11, c12, c13⟩ := HS13 W hW; first | (go_simp; done) | (go_simp; with_reducible rfl))); rotate_left; simp only [Act.put, List.setIfInBounds_toArray, List.set_cons_zero, List.set_cons_succ])
            first
              | (refine qskip (by rfl) ?_; simp only [Act.put, List.setIfInBounds_toArray, List.set_cons_zero, List.set_cons_succ])
              | (refine qv1 3 (v := ?_) (by rfl) (by rfl) (fun ev hc hf h0 W hW => ?_) ?_; rotate_left; (focus (obtain ⟨c0, c1, c2, c3, c4, c5, c6, c7, c8, c9, c10, c11, c12, c13⟩ := HS13 W hW; first | (go_simp; done) | (go_simp; with_reducible rfl))); rotate_left; simp only [Act.put, List.setIfInBounds_toArray, List.set_cons_zero, List.set_cons_succ])
            first
              | (refine qskip (by rfl) ?_; simp only [Act.put, List.setIfInBounds_toArray, List.set_cons_zero, List.set_cons_succ])
              | (refine qc1 89 _ _ _ (by rfl) (by rfl) (fun ev hc hf h0 W hW => ?_) (fun W hW => q_calls hW (V1.out W hW)) ?_; (focus (obtain ⟨c0, c1, c2, c3, c4, c5, c6, c7, c8, c9, c10, c11, c12, c13⟩ := HS13 W hW; go_simp; done)); simp only [Act.put, List.setIfInBounds_toArray, List.set_cons_zero, List.set_cons_succ])
            first
              | (refine qskip (by rfl) ?_; simp only [Act.put, List.setIfInBounds_toArray, List.set_cons_zero, List.set_cons_succ])
              | (refine qv1 5 (v := ?_) (by rfl) (by rfl) (fun ev hc hf h0 W hW => ?_) ?_; rotate_left; (focus (obtain ⟨c0, c1, c2, c3, c4, c5, c6, c7, c8, c9, c10, c11, c12, c13⟩ := HS13 W hW; first | (go_simp; done) | (go_simp; with_reducible rfl))); rotate_left; simp only [Act.put, List.setIfInBounds_toArray, List.set_cons_zero, List.set_cons_succ])
            first
              | (refine qskip (by rfl) ?_; simp only [Act.put, List.setIfInBounds_toArray, List.set_cons_zero, List.set_cons_succ])
              | (refine qv1 91 (v := ?_) (by rfl) (by rfl) (fun ev hc hf h0 W hW => ?_) ?_; rotate_left; (focus (obtain ⟨c0, c1, c2, c3, c4, c5, c6, c7, c8, c9, c10, c11, c12, c13⟩ := HS13 W hW; first | (go_simp; done) | (go_simp; with_reducible rfl))); rotate_left; simp only [Act.put, List.setIfInBounds_toArray, List.set_cons_zero, List.set_cons_succ])
            first
              | (refine qskip (by rfl) ?_; simp only [Act.put, List.setIfInBounds_toArray, List.set_cons_zero, List.set_cons_succ])
              | (refine qv2 90 92 (v := ?_) (by rfl) (by rfl) (by rfl) (fun ev hc hf h0 h1 W hW => ?_) ?_; rotate_left; (focus (obtain ⟨c0, c1, c2, c3, c4, c5, c6, c7, c8, c9, c10, c11, c12, c13⟩ := HS13 W hW; first | (go_simp; done) | (go_simp; with_reducible rfl))); rotate_left; simp only [Act.put, List.setIfInBounds_toArray, List.set_cons_zero, List.set_cons_succ])
            first
              | (refine qskip (by rfl) ?_; simp only [Act.put, List.setIfInBounds_toArray, List.set_cons_zero, List.set_cons_succ])
              | (refine qv2 88 93 (v := ?_) (by rfl) (by rfl) (by rfl) (fun ev hc hf h0 h1 W hW => ?_) ?_; rotate_left; (focus (obtain ⟨c0, c1, c2, c3, c4, c5, c6, c7, c8, c9, c10, c11, c12, c13⟩ := HS13 W hW; first | (go_simp; done) | (go_simp; with_reducible rfl))); rotate_left; simp only [Act.put, List.setIfInBounds_toArray, List.set_cons_zero, List.set_cons_succ])
            (refine qv2 84 94 (v := ?_) (by rfl) (by rfl) (by rfl) (fun ev hc hf h0 h1 W hW => ?_) ?_; rotate_left; (focus (obtain ⟨c0, c1, c2, c3, c4, c5, c6, c7, c8, c9, c10, c11, c12, c13⟩ := HS13 W hW; first | (go_simp; done) | (go_simp; with_reducible rfl))); rotate_left; simp only [Act.put, List.setIfInBounds_toArray, List.set_cons_zero, List.set_cons_succ])
            (refine qv1 95 (v := ?_) (by rfl) (by rfl) (fun ev hc hf h0 W hW => ?_) ?_; rotate_left; (focus (obtain ⟨c0, c1, c2, c3, c4, c5, c6, c7, c8, c9, c10, c11, c12, c13⟩ := HS13 W hW; first | (go_simp; done) | (go_simp; with_reducible rfl))); rotate_left; simp only [Act.put, List.setIfInBounds_toArray, List.set_cons_zero, List.set_cons_succ])
            first
              | (refine qskip (by rfl) ?_; simp only [Act.put, List.setIfInBounds_toArray, List.set_cons_zero, List.set_cons_succ])
              | (refine qv1 10 (v := ?_) (by rfl) (by rfl) (fun ev hc hf h0 W hW => ?_) ?_; rotate_left; (focus (obtain ⟨c0, c1, c2, c3, c4, c5, c6, c7, c8, c9, c10, c11, c12, c13⟩ := HS13 W hW; first | (go_simp; done) | (go_simp; with_reducible rfl))); rotate_left; simp only [Act.put, List.setIfInBounds_toArray, List.set_cons_zero, List.set_cons_succ])
            first
              | (refine qskip (by rfl) ?_; simp only [Act.put, List.setIfInBounds_toArray, List.set_cons_zero, List.set_cons_succ])
              | (refine qv1 97 (v := ?_) (by rfl) (by rfl) (fun ev hc hf h0 W hW => ?_) ?_; rotate_left; (focus (obtain ⟨c0, c1, c2, c3, c4, c5, c6, c7, c8, c9, c10, c11, c12, c13⟩ := HS13 W hW; first | (go_simp; done) | (go_simp; with_reducible rfl))); rotate_left; simp only [Act.put, List.setIfInBounds_toArray, List.set_cons_zero, List.set_cons_succ])
            first
              | (refine qskip (by rfl) ?_; simp only [Act.put, List.setIfInBounds_toArray, List.set_cons_zero, List.set_cons_succ])
              | (refine qv1 98 (v := ?_) (by rfl) (by rfl) (fun ev hc hf h0 W hW => ?_) ?_; rotate_left; (focus (obtain ⟨c0, c1, c2, c3, c4, c5, c6, c7, c8, c9, c10, c11, c12, c13⟩ := HS13 W hW; first | (go_simp; done) | (go_simp; with_reducible rfl))); rotate_left; simp only [Act.put, List.setIfInBounds_toArray, List.set_cons_zero, List.set_cons_succ])
            first
              | (refine qskip (by rfl) ?_; simp only [Act.put, List.setIfInBounds_toArray, List.set_cons_zero, List.set_cons_succ])
              | (refine qv1 11 (v := ?_) (by rfl) (by rfl) (fun ev hc hf h0 W hW => ?_) ?_; rotate_left; (focus (obtain ⟨c0, c1, c2, c3, c4, c5, c6, c7, c8, c9, c10, c11, c12, c13⟩ := HS13 W hW; first | (go_simp; done) | (go_simp; with_reducible rfl))); rotate_left; simp only [Act.put, List.setIfInBounds_toArray, List.set_cons_zero, List.set_cons_succ])
            first
              | (refine qskip (by rfl) ?_; simp only [Act.put, List.setIfInBounds_toArray, List.set_cons_zero, List.set_cons_succ])
              | (refine qv0  (v := ?_) (by rfl) (fun ev hc hf  W hW => ?_) ?_; rotate_left; (focus (obtain ⟨c0, c1, c2, c3, c4, c5, c6, c7, c8, c9, c10, c11, c12, c13⟩ := HS13 W hW; first | (go_simp; done) | (go_simp; with_reducible rfl))); rotate_left; simp only [Act.put, List.setIfInBounds_toArray, List.set_cons_zero, List.set_cons_succ])
            first
              | (refine qskip (by rfl) ?_; simp only [Act.put, List.setIfInBounds_toArray, List.set_cons_zero, List.set_cons_succ])
              | (refine qv2 100 101 (v := ?_) (by rfl) (by rfl) (by rfl) (fun ev hc hf h0 h1 W hW => ?_) ?_; rotate_left; (focus (obtain ⟨c0, c1, c2, c3, c4, c5, c6, c7, c8, c9, c10, c11, c12, c13⟩ := HS13 W hW; first | (go_simp; done) | (go_simp; with_reducible rfl))); rotate_left; simp only [Act.put, List.setIfInBounds_toArray, List.set_cons_zero, List.set_cons_succ])
            first
              | (refine qskip (by rfl) ?_; simp only [Act.put, List.setIfInBounds_toArray, List.set_cons_zero, List.set_cons_succ])
              | (refine qv2 99 102 (v := ?_) (by rfl) (by rfl) (by rfl) (fun ev hc hf h0 h1 W hW => ?_) ?_; rotate_left; (focus (obtain ⟨c0, c1, c2, c3, c4, c5, c6, c7, c8, c9, c10, c11, c12, c13⟩ := HS13 W hW; first | (go_simp; done) | (go_simp; with_reducible rfl))); rotate_left; simp only [Act.put, List.setIfInBounds_toArray, List.set_cons_zero, List.set_cons_succ])
            (refine qv2 96 103 (v := ?_) (by rfl) (by rfl) (by rfl) (fun ev hc hf h0 h1 W hW => ?_) ?_; rotate_left; (focus (obtain ⟨c0, c1, c2, c3, c4, c5, c6, c7, c8, c9, c10, c11, c12, c13⟩ := HS13 W hW; first | (go_simp; done) | (go_simp; with_reducible rfl))); rotate_left; simp only [Act.put, List.setIfInBounds_toArray, List.set_cons_zero, List.set_cons_succ])
            (refine qv1 104 (v := ?_) (by rfl) (by rfl) (fun ev hc hf h0 W hW => ?_) ?_; rotate_left; (focus (obtain ⟨c0, c1, c2, c3, c4, c5, c6, c7, c8, c9, c10, c11, c12, c13⟩ := HS13 W hW; first | (go_simp; done) | (go_simp; with_reducible rfl))); rotate_left; simp only [Act.put, List.setIfInBounds_toArray, List.set_cons_zero, List.set_cons_succ])
            first
              | (refine qskip (by rfl) ?_; simp only [Act.put, List.setIfInBounds_toArray, List.set_cons_zero, List.set_cons_succ])
              | (refine qv1 3 (v := ?_) (by rfl) (by rfl) (fun ev hc hf h0 W hW => ?_) ?_; rotate_left; (focus (obtain ⟨c0, c1, c2, c3, c4, c5, c6, c7, c8, c9, c10, c11, c12, c13⟩ := HS13 W hW; first | (go_simp; done) | (go_simp; with_reducible rfl))); rotate_left; simp only [Act.put, List.setIfInBounds_toArray, List.set_cons_zero, List.set_cons_succ])
            first
              | (refine qskip (by rfl) ?_; simp only [Act.put, List.setIfInBounds_toArray, List.set_cons_zero, List.set_cons_succ])
              | (refine qc1 106 _ _ _ (by rfl) (by rfl) (fun ev hc hf h0 W hW => ?_) (fun W hW => q_calls hW (V2.out W hW)) ?_; (focus (obtain ⟨c0, c1, c2, c3, c4, c5, c6, c7, c8, c9, c10, c11, c12, c13⟩ := HS13 W hW; go_simp; done)); simp only [Act.put, List.setIfInBounds_toArray, List.set_cons_zero, List.set_cons_succ])
            first
              | (refine qskip (by rfl) ?_; simp only [Act.put, List.setIfInBounds_toArray, List.set_cons_zero, List.set_cons_succ])
              | (refine qv1 7 (v := ?_) (by rfl) (by rfl) (fun ev hc hf h0 W hW => ?_) ?_; rotate_left; (focus (obtain ⟨c0, c1, c2, c3, c4, c5, c6, c7, c8, c9, c10, c11, c12, c13⟩ := HS13 W hW; first | (go_simp; done) | (go_simp; with_reducible rfl))); rotate_left; simp only [Act.put, List.setIfInBounds_toArray, List.set_cons_zero, List.set_cons_succ])
            first
              | (refine qskip (by rfl) ?_; simp only [Act.put, List.setIfInBounds_toArray, List.set_cons_zero, List.set_cons_succ])
              | (refine qv2 107 108 (v := ?_) (by rfl) (by rfl) (by rfl) (fun ev hc hf h0 h1 W hW => ?_) ?_; rotate_left; (focus (obtain ⟨c0, c1, c2, c3, c4, c5, c6, c7, c8, c9, c10, c11, c12, c13⟩ := HS13 W hW; first | (go_simp; done) | (go_simp; with_reducible rfl))); rotate_left; simp only [Act.put, List.setIfInBounds_toArray, List.set_cons_zero, List.set_cons_succ])
            (refine qv2 105 109 (v := ?_) (by rfl) (by rfl) (by rfl) (fun ev hc hf h0 h1 W hW => ?_) ?_; rotate_left; (focus (obtain ⟨c0, c1, c2, c3, c4, c5, c6, c7, c8, c9, c10, c11, c12, c13⟩ := HS13 W hW; first | (go_simp; done) | (go_simp; with_reducible rfl))); rotate_left; simp only [Act.put, List.setIfInBounds_toArray, List.set_cons_zero, List.set_cons_succ])
            refine qnil ?_
            intro w51 hW51
            have kb51 := KB5.out.bel hW51
            have kp51 := KP5.out.bel hW51
            have kv51 := KV5.out.bel hW51
            have HB51 := HB5.trans (Below.mono hW51 HB5.size)
            clear KB5 KP5 KV5 HB5 HS13 hW51 V1 V2
            generalize w51 = w5 at *
            have kb5 := kb51
            have kp5 := kp51
            have kv5 := kv51
            have HB5 := HB51
            clear kb51 kp51 kv51 HB51
            have hval := valid_promise hval hnm hab
            have ab1 := hab
            have ab2 := aboveB_self a.vr a.vn
            have ab3 := valid_above hval

            have hz5 := HB5.size
            have hg5 := kb5.lt
            go_wp2_with fail
            refine (promised_any w.heap.size (a.promise r n) _ kb5).mono ?_
            rintro e w6 ⟨rfl, hb6⟩
            have kb6 := kb5.bel hb6
            have kp6 := kp5.bel hb6
            have kv6 := kv5.bel hb6
            have HB6 := HB5.trans (hb6.mono HB5.size)
            clear kb5 kp5 kv5 HB5 hb6 hz5 hg5
            go_wp2_with fail
            refine (vote_any w.heap.size (a.promise r n) _ kb6).mono ?_
            rintro e w7 ⟨rfl, hb7⟩
            simp only [voteV, Acc.promise, Acc.accept]
            have kb7 := ((kb6.bel hb7).alloc (.cells #[.int .u64 r, .int .i64 n] 24)).alloc (.cells #[.bool a.has, .int .u64 a.vr, .int .i64 a.vn, .string a.val] 46)
            have kp7 := ((kp6.bel hb7).alloc (.cells #[.int .u64 r, .int .i64 n] 24)).alloc (.cells #[.bool a.has, .int .u64 a.vr, .int .i64 a.vn, .string a.val] 46)
            have kv7 := ((kv6.bel hb7).alloc (.cells #[.int .u64 r, .int .i64 n] 24)).alloc (.cells #[.bool a.has, .int .u64 a.vr, .int .i64 a.vn, .string a.val] 46)
            have kq7 := (Bk.new w7 #[.int .u64 r, .int .i64 n] 24).alloc (.cells #[.bool a.has, .int .u64 a.vr, .int .i64 a.vn, .string a.val] 46)
            have kx7 := Bk.new (w7.alloc (.cells #[.int .u64 r, .int .i64 n] 24)) #[.bool a.has, .int .u64 a.vr, .int .i64 a.vn, .string a.val] 46
            rw [World.size_alloc] at kx7
            have HB7 := HB6.trans (hb7.mono HB6.size)
            have HB7 := (HB7.alloc HB7.size (.cells #[.int .u64 r, .int .i64 n] 24)).alloc (by have := HB7.size; simp; omega) (.cells #[.bool a.has, .int .u64 a.vr, .int .i64 a.vn, .string a.val] 46)
            clear kb6 kp6 kv6 HB6 hb7
            go_upto_region 19 with fail
            generalize (w7.alloc (.cells #[.int .u64 r, .int .i64 n] 24)).alloc (.cells #[.bool a.has, .int .u64 a.vr, .int .i64 a.vn, .string a.val] 46) = w8 at *
            have HS19 : ∀ W, Bel w8 W → W.cell? ⟨w2.heap.size, 0, none⟩ = some (.int .u64 a.pr) ∧ W.cell? ⟨w2.heap.size, 1, none⟩ = some (.int .i64 a.pn) ∧ W.cell? ⟨w2.heap.size + 1, 0, none⟩ = some (.bool a.has) ∧ W.cell? ⟨w2.heap.size + 1, 1, none⟩ = some (.int .u64 a.vr) ∧ W.cell? ⟨w2.heap.size + 1, 2, none⟩ = some (.int .i64 a.vn) ∧ W.cell? ⟨w2.heap.size + 1, 3, none⟩ = some (.string a.val) ∧ W.cell? ⟨w7.heap.size, 0, none⟩ = some (.int .u64 r) ∧ W.cell? ⟨w7.heap.size, 1, none⟩ = some (.int .i64 n) ∧ W.cell? ⟨w7.heap.size + 1, 0, none⟩ = some (.bool a.has) ∧ W.cell? ⟨w7.heap.size + 1, 1, none⟩ = some (.int .u64 a.vr) ∧ W.cell? ⟨w7.heap.size + 1, 2, none⟩ = some (.int .i64 a.vn) ∧ W.cell? ⟨w7.heap.size + 1, 3, none⟩ = some (.string a.val) :=
              fun W hW => ⟨(kp7.bel hW).cell 0, (kp7.bel hW).cell 1, (kv7.bel hW).cell 0, (kv7.bel hW).cell 1, (kv7.bel hW).cell 2, (kv7.bel hW).cell 3, (kq7.bel hW).cell 0, (kq7.bel hW).cell 1, (kx7.bel hW).cell 0, (kx7.bel hW).cell 1, (kx7.bel hW).cell 2, (kx7.bel hW).cell 3⟩
            have K1 := Lib.hid (fun (W : World) => above_v false a.pr a.pn r n ab1 W)
            have K2 := Lib.hid (fun (W : World) => above_v false a.vr a.vn a.vr a.vn ab2 W)
            have K3 := Lib.hid (fun (W : World) => above_v false a.vr a.vn r n ab3 W)
            have KB7 := Lib.hid kb7
            have KQ7 := Lib.hid kq7
            have KX7 := Lib.hid kx7
            clear kb7 kp7 kv7 kq7 kx7 ab1 ab2 ab3
            go_wp2_with (with_reducible refine wpList_qw 115 rfl ?_)
            (refine qv1 6 (v := ?_) (by rfl) (by rfl) (fun ev hc hf h0 W hW => ?_) ?_; rotate_left; (focus (obtain ⟨c0, c1, c2, c3, c4, c5, c6, c7, c8, c9, c10, c11⟩ := HS19 W hW; first | (go_simp; done) | (go_simp; with_reducible rfl))); rotate_left; simp only [Act.put, List.setIfInBounds_toArray, List.set_cons_zero, List.set_cons_succ])
            (refine qv1 13 (v := ?_) (by rfl) (by rfl) (fun ev hc hf h0 W hW => ?_) ?_; rotate_left; (focus (obtain ⟨c0, c1, c2, c3, c4, c5, c6, c7, c8, c9, c10, c11⟩ := HS19 W hW; first | (go_simp; done) | (go_simp; with_reducible rfl))); rotate_left; simp only [Act.put, List.setIfInBounds_toArray, List.set_cons_zero, List.set_cons_succ])
            first
              | (refine qc2 115 116 _ _ _ (by rfl) (by rfl) (by rfl) (fun ev hc hf h0 h1 W hW => ?_) (fun W hW => q_calls hW (K1.out W)) ?_; (focus (obtain ⟨c0, c1, c2, c3, c4, c5, c6, c7, c8, c9, c10, c11⟩ := HS19 W hW; go_simp; done)); simp only [Act.put, List.setIfInBounds_toArray, List.set_cons_zero, List.set_cons_succ])
              | (refine qc2 115 116 _ _ _ (by rfl) (by rfl) (by rfl) (fun ev hc hf h0 h1 W hW => ?_) (fun W hW => q_calls hW (K2.out W)) ?_; (focus (obtain ⟨c0, c1, c2, c3, c4, c5, c6, c7, c8, c9, c10, c11⟩ := HS19 W hW; go_simp; done)); simp only [Act.put, List.setIfInBounds_toArray, List.set_cons_zero, List.set_cons_succ])
              | (refine qc2 115 116 _ _ _ (by rfl) (by rfl) (by rfl) (fun ev hc hf h0 h1 W hW => ?_) (fun W hW => q_calls hW (K3.out W)) ?_; (focus (obtain ⟨c0, c1, c2, c3, c4, c5, c6, c7, c8, c9, c10, c11⟩ := HS19 W hW; go_simp; done)); simp only [Act.put, List.setIfInBounds_toArray, List.set_cons_zero, List.set_cons_succ])
            (refine qv1 117 (v := ?_) (by rfl) (by rfl) (fun ev hc hf h0 W hW => ?_) ?_; rotate_left; (focus (obtain ⟨c0, c1, c2, c3, c4, c5, c6, c7, c8, c9, c10, c11⟩ := HS19 W hW; first | (go_simp; done) | (go_simp; with_reducible rfl))); rotate_left; simp only [Act.put, List.setIfInBounds_toArray, List.set_cons_zero, List.set_cons_succ])
            first
              | (refine qskip (by rfl) ?_; simp only [Act.put, List.setIfInBounds_toArray, List.set_cons_zero, List.set_cons_succ])
              | (refine qv1 7 (v := ?_) (by rfl) (by rfl) (fun ev hc hf h0 W hW => ?_) ?_; rotate_left; (focus (obtain ⟨c0, c1, c2, c3, c4, c5, c6, c7, c8, c9, c10, c11⟩ := HS19 W hW; first | (go_simp; done) | (go_simp; with_reducible rfl))); rotate_left; simp only [Act.put, List.setIfInBounds_toArray, List.set_cons_zero, List.set_cons_succ])
            first
              | (refine qskip (by rfl) ?_; simp only [Act.put, List.setIfInBounds_toArray, List.set_cons_zero, List.set_cons_succ])
              | (refine qv1 119 (v := ?_) (by rfl) (by rfl) (fun ev hc hf h0 W hW => ?_) ?_; rotate_left; (focus (obtain ⟨c0, c1, c2, c3, c4, c5, c6, c7, c8, c9, c10, c11⟩ := HS19 W hW; first | (go_simp; done) | (go_simp; with_reducible rfl))); rotate_left; simp only [Act.put, List.setIfInBounds_toArray, List.set_cons_zero, List.set_cons_succ])
            first
              | (refine qskip (by rfl) ?_; simp only [Act.put, List.setIfInBounds_toArray, List.set_cons_zero, List.set_cons_succ])
              | (refine qv1 14 (v := ?_) (by rfl) (by rfl) (fun ev hc hf h0 W hW => ?_) ?_; rotate_left; (focus (obtain ⟨c0, c1, c2, c3, c4, c5, c6, c7, c8, c9, c10, c11⟩ := HS19 W hW; first | (go_simp; done) | (go_simp; with_reducible rfl))); rotate_left; simp only [Act.put, List.setIfInBounds_toArray, List.set_cons_zero, List.set_cons_succ])
            first
              | (refine qskip (by rfl) ?_; simp only [Act.put, List.setIfInBounds_toArray, List.set_cons_zero, List.set_cons_succ])
              | (refine qv1 121 (v := ?_) (by rfl) (by rfl) (fun ev hc hf h0 W hW => ?_) ?_; rotate_left; (focus (obtain ⟨c0, c1, c2, c3, c4, c5, c6, c7, c8, c9, c10, c11⟩ := HS19 W hW; first | (go_simp; done) | (go_simp; with_reducible rfl))); rotate_left; simp only [Act.put, List.setIfInBounds_toArray, List.set_cons_zero, List.set_cons_succ])
            first
              | (refine qskip (by rfl) ?_; simp only [Act.put, List.setIfInBounds_toArray, List.set_cons_zero, List.set_cons_succ])
              | (refine qc2 120 122 _ _ _ (by rfl) (by rfl) (by rfl) (fun ev hc hf h0 h1 W hW => ?_) (fun W hW => q_calls hW (K1.out W)) ?_; (focus (obtain ⟨c0, c1, c2, c3, c4, c5, c6, c7, c8, c9, c10, c11⟩ := HS19 W hW; go_simp; done)); simp only [Act.put, List.setIfInBounds_toArray, List.set_cons_zero, List.set_cons_succ])
              | (refine qc2 120 122 _ _ _ (by rfl) (by rfl) (by rfl) (fun ev hc hf h0 h1 W hW => ?_) (fun W hW => q_calls hW (K2.out W)) ?_; (focus (obtain ⟨c0, c1, c2, c3, c4, c5, c6, c7, c8, c9, c10, c11⟩ := HS19 W hW; go_simp; done)); simp only [Act.put, List.setIfInBounds_toArray, List.set_cons_zero, List.set_cons_succ])
              | (refine qc2 120 122 _ _ _ (by rfl) (by rfl) (by rfl) (fun ev hc hf h0 h1 W hW => ?_) (fun W hW => q_calls hW (K3.out W)) ?_; (focus (obtain ⟨c0, c1, c2, c3, c4, c5, c6, c7, c8, c9, c10, c11⟩ := HS19 W hW; go_simp; done)); simp only [Act.put, List.setIfInBounds_toArray, List.set_cons_zero, List.set_cons_succ])
            (refine qv2 118 123 (v := ?_) (by rfl) (by rfl) (by rfl) (fun ev hc hf h0 h1 W hW => ?_) ?_; rotate_left; (focus (obtain ⟨c0, c1, c2, c3, c4, c5, c6, c7, c8, c9, c10, c11⟩ := HS19 W hW; first | (go_simp; done) | (go_simp; with_reducible rfl))); rotate_left; simp only [Act.put, List.setIfInBounds_toArray, List.set_cons_zero, List.set_cons_succ])
            (refine qv1 124 (v := ?_) (by rfl) (by rfl) (fun ev hc hf h0 W hW => ?_) ?_; rotate_left; (focus (obtain ⟨c0, c1, c2, c3, c4, c5, c6, c7, c8, c9, c10, c11⟩ := HS19 W hW; first | (go_simp; done) | (go_simp; with_reducible rfl))); rotate_left; simp only [Act.put, List.setIfInBounds_toArray, List.set_cons_zero, List.set_cons_succ])
            first
              | (refine qskip (by rfl) ?_; simp only [Act.put, List.setIfInBounds_toArray, List.set_cons_zero, List.set_cons_succ])
              | (refine qv1 14 (v := ?_) (by rfl) (by rfl) (fun ev hc hf h0 W hW => ?_) ?_; rotate_left; (focus (obtain ⟨c0, c1, c2, c3, c4, c5, c6, c7, c8, c9, c10, c11⟩ := HS19 W hW; first | (go_simp; done) | (go_simp; with_reducible rfl))); rotate_left; simp only [Act.put, List.setIfInBounds_toArray, List.set_cons_zero, List.set_cons_succ])
            first
              | (refine qskip (by rfl) ?_; simp only [Act.put, List.setIfInBounds_toArray, List.set_cons_zero, List.set_cons_succ])
              | (refine qv1 126 (v := ?_) (by rfl) (by rfl) (fun ev hc hf h0 W hW => ?_) ?_; rotate_left; (focus (obtain ⟨c0, c1, c2, c3, c4, c5, c6, c7, c8, c9, c10, c11⟩ := HS19 W hW; first | (go_simp; done) | (go_simp; with_reducible rfl))); rotate_left; simp only [Act.put, List.setIfInBounds_toArray, List.set_cons_zero, List.set_cons_succ])
            first
              | (refine qskip (by rfl) ?_; simp only [Act.put, List.setIfInBounds_toArray, List.set_cons_zero, List.set_cons_succ])
              | (refine qv1 13 (v := ?_) (by rfl) (by rfl) (fun ev hc hf h0 W hW => ?_) ?_; rotate_left; (focus (obtain ⟨c0, c1, c2, c3, c4, c5, c6, c7, c8, c9, c10, c11⟩ := HS19 W hW; first | (go_simp; done) | (go_simp; with_reducible rfl))); rotate_left; simp only [Act.put, List.setIfInBounds_toArray, List.set_cons_zero, List.set_cons_succ])
            first
              | (refine qskip (by rfl) ?_; simp only [Act.put, List.setIfInBounds_toArray, List.set_cons_zero, List.set_cons_succ])
              | (refine qc2 127 128 _ _ _ (by rfl) (by rfl) (by rfl) (fun ev hc hf h0 h1 W hW => ?_) (fun W hW => q_calls hW (K1.out W)) ?_; (focus (obtain ⟨c0, c1, c2, c3, c4, c5, c6, c7, c8, c9, c10, c11⟩ := HS19 W hW; go_simp; done)); simp only [Act.put, List.setIfInBounds_toArray, List.set_cons_zero, List.set_cons_succ])
              | (refine qc2 127 128 _ _ _ (by rfl) (by rfl) (by rfl) (fun ev hc hf h0 h1 W hW => ?_) (fun W hW => q_calls hW (K2.out W)) ?_; (focus (obtain ⟨c0, c1, c2, c3, c4, c5, c6, c7, c8, c9, c10, c11⟩ := HS19 W hW; go_simp; done)); simp only [Act.put, List.setIfInBounds_toArray, List.set_cons_zero, List.set_cons_succ])
              | (refine qc2 127 128 _ _ _ (by rfl) (by rfl) (by rfl) (fun ev hc hf h0 h1 W hW => ?_) (fun W hW => q_calls hW (K3.out W)) ?_; (focus (obtain ⟨c0, c1, c2, c3, c4, c5, c6, c7, c8, c9, c10, c11⟩ := HS19 W hW; go_simp; done)); simp only [Act.put, List.setIfInBounds_toArray, List.set_cons_zero, List.set_cons_succ])
            (refine qv2 125 129 (v := ?_) (by rfl) (by rfl) (by rfl) (fun ev hc hf h0 h1 W hW => ?_) ?_; rotate_left; (focus (obtain ⟨c0, c1, c2, c3, c4, c5, c6, c7, c8, c9, c10, c11⟩ := HS19 W hW; first | (go_simp; done) | (go_simp; with_reducible rfl))); rotate_left; simp only [Act.put, List.setIfInBounds_toArray, List.set_cons_zero, List.set_cons_succ])
            refine qnil ?_
            intro w9 hW9
            have kb9 := KB7.out.bel hW9
            have kq9 := KQ7.out.bel hW9
            have kx9 := KX7.out.bel hW9
            have HB9 := HB7.trans (Below.mono hW9 HB7.size)
            clear KB7 KQ7 KX7 HB7 HS19 K1 K2 K3 hW9
            have q0 : w9.cell? ⟨w7.heap.size, 0, none⟩ = _ := kq9.cell 0
            have q1 : w9.cell? ⟨w7.heap.size, 1, none⟩ = _ := kq9.cell 1
            simp at q0 q1
            obtain ⟨x0, x1, x2, x3, _, _, _, _⟩ := kx9.vote
            go_wp2_with fail
            refine (load_any r n a.has a.vr a.vn a.val _ hvs).mono ?_
            rintro e w10 (⟨hx, _, _⟩ | ⟨_, g2, hg2, rfl, kg, hb10⟩)
            · rw [hval] at hx; cases hx
            have kb10 := kb9.bel hb10
            have kq10 := kq9.bel hb10
            have kx10 := kx9.bel hb10
            have HB10 := HB9.trans (hb10.mono HB9.size)
            clear q0 q1 x0 x1 x2 x3 kb9 kq9 kx9 HB9 hb10 hg2
            have HS22 : ∀ W, Bel w10 W → W.cell? ⟨w7.heap.size, 0, none⟩ = some (.int .u64 r) ∧ W.cell? ⟨w7.heap.size, 1, none⟩ = some (.int .i64 n) ∧ W.cell? ⟨w7.heap.size + 1, 0, none⟩ = some (.bool a.has) ∧ W.cell? ⟨w7.heap.size + 1, 1, none⟩ = some (.int .u64 a.vr) ∧ W.cell? ⟨w7.heap.size + 1, 2, none⟩ = some (.int .i64 a.vn) ∧ W.cell? ⟨w7.heap.size + 1, 3, none⟩ = some (.string a.val) :=
              fun W hW => ⟨(kq10.bel hW).cell 0, (kq10.bel hW).cell 1, (kx10.bel hW).cell 0, (kx10.bel hW).cell 1, (kx10.bel hW).cell 2, (kx10.bel hW).cell 3⟩
            have V1 : Hid (∀ W, Bel w10 W → Calls Try.prog 31 #[.pointer (some ⟨g2, 0, none⟩)] W fun e W' => e = .returned (.agg #[.int .u64 r, .int .i64 n]) ∧ Below W.heap.size W W') := Lib.hid (fun W hW => promised_any (g2) (Acc.mk r n a.has a.vr a.vn a.val) W (kg.bel hW))
            have V2 : Hid (∀ W, Bel w10 W → Calls Try.prog 32 #[.pointer (some ⟨g2, 0, none⟩)] W fun e W' => e = .returned (.agg #[.bool a.has, .int .u64 a.vr, .int .i64 a.vn, .string a.val]) ∧ Below W.heap.size W W') := Lib.hid (fun W hW => vote_any (g2) (Acc.mk r n a.has a.vr a.vn a.val) W (kg.bel hW))
            have KB10 := Lib.hid kb10
            have HV := Lib.hid hval
            clear kg kb10 kq10 kx10 hval
            go_upto_region 22 with fail
            refine wp_qw (by kernel_rfl) ?_
            (refine qv1 16 (v := ?_) (by rfl) (by rfl) (fun ev hc hf h0 W hW => ?_) ?_; rotate_left; (focus (obtain ⟨c0, c1, c2, c3, c4, c5⟩ := HS22 W hW; first | (go_simp; done) | (go_simp; with_reducible rfl))); rotate_left; simp only [Act.put, List.setIfInBounds_toArray, List.set_cons_zero, List.set_cons_succ])
            (refine qv1 137 (v := ?_) (by rfl) (by rfl) (fun ev hc hf h0 W hW => ?_) ?_; rotate_left; (focus (obtain ⟨c0, c1, c2, c3, c4, c5⟩ := HS22 W hW; first | (go_simp; done) | (go_simp; with_reducible rfl))); rotate_left; simp only [Act.put, List.setIfInBounds_toArray, List.set_cons_zero, List.set_cons_succ])
            (refine qv1 138 (v := ?_) (by rfl) (by rfl) (fun ev hc hf h0 W hW => ?_) ?_; rotate_left; (focus (obtain ⟨c0, c1, c2, c3, c4, c5⟩ := HS22 W hW; first | (go_simp; done) | (go_simp; with_reducible rfl))); rotate_left; simp only [Act.put, List.setIfInBounds_toArray, List.set_cons_zero, List.set_cons_succ])
            first
              | (refine qskip (by rfl) ?_; simp only [Act.put, List.setIfInBounds_toArray, List.set_cons_zero, List.set_cons_succ])
              | (refine qv1 15 (v := ?_) (by rfl) (by rfl) (fun ev hc hf h0 W hW => ?_) ?_; rotate_left; (focus (obtain ⟨c0, c1, c2, c3, c4, c5⟩ := HS22 W hW; first | (go_simp; done) | (go_simp; with_reducible rfl))); rotate_left; simp only [Act.put, List.setIfInBounds_toArray, List.set_cons_zero, List.set_cons_succ])
            first
              | (refine qskip (by rfl) ?_; simp only [Act.put, List.setIfInBounds_toArray, List.set_cons_zero, List.set_cons_succ])
              | (refine qv1 140 (v := ?_) (by rfl) (by rfl) (fun ev hc hf h0 W hW => ?_) ?_; rotate_left; (focus (obtain ⟨c0, c1, c2, c3, c4, c5⟩ := HS22 W hW; first | (go_simp; done) | (go_simp; with_reducible rfl))); rotate_left; simp only [Act.put, List.setIfInBounds_toArray, List.set_cons_zero, List.set_cons_succ])
            (refine qv2 139 141 (v := ?_) (by rfl) (by rfl) (by rfl) (fun ev hc hf h0 h1 W hW => ?_) ?_; rotate_left; (focus (obtain ⟨c0, c1, c2, c3, c4, c5⟩ := HS22 W hW; first | (go_simp; done) | (go_simp; with_reducible rfl))); rotate_left; simp only [Act.put, List.setIfInBounds_toArray, List.set_cons_zero, List.set_cons_succ])
            (refine qv1 142 (v := ?_) (by rfl) (by rfl) (fun ev hc hf h0 W hW => ?_) ?_; rotate_left; (focus (obtain ⟨c0, c1, c2, c3, c4, c5⟩ := HS22 W hW; first | (go_simp; done) | (go_simp; with_reducible rfl))); rotate_left; simp only [Act.put, List.setIfInBounds_toArray, List.set_cons_zero, List.set_cons_succ])
            first
              | (refine qskip (by rfl) ?_; simp only [Act.put, List.setIfInBounds_toArray, List.set_cons_zero, List.set_cons_succ])
              | (refine qv1 15 (v := ?_) (by rfl) (by rfl) (fun ev hc hf h0 W hW => ?_) ?_; rotate_left; (focus (obtain ⟨c0, c1, c2, c3, c4, c5⟩ := HS22 W hW; first | (go_simp; done) | (go_simp; with_reducible rfl))); rotate_left; simp only [Act.put, List.setIfInBounds_toArray, List.set_cons_zero, List.set_cons_succ])
            first
              | (refine qskip (by rfl) ?_; simp only [Act.put, List.setIfInBounds_toArray, List.set_cons_zero, List.set_cons_succ])
              | (refine qc1 144 _ _ _ (by rfl) (by rfl) (fun ev hc hf h0 W hW => ?_) (fun W hW => q_calls hW (V1.out W hW)) ?_; (focus (obtain ⟨c0, c1, c2, c3, c4, c5⟩ := HS22 W hW; go_simp; done)); simp only [Act.put, List.setIfInBounds_toArray, List.set_cons_zero, List.set_cons_succ])
            first
              | (refine qskip (by rfl) ?_; simp only [Act.put, List.setIfInBounds_toArray, List.set_cons_zero, List.set_cons_succ])
              | (refine qv1 13 (v := ?_) (by rfl) (by rfl) (fun ev hc hf h0 W hW => ?_) ?_; rotate_left; (focus (obtain ⟨c0, c1, c2, c3, c4, c5⟩ := HS22 W hW; first | (go_simp; done) | (go_simp; with_reducible rfl))); rotate_left; simp only [Act.put, List.setIfInBounds_toArray, List.set_cons_zero, List.set_cons_succ])
            first
              | (refine qskip (by rfl) ?_; simp only [Act.put, List.setIfInBounds_toArray, List.set_cons_zero, List.set_cons_succ])
              | (refine qv2 145 146 (v := ?_) (by rfl) (by rfl) (by rfl) (fun ev hc hf h0 h1 W hW => ?_) ?_; rotate_left; (focus (obtain ⟨c0, c1, c2, c3, c4, c5⟩ := HS22 W hW; first | (go_simp; done) | (go_simp; with_reducible rfl))); rotate_left; simp only [Act.put, List.setIfInBounds_toArray, List.set_cons_zero, List.set_cons_succ])
            (refine qv2 143 147 (v := ?_) (by rfl) (by rfl) (by rfl) (fun ev hc hf h0 h1 W hW => ?_) ?_; rotate_left; (focus (obtain ⟨c0, c1, c2, c3, c4, c5⟩ := HS22 W hW; first | (go_simp; done) | (go_simp; with_reducible rfl))); rotate_left; simp only [Act.put, List.setIfInBounds_toArray, List.set_cons_zero, List.set_cons_succ])
            (refine qv1 148 (v := ?_) (by rfl) (by rfl) (fun ev hc hf h0 W hW => ?_) ?_; rotate_left; (focus (obtain ⟨c0, c1, c2, c3, c4, c5⟩ := HS22 W hW; first | (go_simp; done) | (go_simp; with_reducible rfl))); rotate_left; simp only [Act.put, List.setIfInBounds_toArray, List.set_cons_zero, List.set_cons_succ])
            first
              | (refine qskip (by rfl) ?_; simp only [Act.put, List.setIfInBounds_toArray, List.set_cons_zero, List.set_cons_succ])
              | (refine qv1 15 (v := ?_) (by rfl) (by rfl) (fun ev hc hf h0 W hW => ?_) ?_; rotate_left; (focus (obtain ⟨c0, c1, c2, c3, c4, c5⟩ := HS22 W hW; first | (go_simp; done) | (go_simp; with_reducible rfl))); rotate_left; simp only [Act.put, List.setIfInBounds_toArray, List.set_cons_zero, List.set_cons_succ])
            first
              | (refine qskip (by rfl) ?_; simp only [Act.put, List.setIfInBounds_toArray, List.set_cons_zero, List.set_cons_succ])
              | (refine qc1 150 _ _ _ (by rfl) (by rfl) (fun ev hc hf h0 W hW => ?_) (fun W hW => q_calls hW (V2.out W hW)) ?_; (focus (obtain ⟨c0, c1, c2, c3, c4, c5⟩ := HS22 W hW; go_simp; done)); simp only [Act.put, List.setIfInBounds_toArray, List.set_cons_zero, List.set_cons_succ])
            first
              | (refine qskip (by rfl) ?_; simp only [Act.put, List.setIfInBounds_toArray, List.set_cons_zero, List.set_cons_succ])
              | (refine qv1 14 (v := ?_) (by rfl) (by rfl) (fun ev hc hf h0 W hW => ?_) ?_; rotate_left; (focus (obtain ⟨c0, c1, c2, c3, c4, c5⟩ := HS22 W hW; first | (go_simp; done) | (go_simp; with_reducible rfl))); rotate_left; simp only [Act.put, List.setIfInBounds_toArray, List.set_cons_zero, List.set_cons_succ])
            first
              | (refine qskip (by rfl) ?_; simp only [Act.put, List.setIfInBounds_toArray, List.set_cons_zero, List.set_cons_succ])
              | (refine qv2 151 152 (v := ?_) (by rfl) (by rfl) (by rfl) (fun ev hc hf h0 h1 W hW => ?_) ?_; rotate_left; (focus (obtain ⟨c0, c1, c2, c3, c4, c5⟩ := HS22 W hW; first | (go_simp; done) | (go_simp; with_reducible rfl))); rotate_left; simp only [Act.put, List.setIfInBounds_toArray, List.set_cons_zero, List.set_cons_succ])
            (refine qv2 149 153 (v := ?_) (by rfl) (by rfl) (by rfl) (fun ev hc hf h0 h1 W hW => ?_) ?_; rotate_left; (focus (obtain ⟨c0, c1, c2, c3, c4, c5⟩ := HS22 W hW; first | (go_simp; done) | (go_simp; with_reducible rfl))); rotate_left; simp only [Act.put, List.setIfInBounds_toArray, List.set_cons_zero, List.set_cons_succ])
            refine qnil ?_
            intro w11 hW11
            go_wp2
            go_roundw
            case rel => exact ⟨k + 1, a.promise r n, by omega, by go_num, KB10.out.bel hW11, HV.out, hvs, HB10.trans (Below.mono hW11 HB10.size)⟩
            case measure => simp [intOf]; omega
        · go_wp2_with fail
          clear s0 s1 s2 s3
          refine (accept_any w.heap.size a r n v _ kb3 hv).mono ?_
          rintro e w4 ⟨rfl, kb4, hg4⟩
          have kp4 := kp3.grown hg4 (by intro e; injection e; omega)
          have kv4 := kv3.grown hg4 (by intro e; injection e; omega)
          have ks4 := ks3.grown hg4 (by intro e; injection e; omega)
          have HB4 := bel_grown HB3 hg4 HB3.size (Nat.le_refl _)
          clear hg4 kp3 kv3 ks3 HB3
          have hval := HVL.out
          clear HVL
          rcases acpt_cases2 a r n v with ⟨c, h⟩ | ⟨h, hab, hnm, hsz⟩
          · rw [h] at kb4 ⊢
            clear h
            have kb5 := kb4
            have kp5 := kp4
            have kv5 := kv4
            have ks5 := ks4
            have HB5 := HB4
            clear kb4 kp4 kv4 ks4 HB4
            go_upto_region 13 with fail
            generalize w4 = w5 at *
            have HS13 : ∀ W, Bel w5 W → W.cell? ⟨wr.heap.size, 0, none⟩ = some (.int .u64 r) ∧ W.cell? ⟨wr.heap.size, 1, none⟩ = some (.int .i64 n) ∧ W.cell? ⟨wr.heap.size, 2, none⟩ = some (.bool true) ∧ W.cell? ⟨wr.heap.size, 3, none⟩ = some (.string v) ∧ W.cell? ⟨w2.heap.size, 0, none⟩ = some (.int .u64 a.pr) ∧ W.cell? ⟨w2.heap.size, 1, none⟩ = some (.int .i64 a.pn) ∧ W.cell? ⟨w2.heap.size + 1, 0, none⟩ = some (.bool a.has) ∧ W.cell? ⟨w2.heap.size + 1, 1, none⟩ = some (.int .u64 a.vr) ∧ W.cell? ⟨w2.heap.size + 1, 2, none⟩ = some (.int .i64 a.vn) ∧ W.cell? ⟨w2.heap.size + 1, 3, none⟩ = some (.string a.val) :=
              fun W hW => ⟨(ks5.bel hW).cell 0, (ks5.bel hW).cell 1, (ks5.bel hW).cell 2, (ks5.bel hW).cell 3, (kp5.bel hW).cell 0, (kp5.bel hW).cell 1, (kv5.bel hW).cell 0, (kv5.bel hW).cell 1, (kv5.bel hW).cell 2, (kv5.bel hW).cell 3⟩
            have V1 : Hid (∀ W, Bel w5 W → Calls Try.prog 31 #[.pointer (some ⟨w.heap.size, 0, none⟩)] W fun e W' => e = .returned (.agg #[.int .u64 a.pr, .int .i64 a.pn]) ∧ Below W.heap.size W W') := Lib.hid (fun W hW => promised_any (w.heap.size) (a) W (kb5.bel hW))
            have V2 : Hid (∀ W, Bel w5 W → Calls Try.prog 32 #[.pointer (some ⟨w.heap.size, 0, none⟩)] W fun e W' => e = .returned (.agg #[.bool a.has, .int .u64 a.vr, .int .i64 a.vn, .string a.val]) ∧ Below W.heap.size W W') := Lib.hid (fun W hW => vote_any (w.heap.size) (a) W (kb5.bel hW))
            have KB5 := Lib.hid kb5
            have KP5 := Lib.hid kp5
            have KV5 := Lib.hid kv5
            clear kb5 kp5 kv5 ks5
            refine wp_qw (by kernel_rfl) ?_
            (refine qv1 8 (v := ?_) (by rfl) (by rfl) (fun ev hc hf h0 W hW => ?_) ?_; rotate_left; (focus (obtain ⟨c0, c1, c2, c3, c4, c5, c6, c7, c8, c9⟩ := HS13 W hW; first | (go_simp; done) | (go_simp; with_reducible rfl))); rotate_left; simp only [Act.put, List.setIfInBounds_toArray, List.set_cons_zero, List.set_cons_succ])
            (refine qv1 48 (v := ?_) (by rfl) (by rfl) (fun ev hc hf h0 W hW => ?_) ?_; rotate_left; (focus (obtain ⟨c0, c1, c2, c3, c4, c5, c6, c7, c8, c9⟩ := HS13 W hW; first | (go_simp; done) | (go_simp; with_reducible rfl))); rotate_left; simp only [Act.put, List.setIfInBounds_toArray, List.set_cons_zero, List.set_cons_succ])
            first
              | (refine qskip (by rfl) ?_; simp only [Act.put, List.setIfInBounds_toArray, List.set_cons_zero, List.set_cons_succ])
              | (refine qv1 6 (v := ?_) (by rfl) (by rfl) (fun ev hc hf h0 W hW => ?_) ?_; rotate_left; (focus (obtain ⟨c0, c1, c2, c3, c4, c5, c6, c7, c8, c9⟩ := HS13 W hW; first | (go_simp; done) | (go_simp; with_reducible rfl))); rotate_left; simp only [Act.put, List.setIfInBounds_toArray, List.set_cons_zero, List.set_cons_succ])
            first
              | (refine qskip (by rfl) ?_; simp only [Act.put, List.setIfInBounds_toArray, List.set_cons_zero, List.set_cons_succ])
              | (refine qv1 5 (v := ?_) (by rfl) (by rfl) (fun ev hc hf h0 W hW => ?_) ?_; rotate_left; (focus (obtain ⟨c0, c1, c2, c3, c4, c5, c6, c7, c8, c9⟩ := HS13 W hW; first | (go_simp; done) | (go_simp; with_reducible rfl))); rotate_left; simp only [Act.put, List.setIfInBounds_toArray, List.set_cons_zero, List.set_cons_succ])
            first
              | (refine qskip (by rfl) ?_; simp only [Act.put, List.setIfInBounds_toArray, List.set_cons_zero, List.set_cons_succ])
              | (refine qv1 51 (v := ?_) (by rfl) (by rfl) (fun ev hc hf h0 W hW => ?_) ?_; rotate_left; (focus (obtain ⟨c0, c1, c2, c3, c4, c5, c6, c7, c8, c9⟩ := HS13 W hW; first | (go_simp; done) | (go_simp; with_reducible rfl))); rotate_left; simp only [Act.put, List.setIfInBounds_toArray, List.set_cons_zero, List.set_cons_succ])
            (refine qskip (by rfl) ?_; simp only [Act.put, List.setIfInBounds_toArray, List.set_cons_zero, List.set_cons_succ])
            first
              | (refine qskip (by rfl) ?_; simp only [Act.put, List.setIfInBounds_toArray, List.set_cons_zero, List.set_cons_succ])
              | (refine qv1 53 (v := ?_) (by rfl) (by rfl) (fun ev hc hf h0 W hW => ?_) ?_; rotate_left; (focus (obtain ⟨c0, c1, c2, c3, c4, c5, c6, c7, c8, c9⟩ := HS13 W hW; first | (go_simp; done) | (go_simp; with_reducible rfl))); rotate_left; simp only [Act.put, List.setIfInBounds_toArray, List.set_cons_zero, List.set_cons_succ])
            first
              | (refine qskip (by rfl) ?_; simp only [Act.put, List.setIfInBounds_toArray, List.set_cons_zero, List.set_cons_succ])
              | (refine qv1 3 (v := ?_) (by rfl) (by rfl) (fun ev hc hf h0 W hW => ?_) ?_; rotate_left; (focus (obtain ⟨c0, c1, c2, c3, c4, c5, c6, c7, c8, c9⟩ := HS13 W hW; first | (go_simp; done) | (go_simp; with_reducible rfl))); rotate_left; simp only [Act.put, List.setIfInBounds_toArray, List.set_cons_zero, List.set_cons_succ])
            first
              | (refine qskip (by rfl) ?_; simp only [Act.put, List.setIfInBounds_toArray, List.set_cons_zero, List.set_cons_succ])
              | (refine qc1 55 _ _ _ (by rfl) (by rfl) (fun ev hc hf h0 W hW => ?_) (fun W hW => q_calls hW (V2.out W hW)) ?_; (focus (obtain ⟨c0, c1, c2, c3, c4, c5, c6, c7, c8, c9⟩ := HS13 W hW; go_simp; done)); simp only [Act.put, List.setIfInBounds_toArray, List.set_cons_zero, List.set_cons_succ])
            first
              | (refine qskip (by rfl) ?_; simp only [Act.put, List.setIfInBounds_toArray, List.set_cons_zero, List.set_cons_succ])
              | (refine qv1 5 (v := ?_) (by rfl) (by rfl) (fun ev hc hf h0 W hW => ?_) ?_; rotate_left; (focus (obtain ⟨c0, c1, c2, c3, c4, c5, c6, c7, c8, c9⟩ := HS13 W hW; first | (go_simp; done) | (go_simp; with_reducible rfl))); rotate_left; simp only [Act.put, List.setIfInBounds_toArray, List.set_cons_zero, List.set_cons_succ])
            first
              | (refine qskip (by rfl) ?_; simp only [Act.put, List.setIfInBounds_toArray, List.set_cons_zero, List.set_cons_succ])
              | (refine qv1 57 (v := ?_) (by rfl) (by rfl) (fun ev hc hf h0 W hW => ?_) ?_; rotate_left; (focus (obtain ⟨c0, c1, c2, c3, c4, c5, c6, c7, c8, c9⟩ := HS13 W hW; first | (go_simp; done) | (go_simp; with_reducible rfl))); rotate_left; simp only [Act.put, List.setIfInBounds_toArray, List.set_cons_zero, List.set_cons_succ])
            first
              | (refine qskip (by rfl) ?_; simp only [Act.put, List.setIfInBounds_toArray, List.set_cons_zero, List.set_cons_succ])
              | (refine qv1 5 (v := ?_) (by rfl) (by rfl) (fun ev hc hf h0 W hW => ?_) ?_; rotate_left; (focus (obtain ⟨c0, c1, c2, c3, c4, c5, c6, c7, c8, c9⟩ := HS13 W hW; first | (go_simp; done) | (go_simp; with_reducible rfl))); rotate_left; simp only [Act.put, List.setIfInBounds_toArray, List.set_cons_zero, List.set_cons_succ])
            first
              | (refine qskip (by rfl) ?_; simp only [Act.put, List.setIfInBounds_toArray, List.set_cons_zero, List.set_cons_succ])
              | (refine qv1 59 (v := ?_) (by rfl) (by rfl) (fun ev hc hf h0 W hW => ?_) ?_; rotate_left; (focus (obtain ⟨c0, c1, c2, c3, c4, c5, c6, c7, c8, c9⟩ := HS13 W hW; first | (go_simp; done) | (go_simp; with_reducible rfl))); rotate_left; simp only [Act.put, List.setIfInBounds_toArray, List.set_cons_zero, List.set_cons_succ])
            first
              | (refine qskip (by rfl) ?_; simp only [Act.put, List.setIfInBounds_toArray, List.set_cons_zero, List.set_cons_succ])
              | (refine qv2 58 60 (v := ?_) (by rfl) (by rfl) (by rfl) (fun ev hc hf h0 h1 W hW => ?_) ?_; rotate_left; (focus (obtain ⟨c0, c1, c2, c3, c4, c5, c6, c7, c8, c9⟩ := HS13 W hW; first | (go_simp; done) | (go_simp; with_reducible rfl))); rotate_left; simp only [Act.put, List.setIfInBounds_toArray, List.set_cons_zero, List.set_cons_succ])
            first
              | (refine qskip (by rfl) ?_; simp only [Act.put, List.setIfInBounds_toArray, List.set_cons_zero, List.set_cons_succ])
              | (refine qv2 56 61 (v := ?_) (by rfl) (by rfl) (by rfl) (fun ev hc hf h0 h1 W hW => ?_) ?_; rotate_left; (focus (obtain ⟨c0, c1, c2, c3, c4, c5, c6, c7, c8, c9⟩ := HS13 W hW; first | (go_simp; done) | (go_simp; with_reducible rfl))); rotate_left; simp only [Act.put, List.setIfInBounds_toArray, List.set_cons_zero, List.set_cons_succ])
            first
              | (refine qskip (by rfl) ?_; simp only [Act.put, List.setIfInBounds_toArray, List.set_cons_zero, List.set_cons_succ])
              | (refine qv2 54 62 (v := ?_) (by rfl) (by rfl) (by rfl) (fun ev hc hf h0 h1 W hW => ?_) ?_; rotate_left; (focus (obtain ⟨c0, c1, c2, c3, c4, c5, c6, c7, c8, c9⟩ := HS13 W hW; first | (go_simp; done) | (go_simp; with_reducible rfl))); rotate_left; simp only [Act.put, List.setIfInBounds_toArray, List.set_cons_zero, List.set_cons_succ])
            (refine qv2 49 63 (v := ?_) (by rfl) (by rfl) (by rfl) (fun ev hc hf h0 h1 W hW => ?_) ?_; rotate_left; (focus (obtain ⟨c0, c1, c2, c3, c4, c5, c6, c7, c8, c9⟩ := HS13 W hW; first | (go_simp; done) | (go_simp; with_reducible rfl))); rotate_left; simp only [Act.put, List.setIfInBounds_toArray, List.set_cons_zero, List.set_cons_succ])
            (refine qv1 64 (v := ?_) (by rfl) (by rfl) (fun ev hc hf h0 W hW => ?_) ?_; rotate_left; (focus (obtain ⟨c0, c1, c2, c3, c4, c5, c6, c7, c8, c9⟩ := HS13 W hW; first | (go_simp; done) | (go_simp; with_reducible rfl))); rotate_left; simp only [Act.put, List.setIfInBounds_toArray, List.set_cons_zero, List.set_cons_succ])
            first
              | (refine qskip (by rfl) ?_; simp only [Act.put, List.setIfInBounds_toArray, List.set_cons_zero, List.set_cons_succ])
              | (refine qv1 8 (v := ?_) (by rfl) (by rfl) (fun ev hc hf h0 W hW => ?_) ?_; rotate_left; (focus (obtain ⟨c0, c1, c2, c3, c4, c5, c6, c7, c8, c9⟩ := HS13 W hW; first | (go_simp; done) | (go_simp; with_reducible rfl))); rotate_left; simp only [Act.put, List.setIfInBounds_toArray, List.set_cons_zero, List.set_cons_succ])
            first
              | (refine qskip (by rfl) ?_; simp only [Act.put, List.setIfInBounds_toArray, List.set_cons_zero, List.set_cons_succ])
              | (refine qv1 66 (v := ?_) (by rfl) (by rfl) (fun ev hc hf h0 W hW => ?_) ?_; rotate_left; (focus (obtain ⟨c0, c1, c2, c3, c4, c5, c6, c7, c8, c9⟩ := HS13 W hW; first | (go_simp; done) | (go_simp; with_reducible rfl))); rotate_left; simp only [Act.put, List.setIfInBounds_toArray, List.set_cons_zero, List.set_cons_succ])
            first
              | (refine qskip (by rfl) ?_; simp only [Act.put, List.setIfInBounds_toArray, List.set_cons_zero, List.set_cons_succ])
              | (refine qv1 67 (v := ?_) (by rfl) (by rfl) (fun ev hc hf h0 W hW => ?_) ?_; rotate_left; (focus (obtain ⟨c0, c1, c2, c3, c4, c5, c6, c7, c8, c9⟩ := HS13 W hW; first | (go_simp; done) | (go_simp; with_reducible rfl))); rotate_left; simp only [Act.put, List.setIfInBounds_toArray, List.set_cons_zero, List.set_cons_succ])
            first
              | (refine qskip (by rfl) ?_; simp only [Act.put, List.setIfInBounds_toArray, List.set_cons_zero, List.set_cons_succ])
              | (refine qv1 3 (v := ?_) (by rfl) (by rfl) (fun ev hc hf h0 W hW => ?_) ?_; rotate_left; (focus (obtain ⟨c0, c1, c2, c3, c4, c5, c6, c7, c8, c9⟩ := HS13 W hW; first | (go_simp; done) | (go_simp; with_reducible rfl))); rotate_left; simp only [Act.put, List.setIfInBounds_toArray, List.set_cons_zero, List.set_cons_succ])
            first
              | (refine qskip (by rfl) ?_; simp only [Act.put, List.setIfInBounds_toArray, List.set_cons_zero, List.set_cons_succ])
              | (refine qc1 69 _ _ _ (by rfl) (by rfl) (fun ev hc hf h0 W hW => ?_) (fun W hW => q_calls hW (V2.out W hW)) ?_; (focus (obtain ⟨c0, c1, c2, c3, c4, c5, c6, c7, c8, c9⟩ := HS13 W hW; go_simp; done)); simp only [Act.put, List.setIfInBounds_toArray, List.set_cons_zero, List.set_cons_succ])
            first
              | (refine qskip (by rfl) ?_; simp only [Act.put, List.setIfInBounds_toArray, List.set_cons_zero, List.set_cons_succ])
              | (refine qv1 7 (v := ?_) (by rfl) (by rfl) (fun ev hc hf h0 W hW => ?_) ?_; rotate_left; (focus (obtain ⟨c0, c1, c2, c3, c4, c5, c6, c7, c8, c9⟩ := HS13 W hW; first | (go_simp; done) | (go_simp; with_reducible rfl))); rotate_left; simp only [Act.put, List.setIfInBounds_toArray, List.set_cons_zero, List.set_cons_succ])
            first
              | (refine qskip (by rfl) ?_; simp only [Act.put, List.setIfInBounds_toArray, List.set_cons_zero, List.set_cons_succ])
              | (refine qv2 70 71 (v := ?_) (by rfl) (by rfl) (by rfl) (fun ev hc hf h0 h1 W hW => ?_) ?_; rotate_left; (focus (obtain ⟨c0, c1, c2, c3, c4, c5, c6, c7, c8, c9⟩ := HS13 W hW; first | (go_simp; done) | (go_simp; with_reducible rfl))); rotate_left; simp only [Act.put, List.setIfInBounds_toArray, List.set_cons_zero, List.set_cons_succ])
            first
              | (refine qskip (by rfl) ?_; simp only [Act.put, List.setIfInBounds_toArray, List.set_cons_zero, List.set_cons_succ])
              | (refine qv2 68 72 (v := ?_) (by rfl) (by rfl) (by rfl) (fun ev hc hf h0 h1 W hW => ?_) ?_; rotate_left; (focus (obtain ⟨c0, c1, c2, c3, c4, c5, c6, c7, c8, c9⟩ := HS13 W hW; first | (go_simp; done) | (go_simp; with_reducible rfl))); rotate_left; simp only [Act.put, List.setIfInBounds_toArray, List.set_cons_zero, List.set_cons_succ])
            (refine qv2 65 73 (v := ?_) (by rfl) (by rfl) (by rfl) (fun ev hc hf h0 h1 W hW => ?_) ?_; rotate_left; (focus (obtain ⟨c0, c1, c2, c3, c4, c5, c6, c7, c8, c9⟩ := HS13 W hW; first | (go_simp; done) | (go_simp; with_reducible rfl))); rotate_left; simp only [Act.put, List.setIfInBounds_toArray, List.set_cons_zero, List.set_cons_succ])
            refine qnil ?_
            intro w51 hW51
            have kb51 := KB5.out.bel hW51
            have kp51 := KP5.out.bel hW51
            have kv51 := KV5.out.bel hW51
            have HB51 := HB5.trans (Below.mono hW51 HB5.size)
            clear KB5 KP5 KV5 HB5 HS13 hW51 V1 V2
            generalize w51 = w5 at *
            have kb5 := kb51
            have kp5 := kp51
            have kv5 := kv51
            have HB5 := HB51
            clear kb51 kp51 kv51 HB51
            have ab1 := aboveB_self a.pr a.pn
            have ab2 := aboveB_self a.vr a.vn
            have ab3 := valid_above hval

            have hz5 := HB5.size
            have hg5 := kb5.lt
            go_wp2_with fail
            refine (promised_any w.heap.size (a) _ kb5).mono ?_
            rintro e w6 ⟨rfl, hb6⟩
            have kb6 := kb5.bel hb6
            have kp6 := kp5.bel hb6
            have kv6 := kv5.bel hb6
            have HB6 := HB5.trans (hb6.mono HB5.size)
            clear kb5 kp5 kv5 HB5 hb6 hz5 hg5
            go_wp2_with fail
            refine (vote_any w.heap.size (a) _ kb6).mono ?_
            rintro e w7 ⟨rfl, hb7⟩
            simp only [voteV, Acc.promise, Acc.accept]
            have kb7 := ((kb6.bel hb7).alloc (.cells #[.int .u64 a.pr, .int .i64 a.pn] 24)).alloc (.cells #[.bool a.has, .int .u64 a.vr, .int .i64 a.vn, .string a.val] 46)
            have kp7 := ((kp6.bel hb7).alloc (.cells #[.int .u64 a.pr, .int .i64 a.pn] 24)).alloc (.cells #[.bool a.has, .int .u64 a.vr, .int .i64 a.vn, .string a.val] 46)
            have kv7 := ((kv6.bel hb7).alloc (.cells #[.int .u64 a.pr, .int .i64 a.pn] 24)).alloc (.cells #[.bool a.has, .int .u64 a.vr, .int .i64 a.vn, .string a.val] 46)
            have kq7 := (Bk.new w7 #[.int .u64 a.pr, .int .i64 a.pn] 24).alloc (.cells #[.bool a.has, .int .u64 a.vr, .int .i64 a.vn, .string a.val] 46)
            have kx7 := Bk.new (w7.alloc (.cells #[.int .u64 a.pr, .int .i64 a.pn] 24)) #[.bool a.has, .int .u64 a.vr, .int .i64 a.vn, .string a.val] 46
            rw [World.size_alloc] at kx7
            have HB7 := HB6.trans (hb7.mono HB6.size)
            have HB7 := (HB7.alloc HB7.size (.cells #[.int .u64 a.pr, .int .i64 a.pn] 24)).alloc (by have := HB7.size; simp; omega) (.cells #[.bool a.has, .int .u64 a.vr, .int .i64 a.vn, .string a.val] 46)
            clear kb6 kp6 kv6 HB6 hb7
            go_upto_region 19 with fail
            generalize (w7.alloc (.cells #[.int .u64 a.pr, .int .i64 a.pn] 24)).alloc (.cells #[.bool a.has, .int .u64 a.vr, .int .i64 a.vn, .string a.val] 46) = w8 at *
            have HS19 : ∀ W, Bel w8 W → W.cell? ⟨w2.heap.size, 0, none⟩ = some (.int .u64 a.pr) ∧ W.cell? ⟨w2.heap.size, 1, none⟩ = some (.int .i64 a.pn) ∧ W.cell? ⟨w2.heap.size + 1, 0, none⟩ = some (.bool a.has) ∧ W.cell? ⟨w2.heap.size + 1, 1, none⟩ = some (.int .u64 a.vr) ∧ W.cell? ⟨w2.heap.size + 1, 2, none⟩ = some (.int .i64 a.vn) ∧ W.cell? ⟨w2.heap.size + 1, 3, none⟩ = some (.string a.val) ∧ W.cell? ⟨w7.heap.size, 0, none⟩ = some (.int .u64 a.pr) ∧ W.cell? ⟨w7.heap.size, 1, none⟩ = some (.int .i64 a.pn) ∧ W.cell? ⟨w7.heap.size + 1, 0, none⟩ = some (.bool a.has) ∧ W.cell? ⟨w7.heap.size + 1, 1, none⟩ = some (.int .u64 a.vr) ∧ W.cell? ⟨w7.heap.size + 1, 2, none⟩ = some (.int .i64 a.vn) ∧ W.cell? ⟨w7.heap.size + 1, 3, none⟩ = some (.string a.val) :=
              fun W hW => ⟨(kp7.bel hW).cell 0, (kp7.bel hW).cell 1, (kv7.bel hW).cell 0, (kv7.bel hW).cell 1, (kv7.bel hW).cell 2, (kv7.bel hW).cell 3, (kq7.bel hW).cell 0, (kq7.bel hW).cell 1, (kx7.bel hW).cell 0, (kx7.bel hW).cell 1, (kx7.bel hW).cell 2, (kx7.bel hW).cell 3⟩
            have K1 := Lib.hid (fun (W : World) => above_v false a.pr a.pn a.pr a.pn ab1 W)
            have K2 := Lib.hid (fun (W : World) => above_v false a.vr a.vn a.vr a.vn ab2 W)
            have K3 := Lib.hid (fun (W : World) => above_v false a.vr a.vn a.pr a.pn ab3 W)
            have KB7 := Lib.hid kb7
            have KQ7 := Lib.hid kq7
            have KX7 := Lib.hid kx7
            clear kb7 kp7 kv7 kq7 kx7 ab1 ab2 ab3
            go_wp2_with (with_reducible refine wpList_qw 115 rfl ?_)
            (refine qv1 6 (v := ?_) (by rfl) (by rfl) (fun ev hc hf h0 W hW => ?_) ?_; rotate_left; (focus (obtain ⟨c0, c1, c2, c3, c4, c5, c6, c7, c8, c9, c10, c11⟩ := HS19 W hW; first | (go_simp; done) | (go_simp; with_reducible rfl))); rotate_left; simp only [Act.put, List.setIfInBounds_toArray, List.set_cons_zero, List.set_cons_succ])
            (refine qv1 13 (v := ?_) (by rfl) (by rfl) (fun ev hc hf h0 W hW => ?_) ?_; rotate_left; (focus (obtain ⟨c0, c1, c2, c3, c4, c5, c6, c7, c8, c9, c10, c11⟩ := HS19 W hW; first | (go_simp; done) | (go_simp; with_reducible rfl))); rotate_left; simp only [Act.put, List.setIfInBounds_toArray, List.set_cons_zero, List.set_cons_succ])
            first
              | (refine qc2 115 116 _ _ _ (by rfl) (by rfl) (by rfl) (fun ev hc hf h0 h1 W hW => ?_) (fun W hW => q_calls hW (K1.out W)) ?_; (focus (obtain ⟨c0, c1, c2, c3, c4, c5, c6, c7, c8, c9, c10, c11⟩ := HS19 W hW; go_simp; done)); simp only [Act.put, List.setIfInBounds_toArray, List.set_cons_zero, List.set_cons_succ])
              | (refine qc2 115 116 _ _ _ (by rfl) (by rfl) (by rfl) (fun ev hc hf h0 h1 W hW => ?_) (fun W hW => q_calls hW (K2.out W)) ?_; (focus (obtain ⟨c0, c1, c2, c3, c4, c5, c6, c7, c8, c9, c10, c11⟩ := HS19 W hW; go_simp; done)); simp only [Act.put, List.setIfInBounds_toArray, List.set_cons_zero, List.set_cons_succ])
              | (refine qc2 115 116 _ _ _ (by rfl) (by rfl) (by rfl) (fun ev hc hf h0 h1 W hW => ?_) (fun W hW => q_calls hW (K3.out W)) ?_; (focus (obtain ⟨c0, c1, c2, c3, c4, c5, c6, c7, c8, c9, c10, c11⟩ := HS19 W hW; go_simp; done)); simp only [Act.put, List.setIfInBounds_toArray, List.set_cons_zero, List.set_cons_succ])
            (refine qv1 117 (v := ?_) (by rfl) (by rfl) (fun ev hc hf h0 W hW => ?_) ?_; rotate_left; (focus (obtain ⟨c0, c1, c2, c3, c4, c5, c6, c7, c8, c9, c10, c11⟩ := HS19 W hW; first | (go_simp; done) | (go_simp; with_reducible rfl))); rotate_left; simp only [Act.put, List.setIfInBounds_toArray, List.set_cons_zero, List.set_cons_succ])
            first
              | (refine qskip (by rfl) ?_; simp only [Act.put, List.setIfInBounds_toArray, List.set_cons_zero, List.set_cons_succ])
              | (refine qv1 7 (v := ?_) (by rfl) (by rfl) (fun ev hc hf h0 W hW => ?_) ?_; rotate_left; (focus (obtain ⟨c0, c1, c2, c3, c4, c5, c6, c7, c8, c9, c10, c11⟩ := HS19 W hW; first | (go_simp; done) | (go_simp; with_reducible rfl))); rotate_left; simp only [Act.put, List.setIfInBounds_toArray, List.set_cons_zero, List.set_cons_succ])
            first
              | (refine qskip (by rfl) ?_; simp only [Act.put, List.setIfInBounds_toArray, List.set_cons_zero, List.set_cons_succ])
              | (refine qv1 119 (v := ?_) (by rfl) (by rfl) (fun ev hc hf h0 W hW => ?_) ?_; rotate_left; (focus (obtain ⟨c0, c1, c2, c3, c4, c5, c6, c7, c8, c9, c10, c11⟩ := HS19 W hW; first | (go_simp; done) | (go_simp; with_reducible rfl))); rotate_left; simp only [Act.put, List.setIfInBounds_toArray, List.set_cons_zero, List.set_cons_succ])
            first
              | (refine qskip (by rfl) ?_; simp only [Act.put, List.setIfInBounds_toArray, List.set_cons_zero, List.set_cons_succ])
              | (refine qv1 14 (v := ?_) (by rfl) (by rfl) (fun ev hc hf h0 W hW => ?_) ?_; rotate_left; (focus (obtain ⟨c0, c1, c2, c3, c4, c5, c6, c7, c8, c9, c10, c11⟩ := HS19 W hW; first | (go_simp; done) | (go_simp; with_reducible rfl))); rotate_left; simp only [Act.put, List.setIfInBounds_toArray, List.set_cons_zero, List.set_cons_succ])
            first
              | (refine qskip (by rfl) ?_; simp only [Act.put, List.setIfInBounds_toArray, List.set_cons_zero, List.set_cons_succ])
              | (refine qv1 121 (v := ?_) (by rfl) (by rfl) (fun ev hc hf h0 W hW => ?_) ?_; rotate_left; (focus (obtain ⟨c0, c1, c2, c3, c4, c5, c6, c7, c8, c9, c10, c11⟩ := HS19 W hW; first | (go_simp; done) | (go_simp; with_reducible rfl))); rotate_left; simp only [Act.put, List.setIfInBounds_toArray, List.set_cons_zero, List.set_cons_succ])
            first
              | (refine qskip (by rfl) ?_; simp only [Act.put, List.setIfInBounds_toArray, List.set_cons_zero, List.set_cons_succ])
              | (refine qc2 120 122 _ _ _ (by rfl) (by rfl) (by rfl) (fun ev hc hf h0 h1 W hW => ?_) (fun W hW => q_calls hW (K1.out W)) ?_; (focus (obtain ⟨c0, c1, c2, c3, c4, c5, c6, c7, c8, c9, c10, c11⟩ := HS19 W hW; go_simp; done)); simp only [Act.put, List.setIfInBounds_toArray, List.set_cons_zero, List.set_cons_succ])
              | (refine qc2 120 122 _ _ _ (by rfl) (by rfl) (by rfl) (fun ev hc hf h0 h1 W hW => ?_) (fun W hW => q_calls hW (K2.out W)) ?_; (focus (obtain ⟨c0, c1, c2, c3, c4, c5, c6, c7, c8, c9, c10, c11⟩ := HS19 W hW; go_simp; done)); simp only [Act.put, List.setIfInBounds_toArray, List.set_cons_zero, List.set_cons_succ])
              | (refine qc2 120 122 _ _ _ (by rfl) (by rfl) (by rfl) (fun ev hc hf h0 h1 W hW => ?_) (fun W hW => q_calls hW (K3.out W)) ?_; (focus (obtain ⟨c0, c1, c2, c3, c4, c5, c6, c7, c8, c9, c10, c11⟩ := HS19 W hW; go_simp; done)); simp only [Act.put, List.setIfInBounds_toArray, List.set_cons_zero, List.set_cons_succ])
            (refine qv2 118 123 (v := ?_) (by rfl) (by rfl) (by rfl) (fun ev hc hf h0 h1 W hW => ?_) ?_; rotate_left; (focus (obtain ⟨c0, c1, c2, c3, c4, c5, c6, c7, c8, c9, c10, c11⟩ := HS19 W hW; first | (go_simp; done) | (go_simp; with_reducible rfl))); rotate_left; simp only [Act.put, List.setIfInBounds_toArray, List.set_cons_zero, List.set_cons_succ])
            (refine qv1 124 (v := ?_) (by rfl) (by rfl) (fun ev hc hf h0 W hW => ?_) ?_; rotate_left; (focus (obtain ⟨c0, c1, c2, c3, c4, c5, c6, c7, c8, c9, c10, c11⟩ := HS19 W hW; first | (go_simp; done) | (go_simp; with_reducible rfl))); rotate_left; simp only [Act.put, List.setIfInBounds_toArray, List.set_cons_zero, List.set_cons_succ])
            first
              | (refine qskip (by rfl) ?_; simp only [Act.put, List.setIfInBounds_toArray, List.set_cons_zero, List.set_cons_succ])
              | (refine qv1 14 (v := ?_) (by rfl) (by rfl) (fun ev hc hf h0 W hW => ?_) ?_; rotate_left; (focus (obtain ⟨c0, c1, c2, c3, c4, c5, c6, c7, c8, c9, c10, c11⟩ := HS19 W hW; first | (go_simp; done) | (go_simp; with_reducible rfl))); rotate_left; simp only [Act.put, List.setIfInBounds_toArray, List.set_cons_zero, List.set_cons_succ])
            first
              | (refine qskip (by rfl) ?_; simp only [Act.put, List.setIfInBounds_toArray, List.set_cons_zero, List.set_cons_succ])
              | (refine qv1 126 (v := ?_) (by rfl) (by rfl) (fun ev hc hf h0 W hW => ?_) ?_; rotate_left; (focus (obtain ⟨c0, c1, c2, c3, c4, c5, c6, c7, c8, c9, c10, c11⟩ := HS19 W hW; first | (go_simp; done) | (go_simp; with_reducible rfl))); rotate_left; simp only [Act.put, List.setIfInBounds_toArray, List.set_cons_zero, List.set_cons_succ])
            first
              | (refine qskip (by rfl) ?_; simp only [Act.put, List.setIfInBounds_toArray, List.set_cons_zero, List.set_cons_succ])
              | (refine qv1 13 (v := ?_) (by rfl) (by rfl) (fun ev hc hf h0 W hW => ?_) ?_; rotate_left; (focus (obtain ⟨c0, c1, c2, c3, c4, c5, c6, c7, c8, c9, c10, c11⟩ := HS19 W hW; first | (go_simp; done) | (go_simp; with_reducible rfl))); rotate_left; simp only [Act.put, List.setIfInBounds_toArray, List.set_cons_zero, List.set_cons_succ])
            first
              | (refine qskip (by rfl) ?_; simp only [Act.put, List.setIfInBounds_toArray, List.set_cons_zero, List.set_cons_succ])
              | (refine qc2 127 128 _ _ _ (by rfl) (by rfl) (by rfl) (fun ev hc hf h0 h1 W hW => ?_) (fun W hW => q_calls hW (K1.out W)) ?_; (focus (obtain ⟨c0, c1, c2, c3, c4, c5, c6, c7, c8, c9, c10, c11⟩ := HS19 W hW; go_simp; done)); simp only [Act.put, List.setIfInBounds_toArray, List.set_cons_zero, List.set_cons_succ])
              | (refine qc2 127 128 _ _ _ (by rfl) (by rfl) (by rfl) (fun ev hc hf h0 h1 W hW => ?_) (fun W hW => q_calls hW (K2.out W)) ?_; (focus (obtain ⟨c0, c1, c2, c3, c4, c5, c6, c7, c8, c9, c10, c11⟩ := HS19 W hW; go_simp; done)); simp only [Act.put, List.setIfInBounds_toArray, List.set_cons_zero, List.set_cons_succ])
              | (refine qc2 127 128 _ _ _ (by rfl) (by rfl) (by rfl) (fun ev hc hf h0 h1 W hW => ?_) (fun W hW => q_calls hW (K3.out W)) ?_; (focus (obtain ⟨c0, c1, c2, c3, c4, c5, c6, c7, c8, c9, c10, c11⟩ := HS19 W hW; go_simp; done)); simp only [Act.put, List.setIfInBounds_toArray, List.set_cons_zero, List.set_cons_succ])
            (refine qv2 125 129 (v := ?_) (by rfl) (by rfl) (by rfl) (fun ev hc hf h0 h1 W hW => ?_) ?_; rotate_left; (focus (obtain ⟨c0, c1, c2, c3, c4, c5, c6, c7, c8, c9, c10, c11⟩ := HS19 W hW; first | (go_simp; done) | (go_simp; with_reducible rfl))); rotate_left; simp only [Act.put, List.setIfInBounds_toArray, List.set_cons_zero, List.set_cons_succ])
            refine qnil ?_
            intro w9 hW9
            have kb9 := KB7.out.bel hW9
            have kq9 := KQ7.out.bel hW9
            have kx9 := KX7.out.bel hW9
            have HB9 := HB7.trans (Below.mono hW9 HB7.size)
            clear KB7 KQ7 KX7 HB7 HS19 K1 K2 K3 hW9
            have q0 : w9.cell? ⟨w7.heap.size, 0, none⟩ = _ := kq9.cell 0
            have q1 : w9.cell? ⟨w7.heap.size, 1, none⟩ = _ := kq9.cell 1
            simp at q0 q1
            obtain ⟨x0, x1, x2, x3, _, _, _, _⟩ := kx9.vote
            go_wp2_with fail
            refine (load_any a.pr a.pn a.has a.vr a.vn a.val _ hvs).mono ?_
            rintro e w10 (⟨hx, _, _⟩ | ⟨_, g2, hg2, rfl, kg, hb10⟩)
            · rw [hval] at hx; cases hx
            have kb10 := kb9.bel hb10
            have kq10 := kq9.bel hb10
            have kx10 := kx9.bel hb10
            have HB10 := HB9.trans (hb10.mono HB9.size)
            clear q0 q1 x0 x1 x2 x3 kb9 kq9 kx9 HB9 hb10 hg2
            have HS22 : ∀ W, Bel w10 W → W.cell? ⟨w7.heap.size, 0, none⟩ = some (.int .u64 a.pr) ∧ W.cell? ⟨w7.heap.size, 1, none⟩ = some (.int .i64 a.pn) ∧ W.cell? ⟨w7.heap.size + 1, 0, none⟩ = some (.bool a.has) ∧ W.cell? ⟨w7.heap.size + 1, 1, none⟩ = some (.int .u64 a.vr) ∧ W.cell? ⟨w7.heap.size + 1, 2, none⟩ = some (.int .i64 a.vn) ∧ W.cell? ⟨w7.heap.size + 1, 3, none⟩ = some (.string a.val) :=
              fun W hW => ⟨(kq10.bel hW).cell 0, (kq10.bel hW).cell 1, (kx10.bel hW).cell 0, (kx10.bel hW).cell 1, (kx10.bel hW).cell 2, (kx10.bel hW).cell 3⟩
            have V1 : Hid (∀ W, Bel w10 W → Calls Try.prog 31 #[.pointer (some ⟨g2, 0, none⟩)] W fun e W' => e = .returned (.agg #[.int .u64 a.pr, .int .i64 a.pn]) ∧ Below W.heap.size W W') := Lib.hid (fun W hW => promised_any (g2) (Acc.mk a.pr a.pn a.has a.vr a.vn a.val) W (kg.bel hW))
            have V2 : Hid (∀ W, Bel w10 W → Calls Try.prog 32 #[.pointer (some ⟨g2, 0, none⟩)] W fun e W' => e = .returned (.agg #[.bool a.has, .int .u64 a.vr, .int .i64 a.vn, .string a.val]) ∧ Below W.heap.size W W') := Lib.hid (fun W hW => vote_any (g2) (Acc.mk a.pr a.pn a.has a.vr a.vn a.val) W (kg.bel hW))
            have KB10 := Lib.hid kb10
            have HV := Lib.hid hval
            clear kg kb10 kq10 kx10 hval
            go_upto_region 22 with fail
            refine wp_qw (by kernel_rfl) ?_
            (refine qv1 16 (v := ?_) (by rfl) (by rfl) (fun ev hc hf h0 W hW => ?_) ?_; rotate_left; (focus (obtain ⟨c0, c1, c2, c3, c4, c5⟩ := HS22 W hW; first | (go_simp; done) | (go_simp; with_reducible rfl))); rotate_left; simp only [Act.put, List.setIfInBounds_toArray, List.set_cons_zero, List.set_cons_succ])
            (refine qv1 137 (v := ?_) (by rfl) (by rfl) (fun ev hc hf h0 W hW => ?_) ?_; rotate_left; (focus (obtain ⟨c0, c1, c2, c3, c4, c5⟩ := HS22 W hW; first | (go_simp; done) | (go_simp; with_reducible rfl))); rotate_left; simp only [Act.put, List.setIfInBounds_toArray, List.set_cons_zero, List.set_cons_succ])
            (refine qv1 138 (v := ?_) (by rfl) (by rfl) (fun ev hc hf h0 W hW => ?_) ?_; rotate_left; (focus (obtain ⟨c0, c1, c2, c3, c4, c5⟩ := HS22 W hW; first | (go_simp; done) | (go_simp; with_reducible rfl))); rotate_left; simp only [Act.put, List.setIfInBounds_toArray, List.set_cons_zero, List.set_cons_succ])
            first
              | (refine qskip (by rfl) ?_; simp only [Act.put, List.setIfInBounds_toArray, List.set_cons_zero, List.set_cons_succ])
              | (refine qv1 15 (v := ?_) (by rfl) (by rfl) (fun ev hc hf h0 W hW => ?_) ?_; rotate_left; (focus (obtain ⟨c0, c1, c2, c3, c4, c5⟩ := HS22 W hW; first | (go_simp; done) | (go_simp; with_reducible rfl))); rotate_left; simp only [Act.put, List.setIfInBounds_toArray, List.set_cons_zero, List.set_cons_succ])
            first
              | (refine qskip (by rfl) ?_; simp only [Act.put, List.setIfInBounds_toArray, List.set_cons_zero, List.set_cons_succ])
              | (refine qv1 140 (v := ?_) (by rfl) (by rfl) (fun ev hc hf h0 W hW => ?_) ?_; rotate_left; (focus (obtain ⟨c0, c1, c2, c3, c4, c5⟩ := HS22 W hW; first | (go_simp; done) | (go_simp; with_reducible rfl))); rotate_left; simp only [Act.put, List.setIfInBounds_toArray, List.set_cons_zero, List.set_cons_succ])
            (refine qv2 139 141 (v := ?_) (by rfl) (by rfl) (by rfl) (fun ev hc hf h0 h1 W hW => ?_) ?_; rotate_left; (focus (obtain ⟨c0, c1, c2, c3, c4, c5⟩ := HS22 W hW; first | (go_simp; done) | (go_simp; with_reducible rfl))); rotate_left; simp only [Act.put, List.setIfInBounds_toArray, List.set_cons_zero, List.set_cons_succ])
            (refine qv1 142 (v := ?_) (by rfl) (by rfl) (fun ev hc hf h0 W hW => ?_) ?_; rotate_left; (focus (obtain ⟨c0, c1, c2, c3, c4, c5⟩ := HS22 W hW; first | (go_simp; done) | (go_simp; with_reducible rfl))); rotate_left; simp only [Act.put, List.setIfInBounds_toArray, List.set_cons_zero, List.set_cons_succ])
            first
              | (refine qskip (by rfl) ?_; simp only [Act.put, List.setIfInBounds_toArray, List.set_cons_zero, List.set_cons_succ])
              | (refine qv1 15 (v := ?_) (by rfl) (by rfl) (fun ev hc hf h0 W hW => ?_) ?_; rotate_left; (focus (obtain ⟨c0, c1, c2, c3, c4, c5⟩ := HS22 W hW; first | (go_simp; done) | (go_simp; with_reducible rfl))); rotate_left; simp only [Act.put, List.setIfInBounds_toArray, List.set_cons_zero, List.set_cons_succ])
            first
              | (refine qskip (by rfl) ?_; simp only [Act.put, List.setIfInBounds_toArray, List.set_cons_zero, List.set_cons_succ])
              | (refine qc1 144 _ _ _ (by rfl) (by rfl) (fun ev hc hf h0 W hW => ?_) (fun W hW => q_calls hW (V1.out W hW)) ?_; (focus (obtain ⟨c0, c1, c2, c3, c4, c5⟩ := HS22 W hW; go_simp; done)); simp only [Act.put, List.setIfInBounds_toArray, List.set_cons_zero, List.set_cons_succ])
            first
              | (refine qskip (by rfl) ?_; simp only [Act.put, List.setIfInBounds_toArray, List.set_cons_zero, List.set_cons_succ])
              | (refine qv1 13 (v := ?_) (by rfl) (by rfl) (fun ev hc hf h0 W hW => ?_) ?_; rotate_left; (focus (obtain ⟨c0, c1, c2, c3, c4, c5⟩ := HS22 W hW; first | (go_simp; done) | (go_simp; with_reducible rfl))); rotate_left; simp only [Act.put, List.setIfInBounds_toArray, List.set_cons_zero, List.set_cons_succ])
            first
              | (refine qskip (by rfl) ?_; simp only [Act.put, List.setIfInBounds_toArray, List.set_cons_zero, List.set_cons_succ])
              | (refine qv2 145 146 (v := ?_) (by rfl) (by rfl) (by rfl) (fun ev hc hf h0 h1 W hW => ?_) ?_; rotate_left; (focus (obtain ⟨c0, c1, c2, c3, c4, c5⟩ := HS22 W hW; first | (go_simp; done) | (go_simp; with_reducible rfl))); rotate_left; simp only [Act.put, List.setIfInBounds_toArray, List.set_cons_zero, List.set_cons_succ])
            (refine qv2 143 147 (v := ?_) (by rfl) (by rfl) (by rfl) (fun ev hc hf h0 h1 W hW => ?_) ?_; rotate_left; (focus (obtain ⟨c0, c1, c2, c3, c4, c5⟩ := HS22 W hW; first | (go_simp; done) | (go_simp; with_reducible rfl))); rotate_left; simp only [Act.put, List.setIfInBounds_toArray, List.set_cons_zero, List.set_cons_succ])
            (refine qv1 148 (v := ?_) (by rfl) (by rfl) (fun ev hc hf h0 W hW => ?_) ?_; rotate_left; (focus (obtain ⟨c0, c1, c2, c3, c4, c5⟩ := HS22 W hW; first | (go_simp; done) | (go_simp; with_reducible rfl))); rotate_left; simp only [Act.put, List.setIfInBounds_toArray, List.set_cons_zero, List.set_cons_succ])
            first
              | (refine qskip (by rfl) ?_; simp only [Act.put, List.setIfInBounds_toArray, List.set_cons_zero, List.set_cons_succ])
              | (refine qv1 15 (v := ?_) (by rfl) (by rfl) (fun ev hc hf h0 W hW => ?_) ?_; rotate_left; (focus (obtain ⟨c0, c1, c2, c3, c4, c5⟩ := HS22 W hW; first | (go_simp; done) | (go_simp; with_reducible rfl))); rotate_left; simp only [Act.put, List.setIfInBounds_toArray, List.set_cons_zero, List.set_cons_succ])
            first
              | (refine qskip (by rfl) ?_; simp only [Act.put, List.setIfInBounds_toArray, List.set_cons_zero, List.set_cons_succ])
              | (refine qc1 150 _ _ _ (by rfl) (by rfl) (fun ev hc hf h0 W hW => ?_) (fun W hW => q_calls hW (V2.out W hW)) ?_; (focus (obtain ⟨c0, c1, c2, c3, c4, c5⟩ := HS22 W hW; go_simp; done)); simp only [Act.put, List.setIfInBounds_toArray, List.set_cons_zero, List.set_cons_succ])
            first
              | (refine qskip (by rfl) ?_; simp only [Act.put, List.setIfInBounds_toArray, List.set_cons_zero, List.set_cons_succ])
              | (refine qv1 14 (v := ?_) (by rfl) (by rfl) (fun ev hc hf h0 W hW => ?_) ?_; rotate_left; (focus (obtain ⟨c0, c1, c2, c3, c4, c5⟩ := HS22 W hW; first | (go_simp; done) | (go_simp; with_reducible rfl))); rotate_left; simp only [Act.put, List.setIfInBounds_toArray, List.set_cons_zero, List.set_cons_succ])
            first
              | (refine qskip (by rfl) ?_; simp only [Act.put, List.setIfInBounds_toArray, List.set_cons_zero, List.set_cons_succ])
              | (refine qv2 151 152 (v := ?_) (by rfl) (by rfl) (by rfl) (fun ev hc hf h0 h1 W hW => ?_) ?_; rotate_left; (focus (obtain ⟨c0, c1, c2, c3, c4, c5⟩ := HS22 W hW; first | (go_simp; done) | (go_simp; with_reducible rfl))); rotate_left; simp only [Act.put, List.setIfInBounds_toArray, List.set_cons_zero, List.set_cons_succ])
            (refine qv2 149 153 (v := ?_) (by rfl) (by rfl) (by rfl) (fun ev hc hf h0 h1 W hW => ?_) ?_; rotate_left; (focus (obtain ⟨c0, c1, c2, c3, c4, c5⟩ := HS22 W hW; first | (go_simp; done) | (go_simp; with_reducible rfl))); rotate_left; simp only [Act.put, List.setIfInBounds_toArray, List.set_cons_zero, List.set_cons_succ])
            refine qnil ?_
            intro w11 hW11
            go_wp2
            go_roundw
            case rel => exact ⟨k + 1, a, by omega, by go_num, KB10.out.bel hW11, HV.out, hvs, HB10.trans (Below.mono hW11 HB10.size)⟩
            case measure => simp [intOf]; omega
          · rw [h] at kb4 ⊢
            clear h
            have kb5 := kb4
            have kp5 := kp4
            have kv5 := kv4
            have ks5 := ks4
            have HB5 := HB4
            clear kb4 kp4 kv4 ks4 HB4
            go_upto_region 13 with fail
            generalize w4 = w5 at *
            have HS13 : ∀ W, Bel w5 W → W.cell? ⟨wr.heap.size, 0, none⟩ = some (.int .u64 r) ∧ W.cell? ⟨wr.heap.size, 1, none⟩ = some (.int .i64 n) ∧ W.cell? ⟨wr.heap.size, 2, none⟩ = some (.bool true) ∧ W.cell? ⟨wr.heap.size, 3, none⟩ = some (.string v) ∧ W.cell? ⟨w2.heap.size, 0, none⟩ = some (.int .u64 a.pr) ∧ W.cell? ⟨w2.heap.size, 1, none⟩ = some (.int .i64 a.pn) ∧ W.cell? ⟨w2.heap.size + 1, 0, none⟩ = some (.bool a.has) ∧ W.cell? ⟨w2.heap.size + 1, 1, none⟩ = some (.int .u64 a.vr) ∧ W.cell? ⟨w2.heap.size + 1, 2, none⟩ = some (.int .i64 a.vn) ∧ W.cell? ⟨w2.heap.size + 1, 3, none⟩ = some (.string a.val) :=
              fun W hW => ⟨(ks5.bel hW).cell 0, (ks5.bel hW).cell 1, (ks5.bel hW).cell 2, (ks5.bel hW).cell 3, (kp5.bel hW).cell 0, (kp5.bel hW).cell 1, (kv5.bel hW).cell 0, (kv5.bel hW).cell 1, (kv5.bel hW).cell 2, (kv5.bel hW).cell 3⟩
            have K9 := Lib.hid (fun (W : World) => above_v false a.pr a.pn r n hab W)
            have V1 : Hid (∀ W, Bel w5 W → Calls Try.prog 31 #[.pointer (some ⟨w.heap.size, 0, none⟩)] W fun e W' => e = .returned (.agg #[.int .u64 r, .int .i64 n]) ∧ Below W.heap.size W W') := Lib.hid (fun W hW => promised_any (w.heap.size) (Acc.accept r n v) W (kb5.bel hW))
            have V2 : Hid (∀ W, Bel w5 W → Calls Try.prog 32 #[.pointer (some ⟨w.heap.size, 0, none⟩)] W fun e W' => e = .returned (.agg #[.bool true, .int .u64 r, .int .i64 n, .string v]) ∧ Below W.heap.size W W') := Lib.hid (fun W hW => vote_any (w.heap.size) (Acc.accept r n v) W (kb5.bel hW))
            have KB5 := Lib.hid kb5
            have KP5 := Lib.hid kp5
            have KV5 := Lib.hid kv5
            clear kb5 kp5 kv5 ks5
            refine wp_qw (by kernel_rfl) ?_
            (refine qv1 8 (v := ?_) (by rfl) (by rfl) (fun ev hc hf h0 W hW => ?_) ?_; rotate_left; (focus (obtain ⟨c0, c1, c2, c3, c4, c5, c6, c7, c8, c9⟩ := HS13 W hW; first | (go_simp; done) | (go_simp; with_reducible rfl))); rotate_left; simp only [Act.put, List.setIfInBounds_toArray, List.set_cons_zero, List.set_cons_succ])
            (refine qv1 48 (v := ?_) (by rfl) (by rfl) (fun ev hc hf h0 W hW => ?_) ?_; rotate_left; (focus (obtain ⟨c0, c1, c2, c3, c4, c5, c6, c7, c8, c9⟩ := HS13 W hW; first | (go_simp; done) | (go_simp; with_reducible rfl))); rotate_left; simp only [Act.put, List.setIfInBounds_toArray, List.set_cons_zero, List.set_cons_succ])
            first
              | (refine qskip (by rfl) ?_; simp only [Act.put, List.setIfInBounds_toArray, List.set_cons_zero, List.set_cons_succ])
              | (refine qv1 6 (v := ?_) (by rfl) (by rfl) (fun ev hc hf h0 W hW => ?_) ?_; rotate_left; (focus (obtain ⟨c0, c1, c2, c3, c4, c5, c6, c7, c8, c9⟩ := HS13 W hW; first | (go_simp; done) | (go_simp; with_reducible rfl))); rotate_left; simp only [Act.put, List.setIfInBounds_toArray, List.set_cons_zero, List.set_cons_succ])
            first
              | (refine qskip (by rfl) ?_; simp only [Act.put, List.setIfInBounds_toArray, List.set_cons_zero, List.set_cons_succ])
              | (refine qv1 5 (v := ?_) (by rfl) (by rfl) (fun ev hc hf h0 W hW => ?_) ?_; rotate_left; (focus (obtain ⟨c0, c1, c2, c3, c4, c5, c6, c7, c8, c9⟩ := HS13 W hW; first | (go_simp; done) | (go_simp; with_reducible rfl))); rotate_left; simp only [Act.put, List.setIfInBounds_toArray, List.set_cons_zero, List.set_cons_succ])
            first
              | (refine qskip (by rfl) ?_; simp only [Act.put, List.setIfInBounds_toArray, List.set_cons_zero, List.set_cons_succ])
              | (refine qv1 51 (v := ?_) (by rfl) (by rfl) (fun ev hc hf h0 W hW => ?_) ?_; rotate_left; (focus (obtain ⟨c0, c1, c2, c3, c4, c5, c6, c7, c8, c9⟩ := HS13 W hW; first | (go_simp; done) | (go_simp; with_reducible rfl))); rotate_left; simp only [Act.put, List.setIfInBounds_toArray, List.set_cons_zero, List.set_cons_succ])
            first
              | (refine qskip (by rfl) ?_; simp only [Act.put, List.setIfInBounds_toArray, List.set_cons_zero, List.set_cons_succ])
              | (refine qc2 50 52 _ _ _ (by rfl) (by rfl) (by rfl) (fun ev hc hf h0 h1 W hW => ?_) (fun W hW => q_calls hW (K9.out W)) ?_; (focus (obtain ⟨c0, c1, c2, c3, c4, c5, c6, c7, c8, c9⟩ := HS13 W hW; go_simp; done)); simp only [Act.put, List.setIfInBounds_toArray, List.set_cons_zero, List.set_cons_succ])
            first
              | (refine qskip (by rfl) ?_; simp only [Act.put, List.setIfInBounds_toArray, List.set_cons_zero, List.set_cons_succ])
              | (refine qv1 53 (v := ?_) (by rfl) (by rfl) (fun ev hc hf h0 W hW => ?_) ?_; rotate_left; (focus (obtain ⟨c0, c1, c2, c3, c4, c5, c6, c7, c8, c9⟩ := HS13 W hW; first | (go_simp; done) | (go_simp; with_reducible rfl))); rotate_left; simp only [Act.put, List.setIfInBounds_toArray, List.set_cons_zero, List.set_cons_succ])
            first
              | (refine qskip (by rfl) ?_; simp only [Act.put, List.setIfInBounds_toArray, List.set_cons_zero, List.set_cons_succ])
              | (refine qv1 3 (v := ?_) (by rfl) (by rfl) (fun ev hc hf h0 W hW => ?_) ?_; rotate_left; (focus (obtain ⟨c0, c1, c2, c3, c4, c5, c6, c7, c8, c9⟩ := HS13 W hW; first | (go_simp; done) | (go_simp; with_reducible rfl))); rotate_left; simp only [Act.put, List.setIfInBounds_toArray, List.set_cons_zero, List.set_cons_succ])
            first
              | (refine qskip (by rfl) ?_; simp only [Act.put, List.setIfInBounds_toArray, List.set_cons_zero, List.set_cons_succ])
              | (refine qc1 55 _ _ _ (by rfl) (by rfl) (fun ev hc hf h0 W hW => ?_) (fun W hW => q_calls hW (V2.out W hW)) ?_; (focus (obtain ⟨c0, c1, c2, c3, c4, c5, c6, c7, c8, c9⟩ := HS13 W hW; go_simp; done)); simp only [Act.put, List.setIfInBounds_toArray, List.set_cons_zero, List.set_cons_succ])
            first
              | (refine qskip (by rfl) ?_; simp only [Act.put, List.setIfInBounds_toArray, List.set_cons_zero, List.set_cons_succ])
              | (refine qv1 5 (v := ?_) (by rfl) (by rfl) (fun ev hc hf h0 W hW => ?_) ?_; rotate_left; (focus (obtain ⟨c0, c1, c2, c3, c4, c5, c6, c7, c8, c9⟩ := HS13 W hW; first | (go_simp; done) | (go_simp; with_reducible rfl))); rotate_left; simp only [Act.put, List.setIfInBounds_toArray, List.set_cons_zero, List.set_cons_succ])
            first
              | (refine qskip (by rfl) ?_; simp only [Act.put, List.setIfInBounds_toArray, List.set_cons_zero, List.set_cons_succ])
              | (refine qv1 57 (v := ?_) (by rfl) (by rfl) (fun ev hc hf h0 W hW => ?_) ?_; rotate_left; (focus (obtain ⟨c0, c1, c2, c3, c4, c5, c6, c7, c8, c9⟩ := HS13 W hW; first | (go_simp; done) | (go_simp; with_reducible rfl))); rotate_left; simp only [Act.put, List.setIfInBounds_toArray, List.set_cons_zero, List.set_cons_succ])
            first
              | (refine qskip (by rfl) ?_; simp only [Act.put, List.setIfInBounds_toArray, List.set_cons_zero, List.set_cons_succ])
              | (refine qv1 5 (v := ?_) (by rfl) (by rfl) (fun ev hc hf h0 W hW => ?_) ?_; rotate_left; (focus (obtain ⟨c0, c1, c2, c3, c4, c5, c6, c7, c8, c9⟩ := HS13 W hW; first | (go_simp; done) | (go_simp; with_reducible rfl))); rotate_left; simp only [Act.put, List.setIfInBounds_toArray, List.set_cons_zero, List.set_cons_succ])
            first
              | (refine qskip (by rfl) ?_; simp only [Act.put, List.setIfInBounds_toArray, List.set_cons_zero, List.set_cons_succ])
              | (refine qv1 59 (v := ?_) (by rfl) (by rfl) (fun ev hc hf h0 W hW => ?_) ?_; rotate_left; (focus (obtain ⟨c0, c1, c2, c3, c4, c5, c6, c7, c8, c9⟩ := HS13 W hW; first | (go_simp; done) | (go_simp; with_reducible rfl))); rotate_left; simp only [Act.put, List.setIfInBounds_toArray, List.set_cons_zero, List.set_cons_succ])
            first
              | (refine qskip (by rfl) ?_; simp only [Act.put, List.setIfInBounds_toArray, List.set_cons_zero, List.set_cons_succ])
              | (refine qv2 58 60 (v := ?_) (by rfl) (by rfl) (by rfl) (fun ev hc hf h0 h1 W hW => ?_) ?_; rotate_left; (focus (obtain ⟨c0, c1, c2, c3, c4, c5, c6, c7, c8, c9⟩ := HS13 W hW; first | (go_simp; done) | (go_simp; with_reducible rfl))); rotate_left; simp only [Act.put, List.setIfInBounds_toArray, List.set_cons_zero, List.set_cons_succ])
            first
              | (refine qskip (by rfl) ?_; simp only [Act.put, List.setIfInBounds_toArray, List.set_cons_zero, List.set_cons_succ])
              | (refine qv2 56 61 (v := ?_) (by rfl) (by rfl) (by rfl) (fun ev hc hf h0 h1 W hW => ?_) ?_; rotate_left; (focus (obtain ⟨c0, c1, c2, c3, c4, c5, c6, c7, c8, c9⟩ := HS13 W hW; first | (go_simp; done) | (go_simp; with_reducible rfl))); rotate_left; simp only [Act.put, List.setIfInBounds_toArray, List.set_cons_zero, List.set_cons_succ])
            first
              | (refine qskip (by rfl) ?_; simp only [Act.put, List.setIfInBounds_toArray, List.set_cons_zero, List.set_cons_succ])
              | (refine qv2 54 62 (v := ?_) (by rfl) (by rfl) (by rfl) (fun ev hc hf h0 h1 W hW => ?_) ?_; rotate_left; (focus (obtain ⟨c0, c1, c2, c3, c4, c5, c6, c7, c8, c9⟩ := HS13 W hW; first | (go_simp; done) | (go_simp; with_reducible rfl))); rotate_left; simp only [Act.put, List.setIfInBounds_toArray, List.set_cons_zero, List.set_cons_succ])
            (refine qv2 49 63 (v := ?_) (by rfl) (by rfl) (by rfl) (fun ev hc hf h0 h1 W hW => ?_) ?_; rotate_left; (focus (obtain ⟨c0, c1, c2, c3, c4, c5, c6, c7, c8, c9⟩ := HS13 W hW; first | (go_simp; done) | (go_simp; with_reducible rfl))); rotate_left; simp only [Act.put, List.setIfInBounds_toArray, List.set_cons_zero, List.set_cons_succ])
            (refine qv1 64 (v := ?_) (by rfl) (by rfl) (fun ev hc hf h0 W hW => ?_) ?_; rotate_left; (focus (obtain ⟨c0, c1, c2, c3, c4, c5, c6, c7, c8, c9⟩ := HS13 W hW; first | (go_simp; done) | (go_simp; with_reducible rfl))); rotate_left; simp only [Act.put, List.setIfInBounds_toArray, List.set_cons_zero, List.set_cons_succ])
            first
              | (refine qskip (by rfl) ?_; simp only [Act.put, List.setIfInBounds_toArray, List.set_cons_zero, List.set_cons_succ])
              | (refine qv1 8 (v := ?_) (by rfl) (by rfl) (fun ev hc hf h0 W hW => ?_) ?_; rotate_left; (focus (obtain ⟨c0, c1, c2, c3, c4, c5, c6, c7, c8, c9⟩ := HS13 W hW; first | (go_simp; done) | (go_simp; with_reducible rfl))); rotate_left; simp only [Act.put, List.setIfInBounds_toArray, List.set_cons_zero, List.set_cons_succ])
            first
              | (refine qskip (by rfl) ?_; simp only [Act.put, List.setIfInBounds_toArray, List.set_cons_zero, List.set_cons_succ])
              | (refine qv1 66 (v := ?_) (by rfl) (by rfl) (fun ev hc hf h0 W hW => ?_) ?_; rotate_left; (focus (obtain ⟨c0, c1, c2, c3, c4, c5, c6, c7, c8, c9⟩ := HS13 W hW; first | (go_simp; done) | (go_simp; with_reducible rfl))); rotate_left; simp only [Act.put, List.setIfInBounds_toArray, List.set_cons_zero, List.set_cons_succ])
            first
              | (refine qskip (by rfl) ?_; simp only [Act.put, List.setIfInBounds_toArray, List.set_cons_zero, List.set_cons_succ])
              | (refine qv1 67 (v := ?_) (by rfl) (by rfl) (fun ev hc hf h0 W hW => ?_) ?_; rotate_left; (focus (obtain ⟨c0, c1, c2, c3, c4, c5, c6, c7, c8, c9⟩ := HS13 W hW; first | (go_simp; done) | (go_simp; with_reducible rfl))); rotate_left; simp only [Act.put, List.setIfInBounds_toArray, List.set_cons_zero, List.set_cons_succ])
            first
              | (refine qskip (by rfl) ?_; simp only [Act.put, List.setIfInBounds_toArray, List.set_cons_zero, List.set_cons_succ])
              | (refine qv1 3 (v := ?_) (by rfl) (by rfl) (fun ev hc hf h0 W hW => ?_) ?_; rotate_left; (focus (obtain ⟨c0, c1, c2, c3, c4, c5, c6, c7, c8, c9⟩ := HS13 W hW; first | (go_simp; done) | (go_simp; with_reducible rfl))); rotate_left; simp only [Act.put, List.setIfInBounds_toArray, List.set_cons_zero, List.set_cons_succ])
            first
              | (refine qskip (by rfl) ?_; simp only [Act.put, List.setIfInBounds_toArray, List.set_cons_zero, List.set_cons_succ])
              | (refine qc1 69 _ _ _ (by rfl) (by rfl) (fun ev hc hf h0 W hW => ?_) (fun W hW => q_calls hW (V2.out W hW)) ?_; (focus (obtain ⟨c0, c1, c2, c3, c4, c5, c6, c7, c8, c9⟩ := HS13 W hW; go_simp; done)); simp only [Act.put, List.setIfInBounds_toArray, List.set_cons_zero, List.set_cons_succ])
            first
              | (refine qskip (by rfl) ?_; simp only [Act.put, List.setIfInBounds_toArray, List.set_cons_zero, List.set_cons_succ])
              | (refine qv1 7 (v := ?_) (by rfl) (by rfl) (fun ev hc hf h0 W hW => ?_) ?_; rotate_left; (focus (obtain ⟨c0, c1, c2, c3, c4, c5, c6, c7, c8, c9⟩ := HS13 W hW; first | (go_simp; done) | (go_simp; with_reducible rfl))); rotate_left; simp only [Act.put, List.setIfInBounds_toArray, List.set_cons_zero, List.set_cons_succ])
            first
              | (refine qskip (by rfl) ?_; simp only [Act.put, List.setIfInBounds_toArray, List.set_cons_zero, List.set_cons_succ])
              | (refine qv2 70 71 (v := ?_) (by rfl) (by rfl) (by rfl) (fun ev hc hf h0 h1 W hW => ?_) ?_; rotate_left; (focus (obtain ⟨c0, c1, c2, c3, c4, c5, c6, c7, c8, c9⟩ := HS13 W hW; first | (go_simp; done) | (go_simp; with_reducible rfl))); rotate_left; simp only [Act.put, List.setIfInBounds_toArray, List.set_cons_zero, List.set_cons_succ])
            first
              | (refine qskip (by rfl) ?_; simp only [Act.put, List.setIfInBounds_toArray, List.set_cons_zero, List.set_cons_succ])
              | (refine qv2 68 72 (v := ?_) (by rfl) (by rfl) (by rfl) (fun ev hc hf h0 h1 W hW => ?_) ?_; rotate_left; (focus (obtain ⟨c0, c1, c2, c3, c4, c5, c6, c7, c8, c9⟩ := HS13 W hW; first | (go_simp; done) | (go_simp; with_reducible rfl))); rotate_left; simp only [Act.put, List.setIfInBounds_toArray, List.set_cons_zero, List.set_cons_succ])
            (refine qv2 65 73 (v := ?_) (by rfl) (by rfl) (by rfl) (fun ev hc hf h0 h1 W hW => ?_) ?_; rotate_left; (focus (obtain ⟨c0, c1, c2, c3, c4, c5, c6, c7, c8, c9⟩ := HS13 W hW; first | (go_simp; done) | (go_simp; with_reducible rfl))); rotate_left; simp only [Act.put, List.setIfInBounds_toArray, List.set_cons_zero, List.set_cons_succ])
            refine qnil ?_
            intro w51 hW51
            have kb51 := KB5.out.bel hW51
            have kp51 := KP5.out.bel hW51
            have kv51 := KV5.out.bel hW51
            have HB51 := HB5.trans (Below.mono hW51 HB5.size)
            clear KB5 KP5 KV5 HB5 HS13 hW51 V1 V2 K9
            generalize w51 = w5 at *
            have kb5 := kb51
            have kp5 := kp51
            have kv5 := kv51
            have HB5 := HB51
            clear kb51 kp51 kv51 HB51
            have ab2 := valid_trans hval hab
            have hval := valid_accept hnm hsz
            have hvs : v.size ≤ 9223372036854775807 := hv
            have ab1 := hab
            have ab3 := valid_above hval

            have hz5 := HB5.size
            have hg5 := kb5.lt
            go_wp2_with fail
            refine (promised_any w.heap.size (Acc.accept r n v) _ kb5).mono ?_
            rintro e w6 ⟨rfl, hb6⟩
            have kb6 := kb5.bel hb6
            have kp6 := kp5.bel hb6
            have kv6 := kv5.bel hb6
            have HB6 := HB5.trans (hb6.mono HB5.size)
            clear kb5 kp5 kv5 HB5 hb6 hz5 hg5
            go_wp2_with fail
            refine (vote_any w.heap.size (Acc.accept r n v) _ kb6).mono ?_
            rintro e w7 ⟨rfl, hb7⟩
            simp only [voteV, Acc.promise, Acc.accept]
            have kb7 := ((kb6.bel hb7).alloc (.cells #[.int .u64 r, .int .i64 n] 24)).alloc (.cells #[.bool true, .int .u64 r, .int .i64 n, .string v] 46)
            have kp7 := ((kp6.bel hb7).alloc (.cells #[.int .u64 r, .int .i64 n] 24)).alloc (.cells #[.bool true, .int .u64 r, .int .i64 n, .string v] 46)
            have kv7 := ((kv6.bel hb7).alloc (.cells #[.int .u64 r, .int .i64 n] 24)).alloc (.cells #[.bool true, .int .u64 r, .int .i64 n, .string v] 46)
            have kq7 := (Bk.new w7 #[.int .u64 r, .int .i64 n] 24).alloc (.cells #[.bool true, .int .u64 r, .int .i64 n, .string v] 46)
            have kx7 := Bk.new (w7.alloc (.cells #[.int .u64 r, .int .i64 n] 24)) #[.bool true, .int .u64 r, .int .i64 n, .string v] 46
            rw [World.size_alloc] at kx7
            have HB7 := HB6.trans (hb7.mono HB6.size)
            have HB7 := (HB7.alloc HB7.size (.cells #[.int .u64 r, .int .i64 n] 24)).alloc (by have := HB7.size; simp; omega) (.cells #[.bool true, .int .u64 r, .int .i64 n, .string v] 46)
            clear kb6 kp6 kv6 HB6 hb7
            go_upto_region 19 with fail
            generalize (w7.alloc (.cells #[.int .u64 r, .int .i64 n] 24)).alloc (.cells #[.bool true, .int .u64 r, .int .i64 n, .string v] 46) = w8 at *
            have HS19 : ∀ W, Bel w8 W → W.cell? ⟨w2.heap.size, 0, none⟩ = some (.int .u64 a.pr) ∧ W.cell? ⟨w2.heap.size, 1, none⟩ = some (.int .i64 a.pn) ∧ W.cell? ⟨w2.heap.size + 1, 0, none⟩ = some (.bool a.has) ∧ W.cell? ⟨w2.heap.size + 1, 1, none⟩ = some (.int .u64 a.vr) ∧ W.cell? ⟨w2.heap.size + 1, 2, none⟩ = some (.int .i64 a.vn) ∧ W.cell? ⟨w2.heap.size + 1, 3, none⟩ = some (.string a.val) ∧ W.cell? ⟨w7.heap.size, 0, none⟩ = some (.int .u64 r) ∧ W.cell? ⟨w7.heap.size, 1, none⟩ = some (.int .i64 n) ∧ W.cell? ⟨w7.heap.size + 1, 0, none⟩ = some (.bool true) ∧ W.cell? ⟨w7.heap.size + 1, 1, none⟩ = some (.int .u64 r) ∧ W.cell? ⟨w7.heap.size + 1, 2, none⟩ = some (.int .i64 n) ∧ W.cell? ⟨w7.heap.size + 1, 3, none⟩ = some (.string v) :=
              fun W hW => ⟨(kp7.bel hW).cell 0, (kp7.bel hW).cell 1, (kv7.bel hW).cell 0, (kv7.bel hW).cell 1, (kv7.bel hW).cell 2, (kv7.bel hW).cell 3, (kq7.bel hW).cell 0, (kq7.bel hW).cell 1, (kx7.bel hW).cell 0, (kx7.bel hW).cell 1, (kx7.bel hW).cell 2, (kx7.bel hW).cell 3⟩
            have K1 := Lib.hid (fun (W : World) => above_v false a.pr a.pn r n ab1 W)
            have K2 := Lib.hid (fun (W : World) => above_v false a.vr a.vn r n ab2 W)
            have K3 := Lib.hid (fun (W : World) => above_v false r n r n ab3 W)
            have KB7 := Lib.hid kb7
            have KQ7 := Lib.hid kq7
            have KX7 := Lib.hid kx7
            clear kb7 kp7 kv7 kq7 kx7 ab1 ab2 ab3
            go_wp2_with (with_reducible refine wpList_qw 115 rfl ?_)
            (refine qv1 6 (v := ?_) (by rfl) (by rfl) (fun ev hc hf h0 W hW => ?_) ?_; rotate_left; (focus (obtain ⟨c0, c1, c2, c3, c4, c5, c6, c7, c8, c9, c10, c11⟩ := HS19 W hW; first | (go_simp; done) | (go_simp; with_reducible rfl))); rotate_left; simp only [Act.put, List.setIfInBounds_toArray, List.set_cons_zero, List.set_cons_succ])
            (refine qv1 13 (v := ?_) (by rfl) (by rfl) (fun ev hc hf h0 W hW => ?_) ?_; rotate_left; (focus (obtain ⟨c0, c1, c2, c3, c4, c5, c6, c7, c8, c9, c10, c11⟩ := HS19 W hW; first | (go_simp; done) | (go_simp; with_reducible rfl))); rotate_left; simp only [Act.put, List.setIfInBounds_toArray, List.set_cons_zero, List.set_cons_succ])
            first
              | (refine qc2 115 116 _ _ _ (by rfl) (by rfl) (by rfl) (fun ev hc hf h0 h1 W hW => ?_) (fun W hW => q_calls hW (K1.out W)) ?_; (focus (obtain ⟨c0, c1, c2, c3, c4, c5, c6, c7, c8, c9, c10, c11⟩ := HS19 W hW; go_simp; done)); simp only [Act.put, List.setIfInBounds_toArray, List.set_cons_zero, List.set_cons_succ])
              | (refine qc2 115 116 _ _ _ (by rfl) (by rfl) (by rfl) (fun ev hc hf h0 h1 W hW => ?_) (fun W hW => q_calls hW (K2.out W)) ?_; (focus (obtain ⟨c0, c1, c2, c3, c4, c5, c6, c7, c8, c9, c10, c11⟩ := HS19 W hW; go_simp; done)); simp only [Act.put, List.setIfInBounds_toArray, List.set_cons_zero, List.set_cons_succ])
              | (refine qc2 115 116 _ _ _ (by rfl) (by rfl) (by rfl) (fun ev hc hf h0 h1 W hW => ?_) (fun W hW => q_calls hW (K3.out W)) ?_; (focus (obtain ⟨c0, c1, c2, c3, c4, c5, c6, c7, c8, c9, c10, c11⟩ := HS19 W hW; go_simp; done)); simp only [Act.put, List.setIfInBounds_toArray, List.set_cons_zero, List.set_cons_succ])
            (refine qv1 117 (v := ?_) (by rfl) (by rfl) (fun ev hc hf h0 W hW => ?_) ?_; rotate_left; (focus (obtain ⟨c0, c1, c2, c3, c4, c5, c6, c7, c8, c9, c10, c11⟩ := HS19 W hW; first | (go_simp; done) | (go_simp; with_reducible rfl))); rotate_left; simp only [Act.put, List.setIfInBounds_toArray, List.set_cons_zero, List.set_cons_succ])
            first
              | (refine qskip (by rfl) ?_; simp only [Act.put, List.setIfInBounds_toArray, List.set_cons_zero, List.set_cons_succ])
              | (refine qv1 7 (v := ?_) (by rfl) (by rfl) (fun ev hc hf h0 W hW => ?_) ?_; rotate_left; (focus (obtain ⟨c0, c1, c2, c3, c4, c5, c6, c7, c8, c9, c10, c11⟩ := HS19 W hW; first | (go_simp; done) | (go_simp; with_reducible rfl))); rotate_left; simp only [Act.put, List.setIfInBounds_toArray, List.set_cons_zero, List.set_cons_succ])
            first
              | (refine qskip (by rfl) ?_; simp only [Act.put, List.setIfInBounds_toArray, List.set_cons_zero, List.set_cons_succ])
              | (refine qv1 119 (v := ?_) (by rfl) (by rfl) (fun ev hc hf h0 W hW => ?_) ?_; rotate_left; (focus (obtain ⟨c0, c1, c2, c3, c4, c5, c6, c7, c8, c9, c10, c11⟩ := HS19 W hW; first | (go_simp; done) | (go_simp; with_reducible rfl))); rotate_left; simp only [Act.put, List.setIfInBounds_toArray, List.set_cons_zero, List.set_cons_succ])
            first
              | (refine qskip (by rfl) ?_; simp only [Act.put, List.setIfInBounds_toArray, List.set_cons_zero, List.set_cons_succ])
              | (refine qv1 14 (v := ?_) (by rfl) (by rfl) (fun ev hc hf h0 W hW => ?_) ?_; rotate_left; (focus (obtain ⟨c0, c1, c2, c3, c4, c5, c6, c7, c8, c9, c10, c11⟩ := HS19 W hW; first | (go_simp; done) | (go_simp; with_reducible rfl))); rotate_left; simp only [Act.put, List.setIfInBounds_toArray, List.set_cons_zero, List.set_cons_succ])
            first
              | (refine qskip (by rfl) ?_; simp only [Act.put, List.setIfInBounds_toArray, List.set_cons_zero, List.set_cons_succ])
              | (refine qv1 121 (v := ?_) (by rfl) (by rfl) (fun ev hc hf h0 W hW => ?_) ?_; rotate_left; (focus (obtain ⟨c0, c1, c2, c3, c4, c5, c6, c7, c8, c9, c10, c11⟩ := HS19 W hW; first | (go_simp; done) | (go_simp; with_reducible rfl))); rotate_left; simp only [Act.put, List.setIfInBounds_toArray, List.set_cons_zero, List.set_cons_succ])
            first
              | (refine qskip (by rfl) ?_; simp only [Act.put, List.setIfInBounds_toArray, List.set_cons_zero, List.set_cons_succ])
              | (refine qc2 120 122 _ _ _ (by rfl) (by rfl) (by rfl) (fun ev hc hf h0 h1 W hW => ?_) (fun W hW => q_calls hW (K1.out W)) ?_; (focus (obtain ⟨c0, c1, c2, c3, c4, c5, c6, c7, c8, c9, c10, c11⟩ := HS19 W hW; go_simp; done)); simp only [Act.put, List.setIfInBounds_toArray, List.set_cons_zero, List.set_cons_succ])
              | (refine qc2 120 122 _ _ _ (by rfl) (by rfl) (by rfl) (fun ev hc hf h0 h1 W hW => ?_) (fun W hW => q_calls hW (K2.out W)) ?_; (focus (obtain ⟨c0, c1, c2, c3, c4, c5, c6, c7, c8, c9, c10, c11⟩ := HS19 W hW; go_simp; done)); simp only [Act.put, List.setIfInBounds_toArray, List.set_cons_zero, List.set_cons_succ])
              | (refine qc2 120 122 _ _ _ (by rfl) (by rfl) (by rfl) (fun ev hc hf h0 h1 W hW => ?_) (fun W hW => q_calls hW (K3.out W)) ?_; (focus (obtain ⟨c0, c1, c2, c3, c4, c5, c6, c7, c8, c9, c10, c11⟩ := HS19 W hW; go_simp; done)); simp only [Act.put, List.setIfInBounds_toArray, List.set_cons_zero, List.set_cons_succ])
            (refine qv2 118 123 (v := ?_) (by rfl) (by rfl) (by rfl) (fun ev hc hf h0 h1 W hW => ?_) ?_; rotate_left; (focus (obtain ⟨c0, c1, c2, c3, c4, c5, c6, c7, c8, c9, c10, c11⟩ := HS19 W hW; first | (go_simp; done) | (go_simp; with_reducible rfl))); rotate_left; simp only [Act.put, List.setIfInBounds_toArray, List.set_cons_zero, List.set_cons_succ])
            (refine qv1 124 (v := ?_) (by rfl) (by rfl) (fun ev hc hf h0 W hW => ?_) ?_; rotate_left; (focus (obtain ⟨c0, c1, c2, c3, c4, c5, c6, c7, c8, c9, c10, c11⟩ := HS19 W hW; first | (go_simp; done) | (go_simp; with_reducible rfl))); rotate_left; simp only [Act.put, List.setIfInBounds_toArray, List.set_cons_zero, List.set_cons_succ])
            first
              | (refine qskip (by rfl) ?_; simp only [Act.put, List.setIfInBounds_toArray, List.set_cons_zero, List.set_cons_succ])
              | (refine qv1 14 (v := ?_) (by rfl) (by rfl) (fun ev hc hf h0 W hW => ?_) ?_; rotate_left; (focus (obtain ⟨c0, c1, c2, c3, c4, c5, c6, c7, c8, c9, c10, c11⟩ := HS19 W hW; first | (go_simp; done) | (go_simp; with_reducible rfl))); rotate_left; simp only [Act.put, List.setIfInBounds_toArray, List.set_cons_zero, List.set_cons_succ])
            first
              | (refine qskip (by rfl) ?_; simp only [Act.put, List.setIfInBounds_toArray, List.set_cons_zero, List.set_cons_succ])
              | (refine qv1 126 (v := ?_) (by rfl) (by rfl) (fun ev hc hf h0 W hW => ?_) ?_; rotate_left; (focus (obtain ⟨c0, c1, c2, c3, c4, c5, c6, c7, c8, c9, c10, c11⟩ := HS19 W hW; first | (go_simp; done) | (go_simp; with_reducible rfl))); rotate_left; simp only [Act.put, List.setIfInBounds_toArray, List.set_cons_zero, List.set_cons_succ])
            first
              | (refine qskip (by rfl) ?_; simp only [Act.put, List.setIfInBounds_toArray, List.set_cons_zero, List.set_cons_succ])
              | (refine qv1 13 (v := ?_) (by rfl) (by rfl) (fun ev hc hf h0 W hW => ?_) ?_; rotate_left; (focus (obtain ⟨c0, c1, c2, c3, c4, c5, c6, c7, c8, c9, c10, c11⟩ := HS19 W hW; first | (go_simp; done) | (go_simp; with_reducible rfl))); rotate_left; simp only [Act.put, List.setIfInBounds_toArray, List.set_cons_zero, List.set_cons_succ])
            first
              | (refine qskip (by rfl) ?_; simp only [Act.put, List.setIfInBounds_toArray, List.set_cons_zero, List.set_cons_succ])
              | (refine qc2 127 128 _ _ _ (by rfl) (by rfl) (by rfl) (fun ev hc hf h0 h1 W hW => ?_) (fun W hW => q_calls hW (K1.out W)) ?_; (focus (obtain ⟨c0, c1, c2, c3, c4, c5, c6, c7, c8, c9, c10, c11⟩ := HS19 W hW; go_simp; done)); simp only [Act.put, List.setIfInBounds_toArray, List.set_cons_zero, List.set_cons_succ])
              | (refine qc2 127 128 _ _ _ (by rfl) (by rfl) (by rfl) (fun ev hc hf h0 h1 W hW => ?_) (fun W hW => q_calls hW (K2.out W)) ?_; (focus (obtain ⟨c0, c1, c2, c3, c4, c5, c6, c7, c8, c9, c10, c11⟩ := HS19 W hW; go_simp; done)); simp only [Act.put, List.setIfInBounds_toArray, List.set_cons_zero, List.set_cons_succ])
              | (refine qc2 127 128 _ _ _ (by rfl) (by rfl) (by rfl) (fun ev hc hf h0 h1 W hW => ?_) (fun W hW => q_calls hW (K3.out W)) ?_; (focus (obtain ⟨c0, c1, c2, c3, c4, c5, c6, c7, c8, c9, c10, c11⟩ := HS19 W hW; go_simp; done)); simp only [Act.put, List.setIfInBounds_toArray, List.set_cons_zero, List.set_cons_succ])
            (refine qv2 125 129 (v := ?_) (by rfl) (by rfl) (by rfl) (fun ev hc hf h0 h1 W hW => ?_) ?_; rotate_left; (focus (obtain ⟨c0, c1, c2, c3, c4, c5, c6, c7, c8, c9, c10, c11⟩ := HS19 W hW; first | (go_simp; done) | (go_simp; with_reducible rfl))); rotate_left; simp only [Act.put, List.setIfInBounds_toArray, List.set_cons_zero, List.set_cons_succ])
            refine qnil ?_
            intro w9 hW9
            have kb9 := KB7.out.bel hW9
            have kq9 := KQ7.out.bel hW9
            have kx9 := KX7.out.bel hW9
            have HB9 := HB7.trans (Below.mono hW9 HB7.size)
            clear KB7 KQ7 KX7 HB7 HS19 K1 K2 K3 hW9
            have q0 : w9.cell? ⟨w7.heap.size, 0, none⟩ = _ := kq9.cell 0
            have q1 : w9.cell? ⟨w7.heap.size, 1, none⟩ = _ := kq9.cell 1
            simp at q0 q1
            obtain ⟨x0, x1, x2, x3, _, _, _, _⟩ := kx9.vote
            go_wp2_with fail
            refine (load_any r n true r n v _ hvs).mono ?_
            rintro e w10 (⟨hx, _, _⟩ | ⟨_, g2, hg2, rfl, kg, hb10⟩)
            · rw [hval] at hx; cases hx
            have kb10 := kb9.bel hb10
            have kq10 := kq9.bel hb10
            have kx10 := kx9.bel hb10
            have HB10 := HB9.trans (hb10.mono HB9.size)
            clear q0 q1 x0 x1 x2 x3 kb9 kq9 kx9 HB9 hb10 hg2
            have HS22 : ∀ W, Bel w10 W → W.cell? ⟨w7.heap.size, 0, none⟩ = some (.int .u64 r) ∧ W.cell? ⟨w7.heap.size, 1, none⟩ = some (.int .i64 n) ∧ W.cell? ⟨w7.heap.size + 1, 0, none⟩ = some (.bool true) ∧ W.cell? ⟨w7.heap.size + 1, 1, none⟩ = some (.int .u64 r) ∧ W.cell? ⟨w7.heap.size + 1, 2, none⟩ = some (.int .i64 n) ∧ W.cell? ⟨w7.heap.size + 1, 3, none⟩ = some (.string v) :=
              fun W hW => ⟨(kq10.bel hW).cell 0, (kq10.bel hW).cell 1, (kx10.bel hW).cell 0, (kx10.bel hW).cell 1, (kx10.bel hW).cell 2, (kx10.bel hW).cell 3⟩
            have V1 : Hid (∀ W, Bel w10 W → Calls Try.prog 31 #[.pointer (some ⟨g2, 0, none⟩)] W fun e W' => e = .returned (.agg #[.int .u64 r, .int .i64 n]) ∧ Below W.heap.size W W') := Lib.hid (fun W hW => promised_any (g2) (Acc.mk r n true r n v) W (kg.bel hW))
            have V2 : Hid (∀ W, Bel w10 W → Calls Try.prog 32 #[.pointer (some ⟨g2, 0, none⟩)] W fun e W' => e = .returned (.agg #[.bool true, .int .u64 r, .int .i64 n, .string v]) ∧ Below W.heap.size W W') := Lib.hid (fun W hW => vote_any (g2) (Acc.mk r n true r n v) W (kg.bel hW))
            have KB10 := Lib.hid kb10
            have HV := Lib.hid hval
            clear kg kb10 kq10 kx10 hval
            go_upto_region 22 with fail
            refine wp_qw (by kernel_rfl) ?_
            (refine qv1 16 (v := ?_) (by rfl) (by rfl) (fun ev hc hf h0 W hW => ?_) ?_; rotate_left; (focus (obtain ⟨c0, c1, c2, c3, c4, c5⟩ := HS22 W hW; first | (go_simp; done) | (go_simp; with_reducible rfl))); rotate_left; simp only [Act.put, List.setIfInBounds_toArray, List.set_cons_zero, List.set_cons_succ])
            (refine qv1 137 (v := ?_) (by rfl) (by rfl) (fun ev hc hf h0 W hW => ?_) ?_; rotate_left; (focus (obtain ⟨c0, c1, c2, c3, c4, c5⟩ := HS22 W hW; first | (go_simp; done) | (go_simp; with_reducible rfl))); rotate_left; simp only [Act.put, List.setIfInBounds_toArray, List.set_cons_zero, List.set_cons_succ])
            (refine qv1 138 (v := ?_) (by rfl) (by rfl) (fun ev hc hf h0 W hW => ?_) ?_; rotate_left; (focus (obtain ⟨c0, c1, c2, c3, c4, c5⟩ := HS22 W hW; first | (go_simp; done) | (go_simp; with_reducible rfl))); rotate_left; simp only [Act.put, List.setIfInBounds_toArray, List.set_cons_zero, List.set_cons_succ])
            first
              | (refine qskip (by rfl) ?_; simp only [Act.put, List.setIfInBounds_toArray, List.set_cons_zero, List.set_cons_succ])
              | (refine qv1 15 (v := ?_) (by rfl) (by rfl) (fun ev hc hf h0 W hW => ?_) ?_; rotate_left; (focus (obtain ⟨c0, c1, c2, c3, c4, c5⟩ := HS22 W hW; first | (go_simp; done) | (go_simp; with_reducible rfl))); rotate_left; simp only [Act.put, List.setIfInBounds_toArray, List.set_cons_zero, List.set_cons_succ])
            first
              | (refine qskip (by rfl) ?_; simp only [Act.put, List.setIfInBounds_toArray, List.set_cons_zero, List.set_cons_succ])
              | (refine qv1 140 (v := ?_) (by rfl) (by rfl) (fun ev hc hf h0 W hW => ?_) ?_; rotate_left; (focus (obtain ⟨c0, c1, c2, c3, c4, c5⟩ := HS22 W hW; first | (go_simp; done) | (go_simp; with_reducible rfl))); rotate_left; simp only [Act.put, List.setIfInBounds_toArray, List.set_cons_zero, List.set_cons_succ])
            (refine qv2 139 141 (v := ?_) (by rfl) (by rfl) (by rfl) (fun ev hc hf h0 h1 W hW => ?_) ?_; rotate_left; (focus (obtain ⟨c0, c1, c2, c3, c4, c5⟩ := HS22 W hW; first | (go_simp; done) | (go_simp; with_reducible rfl))); rotate_left; simp only [Act.put, List.setIfInBounds_toArray, List.set_cons_zero, List.set_cons_succ])
            (refine qv1 142 (v := ?_) (by rfl) (by rfl) (fun ev hc hf h0 W hW => ?_) ?_; rotate_left; (focus (obtain ⟨c0, c1, c2, c3, c4, c5⟩ := HS22 W hW; first | (go_simp; done) | (go_simp; with_reducible rfl))); rotate_left; simp only [Act.put, List.setIfInBounds_toArray, List.set_cons_zero, List.set_cons_succ])
            first
              | (refine qskip (by rfl) ?_; simp only [Act.put, List.setIfInBounds_toArray, List.set_cons_zero, List.set_cons_succ])
              | (refine qv1 15 (v := ?_) (by rfl) (by rfl) (fun ev hc hf h0 W hW => ?_) ?_; rotate_left; (focus (obtain ⟨c0, c1, c2, c3, c4, c5⟩ := HS22 W hW; first | (go_simp; done) | (go_simp; with_reducible rfl))); rotate_left; simp only [Act.put, List.setIfInBounds_toArray, List.set_cons_zero, List.set_cons_succ])
            first
              | (refine qskip (by rfl) ?_; simp only [Act.put, List.setIfInBounds_toArray, List.set_cons_zero, List.set_cons_succ])
              | (refine qc1 144 _ _ _ (by rfl) (by rfl) (fun ev hc hf h0 W hW => ?_) (fun W hW => q_calls hW (V1.out W hW)) ?_; (focus (obtain ⟨c0, c1, c2, c3, c4, c5⟩ := HS22 W hW; go_simp; done)); simp only [Act.put, List.setIfInBounds_toArray, List.set_cons_zero, List.set_cons_succ])
            first
              | (refine qskip (by rfl) ?_; simp only [Act.put, List.setIfInBounds_toArray, List.set_cons_zero, List.set_cons_succ])
              | (refine qv1 13 (v := ?_) (by rfl) (by rfl) (fun ev hc hf h0 W hW => ?_) ?_; rotate_left; (focus (obtain ⟨c0, c1, c2, c3, c4, c5⟩ := HS22 W hW; first | (go_simp; done) | (go_simp; with_reducible rfl))); rotate_left; simp only [Act.put, List.setIfInBounds_toArray, List.set_cons_zero, List.set_cons_succ])
            first
              | (refine qskip (by rfl) ?_; simp only [Act.put, List.setIfInBounds_toArray, List.set_cons_zero, List.set_cons_succ])
              | (refine qv2 145 146 (v := ?_) (by rfl) (by rfl) (by rfl) (fun ev hc hf h0 h1 W hW => ?_) ?_; rotate_left; (focus (obtain ⟨c0, c1, c2, c3, c4, c5⟩ := HS22 W hW; first | (go_simp; done) | (go_simp; with_reducible rfl))); rotate_left; simp only [Act.put, List.setIfInBounds_toArray, List.set_cons_zero, List.set_cons_succ])
            (refine qv2 143 147 (v := ?_) (by rfl) (by rfl) (by rfl) (fun ev hc hf h0 h1 W hW => ?_) ?_; rotate_left; (focus (obtain ⟨c0, c1, c2, c3, c4, c5⟩ := HS22 W hW; first | (go_simp; done) | (go_simp; with_reducible rfl))); rotate_left; simp only [Act.put, List.setIfInBounds_toArray, List.set_cons_zero, List.set_cons_succ])
            (refine qv1 148 (v := ?_) (by rfl) (by rfl) (fun ev hc hf h0 W hW => ?_) ?_; rotate_left; (focus (obtain ⟨c0, c1, c2, c3, c4, c5⟩ := HS22 W hW; first | (go_simp; done) | (go_simp; with_reducible rfl))); rotate_left; simp only [Act.put, List.setIfInBounds_toArray, List.set_cons_zero, List.set_cons_succ])
            first
              | (refine qskip (by rfl) ?_; simp only [Act.put, List.setIfInBounds_toArray, List.set_cons_zero, List.set_cons_succ])
              | (refine qv1 15 (v := ?_) (by rfl) (by rfl) (fun ev hc hf h0 W hW => ?_) ?_; rotate_left; (focus (obtain ⟨c0, c1, c2, c3, c4, c5⟩ := HS22 W hW; first | (go_simp; done) | (go_simp; with_reducible rfl))); rotate_left; simp only [Act.put, List.setIfInBounds_toArray, List.set_cons_zero, List.set_cons_succ])
            first
              | (refine qskip (by rfl) ?_; simp only [Act.put, List.setIfInBounds_toArray, List.set_cons_zero, List.set_cons_succ])
              | (refine qc1 150 _ _ _ (by rfl) (by rfl) (fun ev hc hf h0 W hW => ?_) (fun W hW => q_calls hW (V2.out W hW)) ?_; (focus (obtain ⟨c0, c1, c2, c3, c4, c5⟩ := HS22 W hW; go_simp; done)); simp only [Act.put, List.setIfInBounds_toArray, List.set_cons_zero, List.set_cons_succ])
            first
              | (refine qskip (by rfl) ?_; simp only [Act.put, List.setIfInBounds_toArray, List.set_cons_zero, List.set_cons_succ])
              | (refine qv1 14 (v := ?_) (by rfl) (by rfl) (fun ev hc hf h0 W hW => ?_) ?_; rotate_left; (focus (obtain ⟨c0, c1, c2, c3, c4, c5⟩ := HS22 W hW; first | (go_simp; done) | (go_simp; with_reducible rfl))); rotate_left; simp only [Act.put, List.setIfInBounds_toArray, List.set_cons_zero, List.set_cons_succ])
            first
              | (refine qskip (by rfl) ?_; simp only [Act.put, List.setIfInBounds_toArray, List.set_cons_zero, List.set_cons_succ])
              | (refine qv2 151 152 (v := ?_) (by rfl) (by rfl) (by rfl) (fun ev hc hf h0 h1 W hW => ?_) ?_; rotate_left; (focus (obtain ⟨c0, c1, c2, c3, c4, c5⟩ := HS22 W hW; first | (go_simp; done) | (go_simp; with_reducible rfl))); rotate_left; simp only [Act.put, List.setIfInBounds_toArray, List.set_cons_zero, List.set_cons_succ])
            (refine qv2 149 153 (v := ?_) (by rfl) (by rfl) (by rfl) (fun ev hc hf h0 h1 W hW => ?_) ?_; rotate_left; (focus (obtain ⟨c0, c1, c2, c3, c4, c5⟩ := HS22 W hW; first | (go_simp; done) | (go_simp; with_reducible rfl))); rotate_left; simp only [Act.put, List.setIfInBounds_toArray, List.set_cons_zero, List.set_cons_succ])
            refine qnil ?_
            intro w11 hW11
            go_wp2
            go_roundw
            case rel => exact ⟨k + 1, Acc.accept r n v, by omega, by go_num, KB10.out.bel hW11, HV.out, hvs, HB10.trans (Below.mono hW11 HB10.size)⟩
            case measure => simp [intOf]; omega
      · go_wp2_with (go_at_call 28; refine (works12_any _).mono ?_; rintro e w' ⟨rfl, hbw⟩)
        go_ret
        exact ⟨rfl, HB.trans (hbw.mono HB.size)⟩

theorem keepsWalk (A : Option Addr) (len cap : Nat) (l : List Stp) (w : World) (hlen : l.length = len) (hl : len ≤ 9223372036854775807) (hoks : ∀ s ∈ l, s.ok) (hx : StepsAt w A l) :
    Calls Try.prog 10 #[.slice A len cap] w fun e w' => e = .returned (.bool true) ∧ Below w.heap.size w w' := by
  subst hlen
  exact keeps_walk A cap l w hx hl hoks

end Go.Proofs.Ytlgljcfkoakogaa
