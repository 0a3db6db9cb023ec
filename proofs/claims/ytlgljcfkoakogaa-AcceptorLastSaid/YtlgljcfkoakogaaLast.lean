import Derived.Test.YtlgljcfkoakogaaB6
import Derived.Test.YtlgljcfkoakogaaA11
import Derived.Deep.DeepCutAuto
namespace Go.Proofs.Ytlgljcfkoakogaa
open Go.RowKit
set_option linter.unusedSimpArgs false
set_option linter.unusedVariables false


theorem prep_cases (a : Acc) (r n : Int) : prep a r n = (false, Acc.zero, 0, a) ∨ prep a r n = (false, Acc.zero, 2, a) ∨ (prep a r n = (true, a, 0, a.promise r n) ∧ aboveB a.pr a.pn r n = false) := by
  unfold prep
  split
  · split
    · exact .inl rfl
    · refine .inr (.inr ⟨rfl, ?_⟩)
      have h1 := cmpB_above a.pr a.pn r n
      have h2 := cmpB_sym r n a.pr a.pn
      exact h1.1 (by omega)
  · exact .inr (.inl rfl)
theorem acpt_cases (a : Acc) (r n : Int) (v : ByteArray) : acpt a r n v = (false, 0, a) ∨ acpt a r n v = (false, 2, a) ∨ acpt a r n v = (false, 4, a) ∨ (acpt a r n v = (true, 0, Acc.accept r n v) ∧ aboveB a.pr a.pn r n = false) := by
  unfold acpt
  split
  · split
    · exact .inr (.inr (.inl rfl))
    · split
      · exact .inl rfl
      · refine .inr (.inr (.inr ⟨rfl, ?_⟩))
        have h1 := cmpB_above a.pr a.pn r n
        have h2 := cmpB_sym r n a.pr a.pn
        exact h1.1 (by omega)
  · exact .inr (.inl rfl)

set_option maxRecDepth 100000 in
set_option maxHeartbeats 25600000 in
theorem last_walk (A : Option Addr) (cap : Nat) (l : List Stp) (w : World) (hx : StepsAt w A l) (hl : l.length ≤ 9223372036854775807) (hoks : ∀ s ∈ l, s.ok) :
    Calls Try.prog 8 #[.slice A l.length cap] w fun e w' => e = .returned (.bool true) ∧ Below w.heap.size w w' := by
  have HX := Lib.hid hx
  clear hx
  go_enter Try.func8, Try.ntmps8
  go_wp2_with fail
  refine (heavy12_any A cap l w HX.out hl).mono ?_
  rintro e w0 ⟨b, rfl, rfl⟩
  cases b
  rotate_left
  · go_wp2_with (go_at_call 28; refine (works12_any _).mono ?_; rintro e w' ⟨rfl, hbw⟩)
    go_ret
    exact ⟨rfl, hbw⟩
  · go_wp2_with fail
    refine (accNew_any _).mono ?_; rintro e w1 ⟨rfl, rfl⟩
    go_wp2_with fail
    go_loopw [6] (fun i wr => ∃ (k : Nat) (a : Acc), k ≤ l.length ∧ i = .int .i64 k ∧ Bk wr w.heap.size a.cells 116 ∧ Bk wr (w.heap.size + 1) #[.bool a.has, .int .u64 a.vr, .int .i64 a.vn, .string a.val] 46 ∧ Bk wr (w.heap.size + 1 + 1) #[.int .u64 a.pr, .int .i64 a.pn] 24 ∧ Below w.heap.size w wr) (fun i _ => l.length - (intOf i).toNat)
    case atStart =>
      have ka := ((Bk.new w Acc.zero.cells 116).alloc (Obj.cells #[Value.bool false, Value.int IntKind.u64 0, Value.int IntKind.i64 0, Value.string { data := #[] }] 46)).alloc (Obj.cells #[Value.int IntKind.u64 0, Value.int IntKind.i64 0] 24)
      have k1 := (Bk.new (w.alloc (Obj.cells Acc.zero.cells 116)) #[Value.bool false, Value.int IntKind.u64 0, Value.int IntKind.i64 0, Value.string { data := #[] }] 46).alloc (Obj.cells #[Value.int IntKind.u64 0, Value.int IntKind.i64 0] 24)
      have k2 := Bk.new ((w.alloc (Obj.cells Acc.zero.cells 116)).alloc (Obj.cells #[Value.bool false, Value.int IntKind.u64 0, Value.int IntKind.i64 0, Value.string { data := #[] }] 46)) #[Value.int IntKind.u64 0, Value.int IntKind.i64 0] 24
      rw [World.size_alloc] at k1 k2
      rw [World.size_alloc] at k2
      exact ⟨0, Acc.zero, by omega, rfl, ka, k1, k2, (((Below.refl _ _).alloc (Nat.le_refl _) _).alloc (by simp) _).alloc (by simp; omega) _⟩
    case round =>
      obtain ⟨k, a, hk, rfl, kb, kl, kt, HB⟩ := hrel
      have hz := kt.lt
      by_cases hlt : k < l.length
      · obtain ⟨⟨r, n, acc, v⟩, hs⟩ : ∃ s, l[k]? = some s := ⟨_, List.getElem?_eq_getElem hlt⟩
        have hok : Stp.ok ⟨r, n, acc, v⟩ := hoks _ (List.mem_of_getElem? hs)
        obtain ⟨b, o, rfl, c0, c1, c2, c3⟩ : ∃ b o, A = some ⟨b, o, none⟩ ∧ StepAt wr b (o + k * 4) ⟨r, n, acc, v⟩ := by
          rcases HX.out with h0 | ⟨b, o, e, h⟩
          · rw [h0] at hlt; simp at hlt
          · exact ⟨b, o, e, (h k _ hs).bel HB⟩
        clear hs
        have hv := hok.2
        dsimp only at c0 c1 c2 c3 hv
        cases acc
        · go_wp2_with fail
          clear c0 c1 c2 c3
          refine (prepare_any w.heap.size a r n _ (kb.alloc _)).mono ?_
          rintro e w1 ⟨rfl, kb1, hg1⟩
          have kl1 := (kl.alloc (.cells #[.int .u64 r, .int .i64 n, .bool false, .string v] 57)).grown hg1 (by intro e; injection e; omega)
          have kt1 := (kt.alloc (.cells #[.int .u64 r, .int .i64 n, .bool false, .string v] 57)).grown hg1 (by intro e; injection e; omega)
          have ks1 := (Bk.new wr #[.int .u64 r, .int .i64 n, .bool false, .string v] 57).grown hg1 (by intro e; injection e; omega)
          have HB1 := bel_grown (HB.alloc HB.size (.cells #[.int .u64 r, .int .i64 n, .bool false, .string v] 57)) hg1 (by have := HB.size; simp; omega) (Nat.le_refl _)
          clear hg1 kl kt kb
          have zs := ks1.lt
          have s0 : w1.cell? ⟨wr.heap.size, 0, none⟩ = _ := ks1.cell 0
          have s1 : w1.cell? ⟨wr.heap.size, 1, none⟩ = _ := ks1.cell 1
          have s3 : w1.cell? ⟨wr.heap.size, 3, none⟩ = _ := ks1.cell 3
          simp at s0 s1 s3
          have t0 : w1.cell? ⟨w.heap.size + 1 + 1, 0, none⟩ = _ := kt1.cell 0
          have t1 : w1.cell? ⟨w.heap.size + 1 + 1, 1, none⟩ = _ := kt1.cell 1
          simp at t0 t1

          rcases prep_cases a r n with h | h | ⟨h, hab⟩
          · rw [h] at kb1 ⊢
            simp only [Acc.vote, voteV, Acc.zero]
            clear h
            have kl5 := kl1.alloc (.cells #[Value.bool false, Value.int IntKind.u64 0, Value.int IntKind.i64 0, Value.string { data := #[] }] 46)
            have kt5 := kt1.alloc (.cells #[Value.bool false, Value.int IntKind.u64 0, Value.int IntKind.i64 0, Value.string { data := #[] }] 46)
            have kb5 := kb1.alloc (.cells #[Value.bool false, Value.int IntKind.u64 0, Value.int IntKind.i64 0, Value.string { data := #[] }] 46)
            have HB5 := HB1.alloc HB1.size (.cells #[Value.bool false, Value.int IntKind.u64 0, Value.int IntKind.i64 0, Value.string { data := #[] }] 46)
            clear kl1 kt1 kb1 HB1 ks1 s0 s1 s3 t0 t1
            go_upto_region 24 with fail
            generalize w1.alloc (.cells #[Value.bool false, Value.int IntKind.u64 0, Value.int IntKind.i64 0, Value.string { data := #[] }] 46) = w5 at *

            have HS : ∀ W, Bel w5 W → W.cell? ⟨w.heap.size + 1, 0, none⟩ = some (.bool a.has) ∧ W.cell? ⟨w.heap.size + 1, 1, none⟩ = some (.int .u64 a.vr) ∧ W.cell? ⟨w.heap.size + 1, 2, none⟩ = some (.int .i64 a.vn) ∧ W.cell? ⟨w.heap.size + 1, 3, none⟩ = some (.string a.val) ∧
                W.cell? ⟨w.heap.size + 1 + 1, 0, none⟩ = some (.int .u64 a.pr) ∧ W.cell? ⟨w.heap.size + 1 + 1, 1, none⟩ = some (.int .i64 a.pn) :=
              fun W hW => ⟨(kl5.bel hW).cell 0, (kl5.bel hW).cell 1, (kl5.bel hW).cell 2, (kl5.bel hW).cell 3, (kt5.bel hW).cell 0, (kt5.bel hW).cell 1⟩
            have K1 : Hid (∀ W, Bel w5 W → Calls Try.prog 31 #[.pointer (some ⟨w.heap.size, 0, none⟩)] W fun e W' => e = .returned (.agg #[.int .u64 a.pr, .int .i64 a.pn]) ∧ Below W.heap.size W W') := Lib.hid (fun W hW => promised_any w.heap.size (a) W (kb5.bel hW))
            have K2 : Hid (∀ W, Bel w5 W → Calls Try.prog 32 #[.pointer (some ⟨w.heap.size, 0, none⟩)] W fun e W' => e = .returned (.agg #[.bool a.has, .int .u64 a.vr, .int .i64 a.vn, .string a.val]) ∧ Below W.heap.size W W') := Lib.hid (fun W hW => vote_any w.heap.size (a) W (kb5.bel hW))
            have KB5 := Lib.hid kb5
            have KL5 := Lib.hid kl5
            have KT5 := Lib.hid kt5
            clear kb5 kl5 kt5
            refine wp_bel (by kernel_rfl) ?_
            repeat (first
              | (refine q_skip (by rfl) ?_; simp only [Act.put, List.setIfInBounds_toArray, List.set_cons_zero, List.set_cons_succ])
              | (refine q_val (v := ?_) (by rfl) (fun W hW => ?_) ?_; rotate_left; (focus (obtain ⟨c0, c1, c2, c3, c4, c5⟩ := HS W hW; first | (go_simp; done) | (go_simp; with_reducible rfl))); rotate_left; simp only [Act.put, List.setIfInBounds_toArray, List.set_cons_zero, List.set_cons_succ])
              | (refine q_call _ _ _ (by rfl) (fun W hW => ?_) (fun W hW => q_calls hW (K1.out W hW)) ?_; (focus (obtain ⟨c0, c1, c2, c3, c4, c5⟩ := HS W hW; go_simp; done)); simp only [Act.put, List.setIfInBounds_toArray, List.set_cons_zero, List.set_cons_succ])
              | (refine q_call _ _ _ (by rfl) (fun W hW => ?_) (fun W hW => q_calls hW (K2.out W hW)) ?_; (focus (obtain ⟨c0, c1, c2, c3, c4, c5⟩ := HS W hW; go_simp; done)); simp only [Act.put, List.setIfInBounds_toArray, List.set_cons_zero, List.set_cons_succ]))
            refine wpQuiet_nil ?_
            intro w6 hW6
            go_wp2
            go_roundw
            case rel => exact ⟨k + 1, a, by omega, by go_num, KB5.out.bel hW6, KL5.out.bel hW6, KT5.out.bel hW6, HB5.trans (Below.mono hW6 HB5.size)⟩
            case measure => simp [intOf]; omega
          · rw [h] at kb1 ⊢
            simp only [Acc.vote, voteV, Acc.zero]
            clear h
            have kl5 := kl1.alloc (.cells #[Value.bool false, Value.int IntKind.u64 0, Value.int IntKind.i64 0, Value.string { data := #[] }] 46)
            have kt5 := kt1.alloc (.cells #[Value.bool false, Value.int IntKind.u64 0, Value.int IntKind.i64 0, Value.string { data := #[] }] 46)
            have kb5 := kb1.alloc (.cells #[Value.bool false, Value.int IntKind.u64 0, Value.int IntKind.i64 0, Value.string { data := #[] }] 46)
            have HB5 := HB1.alloc HB1.size (.cells #[Value.bool false, Value.int IntKind.u64 0, Value.int IntKind.i64 0, Value.string { data := #[] }] 46)
            clear kl1 kt1 kb1 HB1 ks1 s0 s1 s3 t0 t1
            go_upto_region 24 with fail
            generalize w1.alloc (.cells #[Value.bool false, Value.int IntKind.u64 0, Value.int IntKind.i64 0, Value.string { data := #[] }] 46) = w5 at *

            have HS : ∀ W, Bel w5 W → W.cell? ⟨w.heap.size + 1, 0, none⟩ = some (.bool a.has) ∧ W.cell? ⟨w.heap.size + 1, 1, none⟩ = some (.int .u64 a.vr) ∧ W.cell? ⟨w.heap.size + 1, 2, none⟩ = some (.int .i64 a.vn) ∧ W.cell? ⟨w.heap.size + 1, 3, none⟩ = some (.string a.val) ∧
                W.cell? ⟨w.heap.size + 1 + 1, 0, none⟩ = some (.int .u64 a.pr) ∧ W.cell? ⟨w.heap.size + 1 + 1, 1, none⟩ = some (.int .i64 a.pn) :=
              fun W hW => ⟨(kl5.bel hW).cell 0, (kl5.bel hW).cell 1, (kl5.bel hW).cell 2, (kl5.bel hW).cell 3, (kt5.bel hW).cell 0, (kt5.bel hW).cell 1⟩
            have K1 : Hid (∀ W, Bel w5 W → Calls Try.prog 31 #[.pointer (some ⟨w.heap.size, 0, none⟩)] W fun e W' => e = .returned (.agg #[.int .u64 a.pr, .int .i64 a.pn]) ∧ Below W.heap.size W W') := Lib.hid (fun W hW => promised_any w.heap.size (a) W (kb5.bel hW))
            have K2 : Hid (∀ W, Bel w5 W → Calls Try.prog 32 #[.pointer (some ⟨w.heap.size, 0, none⟩)] W fun e W' => e = .returned (.agg #[.bool a.has, .int .u64 a.vr, .int .i64 a.vn, .string a.val]) ∧ Below W.heap.size W W') := Lib.hid (fun W hW => vote_any w.heap.size (a) W (kb5.bel hW))
            have KB5 := Lib.hid kb5
            have KL5 := Lib.hid kl5
            have KT5 := Lib.hid kt5
            clear kb5 kl5 kt5
            refine wp_bel (by kernel_rfl) ?_
            repeat (first
              | (refine q_skip (by rfl) ?_; simp only [Act.put, List.setIfInBounds_toArray, List.set_cons_zero, List.set_cons_succ])
              | (refine q_val (v := ?_) (by rfl) (fun W hW => ?_) ?_; rotate_left; (focus (obtain ⟨c0, c1, c2, c3, c4, c5⟩ := HS W hW; first | (go_simp; done) | (go_simp; with_reducible rfl))); rotate_left; simp only [Act.put, List.setIfInBounds_toArray, List.set_cons_zero, List.set_cons_succ])
              | (refine q_call _ _ _ (by rfl) (fun W hW => ?_) (fun W hW => q_calls hW (K1.out W hW)) ?_; (focus (obtain ⟨c0, c1, c2, c3, c4, c5⟩ := HS W hW; go_simp; done)); simp only [Act.put, List.setIfInBounds_toArray, List.set_cons_zero, List.set_cons_succ])
              | (refine q_call _ _ _ (by rfl) (fun W hW => ?_) (fun W hW => q_calls hW (K2.out W hW)) ?_; (focus (obtain ⟨c0, c1, c2, c3, c4, c5⟩ := HS W hW; go_simp; done)); simp only [Act.put, List.setIfInBounds_toArray, List.set_cons_zero, List.set_cons_succ]))
            refine wpQuiet_nil ?_
            intro w6 hW6
            go_wp2
            go_roundw
            case rel => exact ⟨k + 1, a, by omega, by go_num, KB5.out.bel hW6, KL5.out.bel hW6, KT5.out.bel hW6, HB5.trans (Below.mono hW6 HB5.size)⟩
            case measure => simp [intOf]; omega
          · rw [h] at kb1 ⊢
            simp only [Acc.vote, voteV, Acc.zero]
            clear h
            have zt := kt1.lt
            have kl2 := kl1.alloc (.cells #[.bool a.has, .int .u64 a.vr, .int .i64 a.vn, .string a.val] 46)
            have kt2 := kt1.alloc (.cells #[.bool a.has, .int .u64 a.vr, .int .i64 a.vn, .string a.val] 46)
            have kb2 := kb1.alloc (.cells #[.bool a.has, .int .u64 a.vr, .int .i64 a.vn, .string a.val] 46)
            have ks2 := ks1.alloc (.cells #[.bool a.has, .int .u64 a.vr, .int .i64 a.vn, .string a.val] 46)
            have HB2 := HB1.alloc HB1.size (.cells #[.bool a.has, .int .u64 a.vr, .int .i64 a.vn, .string a.val] 46)

            go_wp2_with fail
            refine (above_v false _ _ _ _ hab _).mono ?_
            rintro e w3 ⟨rfl, hb3⟩
            have kl3 := kl2.bel hb3
            have kt3 := kt2.bel hb3
            have kb3 := kb2.bel hb3
            have ks3 := ks2.bel hb3
            have HB3 := HB2.trans (hb3.mono HB2.size)
            clear kl1 kt1 kb1 ks1 HB1 s0 s1 s3 t0 t1 hb3 hab kl2 kt2 kb2 ks2 HB2 zs zt
            have s0 : w3.cell? ⟨wr.heap.size, 0, none⟩ = _ := ks3.cell 0
            have s1 : w3.cell? ⟨wr.heap.size, 1, none⟩ = _ := ks3.cell 1
            simp at s0 s1
            have t0 : w3.cell? ⟨w.heap.size + 1 + 1, 0, none⟩ = _ := kt3.cell 0
            have t1 : w3.cell? ⟨w.heap.size + 1 + 1, 1, none⟩ = _ := kt3.cell 1
            simp at t0 t1
            have tf0 := kt3.free 0
            have tf1 := kt3.free 1
            go_upto_region 24 with fail
            have kt5 := (kt3.set 0 (.int .u64 r)).set 1 (.int .i64 n)
            have kl5 := (kl3.far (p := ⟨w.heap.size + 1 + 1, 0, none⟩) (by dsimp only; omega) (.int .u64 r)).far (p := ⟨w.heap.size + 1 + 1, 1, none⟩) (by dsimp only; omega) (.int .i64 n)
            have kb5 := (kb3.far (p := ⟨w.heap.size + 1 + 1, 0, none⟩) (by dsimp only; omega) (.int .u64 r)).far (p := ⟨w.heap.size + 1 + 1, 1, none⟩) (by dsimp only; omega) (.int .i64 n)
            have HB5 := (HB3.setCell (p := ⟨w.heap.size + 1 + 1, 0, none⟩) (by dsimp only; omega) (.int .u64 r)).setCell (p := ⟨w.heap.size + 1 + 1, 1, none⟩) (by dsimp only; omega) (.int .i64 n)
            clear s0 s1 t0 t1 tf0 tf1 kl3 kt3 kb3 ks3 HB3
            generalize (w3.setCell ⟨w.heap.size + 1 + 1, 0, none⟩ (.int .u64 r)).setCell ⟨w.heap.size + 1 + 1, 1, none⟩ (.int .i64 n) = w5 at *

            have HS : ∀ W, Bel w5 W → W.cell? ⟨w.heap.size + 1, 0, none⟩ = some (.bool a.has) ∧ W.cell? ⟨w.heap.size + 1, 1, none⟩ = some (.int .u64 a.vr) ∧ W.cell? ⟨w.heap.size + 1, 2, none⟩ = some (.int .i64 a.vn) ∧ W.cell? ⟨w.heap.size + 1, 3, none⟩ = some (.string a.val) ∧
                W.cell? ⟨w.heap.size + 1 + 1, 0, none⟩ = some (.int .u64 r) ∧ W.cell? ⟨w.heap.size + 1 + 1, 1, none⟩ = some (.int .i64 n) :=
              fun W hW => ⟨(kl5.bel hW).cell 0, (kl5.bel hW).cell 1, (kl5.bel hW).cell 2, (kl5.bel hW).cell 3, (kt5.bel hW).cell 0, (kt5.bel hW).cell 1⟩
            have K1 : Hid (∀ W, Bel w5 W → Calls Try.prog 31 #[.pointer (some ⟨w.heap.size, 0, none⟩)] W fun e W' => e = .returned (.agg #[.int .u64 r, .int .i64 n]) ∧ Below W.heap.size W W') := Lib.hid (fun W hW => promised_any w.heap.size (a.promise r n) W (kb5.bel hW))
            have K2 : Hid (∀ W, Bel w5 W → Calls Try.prog 32 #[.pointer (some ⟨w.heap.size, 0, none⟩)] W fun e W' => e = .returned (.agg #[.bool a.has, .int .u64 a.vr, .int .i64 a.vn, .string a.val]) ∧ Below W.heap.size W W') := Lib.hid (fun W hW => vote_any w.heap.size (a.promise r n) W (kb5.bel hW))
            have KB5 := Lib.hid kb5
            have KL5 := Lib.hid kl5
            have KT5 := Lib.hid kt5
            clear kb5 kl5 kt5
            refine wp_bel (by kernel_rfl) ?_
            repeat (first
              | (refine q_skip (by rfl) ?_; simp only [Act.put, List.setIfInBounds_toArray, List.set_cons_zero, List.set_cons_succ])
              | (refine q_val (v := ?_) (by rfl) (fun W hW => ?_) ?_; rotate_left; (focus (obtain ⟨c0, c1, c2, c3, c4, c5⟩ := HS W hW; first | (go_simp; done) | (go_simp; with_reducible rfl))); rotate_left; simp only [Act.put, List.setIfInBounds_toArray, List.set_cons_zero, List.set_cons_succ])
              | (refine q_call _ _ _ (by rfl) (fun W hW => ?_) (fun W hW => q_calls hW (K1.out W hW)) ?_; (focus (obtain ⟨c0, c1, c2, c3, c4, c5⟩ := HS W hW; go_simp; done)); simp only [Act.put, List.setIfInBounds_toArray, List.set_cons_zero, List.set_cons_succ])
              | (refine q_call _ _ _ (by rfl) (fun W hW => ?_) (fun W hW => q_calls hW (K2.out W hW)) ?_; (focus (obtain ⟨c0, c1, c2, c3, c4, c5⟩ := HS W hW; go_simp; done)); simp only [Act.put, List.setIfInBounds_toArray, List.set_cons_zero, List.set_cons_succ]))
            refine wpQuiet_nil ?_
            intro w6 hW6
            go_wp2
            go_roundw
            case rel => exact ⟨k + 1, a.promise r n, by omega, by go_num, KB5.out.bel hW6, KL5.out.bel hW6, KT5.out.bel hW6, HB5.trans (Below.mono hW6 HB5.size)⟩
            case measure => simp [intOf]; omega
        · go_wp2_with fail
          clear c0 c1 c2 c3
          refine (accept_any w.heap.size a r n v _ (kb.alloc _) hv).mono ?_
          rintro e w1 ⟨rfl, kb1, hg1⟩
          have kl1 := (kl.alloc (.cells #[.int .u64 r, .int .i64 n, .bool true, .string v] 57)).grown hg1 (by intro e; injection e; omega)
          have kt1 := (kt.alloc (.cells #[.int .u64 r, .int .i64 n, .bool true, .string v] 57)).grown hg1 (by intro e; injection e; omega)
          have ks1 := (Bk.new wr #[.int .u64 r, .int .i64 n, .bool true, .string v] 57).grown hg1 (by intro e; injection e; omega)
          have HB1 := bel_grown (HB.alloc HB.size (.cells #[.int .u64 r, .int .i64 n, .bool true, .string v] 57)) hg1 (by have := HB.size; simp; omega) (Nat.le_refl _)
          clear hg1 kl kt kb
          have zs := ks1.lt
          have s0 : w1.cell? ⟨wr.heap.size, 0, none⟩ = _ := ks1.cell 0
          have s1 : w1.cell? ⟨wr.heap.size, 1, none⟩ = _ := ks1.cell 1
          have s3 : w1.cell? ⟨wr.heap.size, 3, none⟩ = _ := ks1.cell 3
          simp at s0 s1 s3
          have t0 : w1.cell? ⟨w.heap.size + 1 + 1, 0, none⟩ = _ := kt1.cell 0
          have t1 : w1.cell? ⟨w.heap.size + 1 + 1, 1, none⟩ = _ := kt1.cell 1
          simp at t0 t1

          rcases acpt_cases a r n v with h | h | h | ⟨h, hab⟩
          · rw [h] at kb1 ⊢
            clear h
            have kl5 := kl1
            have kt5 := kt1
            have kb5 := kb1
            have HB5 := HB1
            clear kl1 kt1 kb1 HB1 s0 s1 s3 t0 t1
            go_upto_region 24 with fail
            generalize w1 = w5 at *

            have HS : ∀ W, Bel w5 W → W.cell? ⟨w.heap.size + 1, 0, none⟩ = some (.bool a.has) ∧ W.cell? ⟨w.heap.size + 1, 1, none⟩ = some (.int .u64 a.vr) ∧ W.cell? ⟨w.heap.size + 1, 2, none⟩ = some (.int .i64 a.vn) ∧ W.cell? ⟨w.heap.size + 1, 3, none⟩ = some (.string a.val) ∧
                W.cell? ⟨w.heap.size + 1 + 1, 0, none⟩ = some (.int .u64 a.pr) ∧ W.cell? ⟨w.heap.size + 1 + 1, 1, none⟩ = some (.int .i64 a.pn) :=
              fun W hW => ⟨(kl5.bel hW).cell 0, (kl5.bel hW).cell 1, (kl5.bel hW).cell 2, (kl5.bel hW).cell 3, (kt5.bel hW).cell 0, (kt5.bel hW).cell 1⟩
            have K1 : Hid (∀ W, Bel w5 W → Calls Try.prog 31 #[.pointer (some ⟨w.heap.size, 0, none⟩)] W fun e W' => e = .returned (.agg #[.int .u64 a.pr, .int .i64 a.pn]) ∧ Below W.heap.size W W') := Lib.hid (fun W hW => promised_any w.heap.size (a) W (kb5.bel hW))
            have K2 : Hid (∀ W, Bel w5 W → Calls Try.prog 32 #[.pointer (some ⟨w.heap.size, 0, none⟩)] W fun e W' => e = .returned (.agg #[.bool a.has, .int .u64 a.vr, .int .i64 a.vn, .string a.val]) ∧ Below W.heap.size W W') := Lib.hid (fun W hW => vote_any w.heap.size (a) W (kb5.bel hW))
            have KB5 := Lib.hid kb5
            have KL5 := Lib.hid kl5
            have KT5 := Lib.hid kt5
            clear kb5 kl5 kt5
            refine wp_bel (by kernel_rfl) ?_
            repeat (first
              | (refine q_skip (by rfl) ?_; simp only [Act.put, List.setIfInBounds_toArray, List.set_cons_zero, List.set_cons_succ])
              | (refine q_val (v := ?_) (by rfl) (fun W hW => ?_) ?_; rotate_left; (focus (obtain ⟨c0, c1, c2, c3, c4, c5⟩ := HS W hW; first | (go_simp; done) | (go_simp; with_reducible rfl))); rotate_left; simp only [Act.put, List.setIfInBounds_toArray, List.set_cons_zero, List.set_cons_succ])
              | (refine q_call _ _ _ (by rfl) (fun W hW => ?_) (fun W hW => q_calls hW (K1.out W hW)) ?_; (focus (obtain ⟨c0, c1, c2, c3, c4, c5⟩ := HS W hW; go_simp; done)); simp only [Act.put, List.setIfInBounds_toArray, List.set_cons_zero, List.set_cons_succ])
              | (refine q_call _ _ _ (by rfl) (fun W hW => ?_) (fun W hW => q_calls hW (K2.out W hW)) ?_; (focus (obtain ⟨c0, c1, c2, c3, c4, c5⟩ := HS W hW; go_simp; done)); simp only [Act.put, List.setIfInBounds_toArray, List.set_cons_zero, List.set_cons_succ]))
            refine wpQuiet_nil ?_
            intro w6 hW6
            go_wp2
            go_roundw
            case rel => exact ⟨k + 1, a, by omega, by go_num, KB5.out.bel hW6, KL5.out.bel hW6, KT5.out.bel hW6, HB5.trans (Below.mono hW6 HB5.size)⟩
            case measure => simp [intOf]; omega
          · rw [h] at kb1 ⊢
            clear h
            have kl5 := kl1
            have kt5 := kt1
            have kb5 := kb1
            have HB5 := HB1
            clear kl1 kt1 kb1 HB1 s0 s1 s3 t0 t1
            go_upto_region 24 with fail
            generalize w1 = w5 at *

            have HS : ∀ W, Bel w5 W → W.cell? ⟨w.heap.size + 1, 0, none⟩ = some (.bool a.has) ∧ W.cell? ⟨w.heap.size + 1, 1, none⟩ = some (.int .u64 a.vr) ∧ W.cell? ⟨w.heap.size + 1, 2, none⟩ = some (.int .i64 a.vn) ∧ W.cell? ⟨w.heap.size + 1, 3, none⟩ = some (.string a.val) ∧
                W.cell? ⟨w.heap.size + 1 + 1, 0, none⟩ = some (.int .u64 a.pr) ∧ W.cell? ⟨w.heap.size + 1 + 1, 1, none⟩ = some (.int .i64 a.pn) :=
              fun W hW => ⟨(kl5.bel hW).cell 0, (kl5.bel hW).cell 1, (kl5.bel hW).cell 2, (kl5.bel hW).cell 3, (kt5.bel hW).cell 0, (kt5.bel hW).cell 1⟩
            have K1 : Hid (∀ W, Bel w5 W → Calls Try.prog 31 #[.pointer (some ⟨w.heap.size, 0, none⟩)] W fun e W' => e = .returned (.agg #[.int .u64 a.pr, .int .i64 a.pn]) ∧ Below W.heap.size W W') := Lib.hid (fun W hW => promised_any w.heap.size (a) W (kb5.bel hW))
            have K2 : Hid (∀ W, Bel w5 W → Calls Try.prog 32 #[.pointer (some ⟨w.heap.size, 0, none⟩)] W fun e W' => e = .returned (.agg #[.bool a.has, .int .u64 a.vr, .int .i64 a.vn, .string a.val]) ∧ Below W.heap.size W W') := Lib.hid (fun W hW => vote_any w.heap.size (a) W (kb5.bel hW))
            have KB5 := Lib.hid kb5
            have KL5 := Lib.hid kl5
            have KT5 := Lib.hid kt5
            clear kb5 kl5 kt5
            refine wp_bel (by kernel_rfl) ?_
            repeat (first
              | (refine q_skip (by rfl) ?_; simp only [Act.put, List.setIfInBounds_toArray, List.set_cons_zero, List.set_cons_succ])
              | (refine q_val (v := ?_) (by rfl) (fun W hW => ?_) ?_; rotate_left; (focus (obtain ⟨c0, c1, c2, c3, c4, c5⟩ := HS W hW; first | (go_simp; done) | (go_simp; with_reducible rfl))); rotate_left; simp only [Act.put, List.setIfInBounds_toArray, List.set_cons_zero, List.set_cons_succ])
              | (refine q_call _ _ _ (by rfl) (fun W hW => ?_) (fun W hW => q_calls hW (K1.out W hW)) ?_; (focus (obtain ⟨c0, c1, c2, c3, c4, c5⟩ := HS W hW; go_simp; done)); simp only [Act.put, List.setIfInBounds_toArray, List.set_cons_zero, List.set_cons_succ])
              | (refine q_call _ _ _ (by rfl) (fun W hW => ?_) (fun W hW => q_calls hW (K2.out W hW)) ?_; (focus (obtain ⟨c0, c1, c2, c3, c4, c5⟩ := HS W hW; go_simp; done)); simp only [Act.put, List.setIfInBounds_toArray, List.set_cons_zero, List.set_cons_succ]))
            refine wpQuiet_nil ?_
            intro w6 hW6
            go_wp2
            go_roundw
            case rel => exact ⟨k + 1, a, by omega, by go_num, KB5.out.bel hW6, KL5.out.bel hW6, KT5.out.bel hW6, HB5.trans (Below.mono hW6 HB5.size)⟩
            case measure => simp [intOf]; omega
          · rw [h] at kb1 ⊢
            clear h
            have kl5 := kl1
            have kt5 := kt1
            have kb5 := kb1
            have HB5 := HB1
            clear kl1 kt1 kb1 HB1 s0 s1 s3 t0 t1
            go_upto_region 24 with fail
            generalize w1 = w5 at *

            have HS : ∀ W, Bel w5 W → W.cell? ⟨w.heap.size + 1, 0, none⟩ = some (.bool a.has) ∧ W.cell? ⟨w.heap.size + 1, 1, none⟩ = some (.int .u64 a.vr) ∧ W.cell? ⟨w.heap.size + 1, 2, none⟩ = some (.int .i64 a.vn) ∧ W.cell? ⟨w.heap.size + 1, 3, none⟩ = some (.string a.val) ∧
                W.cell? ⟨w.heap.size + 1 + 1, 0, none⟩ = some (.int .u64 a.pr) ∧ W.cell? ⟨w.heap.size + 1 + 1, 1, none⟩ = some (.int .i64 a.pn) :=
              fun W hW => ⟨(kl5.bel hW).cell 0, (kl5.bel hW).cell 1, (kl5.bel hW).cell 2, (kl5.bel hW).cell 3, (kt5.bel hW).cell 0, (kt5.bel hW).cell 1⟩
            have K1 : Hid (∀ W, Bel w5 W → Calls Try.prog 31 #[.pointer (some ⟨w.heap.size, 0, none⟩)] W fun e W' => e = .returned (.agg #[.int .u64 a.pr, .int .i64 a.pn]) ∧ Below W.heap.size W W') := Lib.hid (fun W hW => promised_any w.heap.size (a) W (kb5.bel hW))
            have K2 : Hid (∀ W, Bel w5 W → Calls Try.prog 32 #[.pointer (some ⟨w.heap.size, 0, none⟩)] W fun e W' => e = .returned (.agg #[.bool a.has, .int .u64 a.vr, .int .i64 a.vn, .string a.val]) ∧ Below W.heap.size W W') := Lib.hid (fun W hW => vote_any w.heap.size (a) W (kb5.bel hW))
            have KB5 := Lib.hid kb5
            have KL5 := Lib.hid kl5
            have KT5 := Lib.hid kt5
            clear kb5 kl5 kt5
            refine wp_bel (by kernel_rfl) ?_
            repeat (first
              | (refine q_skip (by rfl) ?_; simp only [Act.put, List.setIfInBounds_toArray, List.set_cons_zero, List.set_cons_succ])
              | (refine q_val (v := ?_) (by rfl) (fun W hW => ?_) ?_; rotate_left; (focus (obtain ⟨c0, c1, c2, c3, c4, c5⟩ := HS W hW; first | (go_simp; done) | (go_simp; with_reducible rfl))); rotate_left; simp only [Act.put, List.setIfInBounds_toArray, List.set_cons_zero, List.set_cons_succ])
              | (refine q_call _ _ _ (by rfl) (fun W hW => ?_) (fun W hW => q_calls hW (K1.out W hW)) ?_; (focus (obtain ⟨c0, c1, c2, c3, c4, c5⟩ := HS W hW; go_simp; done)); simp only [Act.put, List.setIfInBounds_toArray, List.set_cons_zero, List.set_cons_succ])
              | (refine q_call _ _ _ (by rfl) (fun W hW => ?_) (fun W hW => q_calls hW (K2.out W hW)) ?_; (focus (obtain ⟨c0, c1, c2, c3, c4, c5⟩ := HS W hW; go_simp; done)); simp only [Act.put, List.setIfInBounds_toArray, List.set_cons_zero, List.set_cons_succ]))
            refine wpQuiet_nil ?_
            intro w6 hW6
            go_wp2
            go_roundw
            case rel => exact ⟨k + 1, a, by omega, by go_num, KB5.out.bel hW6, KL5.out.bel hW6, KT5.out.bel hW6, HB5.trans (Below.mono hW6 HB5.size)⟩
            case measure => simp [intOf]; omega
          · rw [h] at kb1 ⊢
            clear h
            obtain ⟨e0, e1, e2, e3, f0, f1, f2, f3⟩ := kl1.vote
            have kl2 := (((kl1.set 0 (.bool true)).set 1 (.int .u64 r)).set 2 (.int .i64 n)).set 3 (.string v)
            have kt2 := (((kt1.far (p := ⟨w.heap.size + 1, 0, none⟩) (by dsimp only; omega) (.bool true)).far (p := ⟨w.heap.size + 1, 1, none⟩) (by dsimp only; omega) (.int .u64 r)).far (p := ⟨w.heap.size + 1, 2, none⟩) (by dsimp only; omega) (.int .i64 n)).far (p := ⟨w.heap.size + 1, 3, none⟩) (by dsimp only; omega) (.string v)
            have kb2 := (((kb1.far (p := ⟨w.heap.size + 1, 0, none⟩) (by dsimp only; omega) (.bool true)).far (p := ⟨w.heap.size + 1, 1, none⟩) (by dsimp only; omega) (.int .u64 r)).far (p := ⟨w.heap.size + 1, 2, none⟩) (by dsimp only; omega) (.int .i64 n)).far (p := ⟨w.heap.size + 1, 3, none⟩) (by dsimp only; omega) (.string v)
            have ks2 := (((ks1.far (p := ⟨w.heap.size + 1, 0, none⟩) (by dsimp only; omega) (.bool true)).far (p := ⟨w.heap.size + 1, 1, none⟩) (by dsimp only; omega) (.int .u64 r)).far (p := ⟨w.heap.size + 1, 2, none⟩) (by dsimp only; omega) (.int .i64 n)).far (p := ⟨w.heap.size + 1, 3, none⟩) (by dsimp only; omega) (.string v)
            have HB2 := (((HB1.setCell (p := ⟨w.heap.size + 1, 0, none⟩) (by dsimp only; omega) (.bool true)).setCell (p := ⟨w.heap.size + 1, 1, none⟩) (by dsimp only; omega) (.int .u64 r)).setCell (p := ⟨w.heap.size + 1, 2, none⟩) (by dsimp only; omega) (.int .i64 n)).setCell (p := ⟨w.heap.size + 1, 3, none⟩) (by dsimp only; omega) (.string v)

            go_wp2_with fail
            refine (above_v false _ _ _ _ hab _).mono ?_
            rintro e w3 ⟨rfl, hb3⟩
            have kl3 := kl2.bel hb3
            have kt3 := kt2.bel hb3
            have kb3 := kb2.bel hb3
            have ks3 := ks2.bel hb3
            have HB3 := HB2.trans (hb3.mono HB2.size)
            clear kl1 kt1 kb1 ks1 HB1 s0 s1 s3 t0 t1 hb3 hab kl2 kt2 kb2 ks2 HB2 zs e0 e1 e2 e3 f0 f1 f2 f3
            have s0 : w3.cell? ⟨wr.heap.size, 0, none⟩ = _ := ks3.cell 0
            have s1 : w3.cell? ⟨wr.heap.size, 1, none⟩ = _ := ks3.cell 1
            simp at s0 s1
            have t0 : w3.cell? ⟨w.heap.size + 1 + 1, 0, none⟩ = _ := kt3.cell 0
            have t1 : w3.cell? ⟨w.heap.size + 1 + 1, 1, none⟩ = _ := kt3.cell 1
            simp at t0 t1
            have tf0 := kt3.free 0
            have tf1 := kt3.free 1
            go_upto_region 24 with fail
            have kt5 := (kt3.set 0 (.int .u64 r)).set 1 (.int .i64 n)
            have kl5 := (kl3.far (p := ⟨w.heap.size + 1 + 1, 0, none⟩) (by dsimp only; omega) (.int .u64 r)).far (p := ⟨w.heap.size + 1 + 1, 1, none⟩) (by dsimp only; omega) (.int .i64 n)
            have kb5 := (kb3.far (p := ⟨w.heap.size + 1 + 1, 0, none⟩) (by dsimp only; omega) (.int .u64 r)).far (p := ⟨w.heap.size + 1 + 1, 1, none⟩) (by dsimp only; omega) (.int .i64 n)
            have HB5 := (HB3.setCell (p := ⟨w.heap.size + 1 + 1, 0, none⟩) (by dsimp only; omega) (.int .u64 r)).setCell (p := ⟨w.heap.size + 1 + 1, 1, none⟩) (by dsimp only; omega) (.int .i64 n)
            clear s0 s1 t0 t1 tf0 tf1 kl3 kt3 kb3 ks3 HB3
            generalize (w3.setCell ⟨w.heap.size + 1 + 1, 0, none⟩ (.int .u64 r)).setCell ⟨w.heap.size + 1 + 1, 1, none⟩ (.int .i64 n) = w5 at *

            have HS : ∀ W, Bel w5 W → W.cell? ⟨w.heap.size + 1, 0, none⟩ = some (.bool true) ∧ W.cell? ⟨w.heap.size + 1, 1, none⟩ = some (.int .u64 r) ∧ W.cell? ⟨w.heap.size + 1, 2, none⟩ = some (.int .i64 n) ∧ W.cell? ⟨w.heap.size + 1, 3, none⟩ = some (.string v) ∧
                W.cell? ⟨w.heap.size + 1 + 1, 0, none⟩ = some (.int .u64 r) ∧ W.cell? ⟨w.heap.size + 1 + 1, 1, none⟩ = some (.int .i64 n) :=
              fun W hW => ⟨(kl5.bel hW).cell 0, (kl5.bel hW).cell 1, (kl5.bel hW).cell 2, (kl5.bel hW).cell 3, (kt5.bel hW).cell 0, (kt5.bel hW).cell 1⟩
            have K1 : Hid (∀ W, Bel w5 W → Calls Try.prog 31 #[.pointer (some ⟨w.heap.size, 0, none⟩)] W fun e W' => e = .returned (.agg #[.int .u64 r, .int .i64 n]) ∧ Below W.heap.size W W') := Lib.hid (fun W hW => promised_any w.heap.size (Acc.accept r n v) W (kb5.bel hW))
            have K2 : Hid (∀ W, Bel w5 W → Calls Try.prog 32 #[.pointer (some ⟨w.heap.size, 0, none⟩)] W fun e W' => e = .returned (.agg #[.bool true, .int .u64 r, .int .i64 n, .string v]) ∧ Below W.heap.size W W') := Lib.hid (fun W hW => vote_any w.heap.size (Acc.accept r n v) W (kb5.bel hW))
            have KB5 := Lib.hid kb5
            have KL5 := Lib.hid kl5
            have KT5 := Lib.hid kt5
            clear kb5 kl5 kt5
            refine wp_bel (by kernel_rfl) ?_
            repeat (first
              | (refine q_skip (by rfl) ?_; simp only [Act.put, List.setIfInBounds_toArray, List.set_cons_zero, List.set_cons_succ])
              | (refine q_val (v := ?_) (by rfl) (fun W hW => ?_) ?_; rotate_left; (focus (obtain ⟨c0, c1, c2, c3, c4, c5⟩ := HS W hW; first | (go_simp; done) | (go_simp; with_reducible rfl))); rotate_left; simp only [Act.put, List.setIfInBounds_toArray, List.set_cons_zero, List.set_cons_succ])
              | (refine q_call _ _ _ (by rfl) (fun W hW => ?_) (fun W hW => q_calls hW (K1.out W hW)) ?_; (focus (obtain ⟨c0, c1, c2, c3, c4, c5⟩ := HS W hW; go_simp; done)); simp only [Act.put, List.setIfInBounds_toArray, List.set_cons_zero, List.set_cons_succ])
              | (refine q_call _ _ _ (by rfl) (fun W hW => ?_) (fun W hW => q_calls hW (K2.out W hW)) ?_; (focus (obtain ⟨c0, c1, c2, c3, c4, c5⟩ := HS W hW; go_simp; done)); simp only [Act.put, List.setIfInBounds_toArray, List.set_cons_zero, List.set_cons_succ]))
            refine wpQuiet_nil ?_
            intro w6 hW6
            go_wp2
            go_roundw
            case rel => exact ⟨k + 1, Acc.accept r n v, by omega, by go_num, KB5.out.bel hW6, KL5.out.bel hW6, KT5.out.bel hW6, HB5.trans (Below.mono hW6 HB5.size)⟩
            case measure => simp [intOf]; omega
      · go_wp2_with (go_at_call 28; refine (works12_any _).mono ?_; rintro e w' ⟨rfl, hbw⟩)
        go_ret
        exact ⟨rfl, HB.trans (hbw.mono HB.size)⟩

theorem lastWalk (A : Option Addr) (len cap : Nat) (l : List Stp) (w : World) (hlen : l.length = len) (hl : len ≤ 9223372036854775807) (hoks : ∀ s ∈ l, s.ok) (hx : StepsAt w A l) :
    Calls Try.prog 8 #[.slice A len cap] w fun e w' => e = .returned (.bool true) ∧ Below w.heap.size w w' := by
  subst hlen
  exact last_walk A cap l w hx hl hoks

end Go.Proofs.Ytlgljcfkoakogaa
