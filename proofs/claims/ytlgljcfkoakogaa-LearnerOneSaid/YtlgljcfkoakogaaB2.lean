import Derived.Test.YtlgljcfkoakogaaB1
namespace Go.Proofs.Ytlgljcfkoakogaa
open Go.RowKit
set_option linter.unusedSimpArgs false
set_option linter.unusedVariables false


theorem Bk.acc {w : World} {g : Nat} {t : TypeId} {a : Acc} (h : Bk w g a.cells t) :
    w.cell? ⟨g, 0, none⟩ = some (.int .u64 a.pr) ∧ w.cell? ⟨g, 1, none⟩ = some (.int .i64 a.pn) ∧ w.cell? ⟨g, 2, none⟩ = some (.bool a.has) ∧ w.cell? ⟨g, 3, none⟩ = some (.int .u64 a.vr) ∧
    w.cell? ⟨g, 4, none⟩ = some (.int .i64 a.vn) ∧ w.cell? ⟨g, 5, none⟩ = some (.string a.val) :=
  ⟨h.cell 0, h.cell 1, h.cell 2, h.cell 3, h.cell 4, h.cell 5⟩

set_option maxHeartbeats 800000 in
theorem accNew_any (w : World) : Calls Try.prog 34 #[] w fun e w' => e = .returned (.pointer (some ⟨w.heap.size, 0, none⟩)) ∧ w' = w.alloc (.cells Acc.zero.cells 116) := by
  go_enter Try.func34, Try.ntmps34
  go_wp2
  go_ret
  exact ⟨rfl, rfl⟩

set_option maxHeartbeats 800000 in
theorem promised_nil (w : World) : Calls Try.prog 31 #[.pointer none] w fun e w' => e = .returned (.agg #[.int .u64 0, .int .i64 0]) ∧ Below w.heap.size w w' := by
  go_enter Try.func31, Try.ntmps31
  go_wp2
  refine bodyPost_ret (v := .agg #[.int .u64 0, .int .i64 0]) (by simp [results, Try.results31, go_sem]) rfl ⟨rfl, ?_⟩
  exact (Below.refl _ _).alloc (Nat.le_refl _) _

set_option maxHeartbeats 800000 in
theorem vote_nil (w : World) : Calls Try.prog 32 #[.pointer none] w fun e w' => e = .returned (voteV false 0 0 ⟨#[]⟩) ∧ Below w.heap.size w w' := by
  go_enter Try.func32, Try.ntmps32
  go_wp2
  refine bodyPost_ret (v := voteV false 0 0 ⟨#[]⟩) (by simp [results, Try.results32, go_sem, voteV]) rfl ⟨rfl, ?_⟩
  exact (Below.refl _ _).alloc (Nat.le_refl _) _

set_option maxHeartbeats 800000 in
theorem promised_any (g : Nat) (a : Acc) (w : World) (h : Bk w g a.cells 116) : Calls Try.prog 31 #[.pointer (some ⟨g, 0, none⟩)] w fun e w' => e = .returned (.agg #[.int .u64 a.pr, .int .i64 a.pn]) ∧ Below w.heap.size w w' := by
  obtain ⟨c0, c1, c2, c3, c4, c5⟩ := h.acc
  have hlt := h.lt
  clear h
  go_enter Try.func31, Try.ntmps31
  go_wp2
  refine bodyPost_ret (v := .agg #[.int .u64 a.pr, .int .i64 a.pn]) (by simp [results, Try.results31, go_sem]) rfl ⟨rfl, ?_⟩
  exact (Below.refl _ _).alloc (Nat.le_refl _) _

set_option maxHeartbeats 800000 in
theorem vote_any (g : Nat) (a : Acc) (w : World) (h : Bk w g a.cells 116) : Calls Try.prog 32 #[.pointer (some ⟨g, 0, none⟩)] w fun e w' => e = .returned (voteV a.has a.vr a.vn a.val) ∧ Below w.heap.size w w' := by
  obtain ⟨c0, c1, c2, c3, c4, c5⟩ := h.acc
  have hlt := h.lt
  clear h
  go_enter Try.func32, Try.ntmps32
  go_wp2
  refine bodyPost_ret (v := voteV a.has a.vr a.vn a.val) (by simp [results, Try.results32, go_sem, voteV]) rfl ⟨rfl, ?_⟩
  exact (Below.refl _ _).alloc (Nat.le_refl _) _

def Acc.promise (a : Acc) (r n : Int) : Acc := { a with pr := r, pn := n }
def Acc.accept (r n : Int) (s : ByteArray) : Acc := ⟨r, n, true, r, n, s⟩

set_option maxHeartbeats 1600000 in
theorem hears_no (g : Nat) (a : Acc) (r n : Int) (F : Value) (w : World) (h : Bk w g a.cells 116) (hlt : cmpB r n a.pr a.pn < 0) :
    Calls Try.prog 58 #[.pointer (some ⟨g, 0, none⟩), .agg #[.int .u64 r, .int .i64 n], F] w fun e w' => e = .returned (.bool false) ∧ Below w.heap.size w w' := by
  have K1 := Lib.hid (fun (W : World) => cmp_any r n a.pr a.pn W)
  have d1 : decide (cmpB r n a.pr a.pn < 0) = true := decide_eq_true hlt
  clear hlt
  go_enter Try.func58, Try.ntmps58
  go_wp2_with fail
  generalize hw0 : w.alloc (Obj.cells #[Value.int IntKind.u64 r, Value.int IntKind.i64 n] 24) = w0
  have HS : ∀ W, Bel w0 W → W.cell? ⟨g, 0, none⟩ = some (.int .u64 a.pr) ∧ W.cell? ⟨g, 1, none⟩ = some (.int .i64 a.pn) ∧ W.cell? ⟨w.heap.size, 0, none⟩ = some (.int .u64 r) ∧ W.cell? ⟨w.heap.size, 1, none⟩ = some (.int .i64 n) := by
    intro W hW
    subst hw0
    have hk := (h.alloc (Obj.cells #[Value.int IntKind.u64 r, Value.int IntKind.i64 n] 24)).bel hW
    exact ⟨hk.cell 0, hk.cell 1, hW.cell (by go_simp), hW.cell (by go_simp)⟩
  have HB0 : Below w.heap.size w w0 := by subst hw0; exact (Below.refl _ _).alloc (Nat.le_refl _) _
  clear hw0 h
  refine wp_bel (by kernel_rfl) ?_
  repeat (first
    | (refine q_skip (by rfl) ?_; simp only [Act.put, List.setIfInBounds_toArray, List.set_cons_zero, List.set_cons_succ])
    | (refine q_val (v := ?_) (by rfl) (fun W hW => ?_) ?_; rotate_left; (focus (obtain ⟨c0, c1, c2, c3⟩ := HS W hW; first | (go_simp; done) | (go_simp; with_reducible rfl))); rotate_left; simp only [Act.put, List.setIfInBounds_toArray, List.set_cons_zero, List.set_cons_succ])
    | (refine q_call _ _ _ (by rfl) (fun W hW => ?_) (fun W hW => q_calls hW (K1.out W)) ?_; (focus (obtain ⟨c0, c1, c2, c3⟩ := HS W hW; go_simp; done)); simp only [Act.put, List.setIfInBounds_toArray, List.set_cons_zero, List.set_cons_succ]))
  refine wpQuiet_nil ?_
  intro w1 hW1
  go_wp2
  go_ret
  exact ⟨rfl, HB0.trans (Below.mono hW1 HB0.size)⟩

set_option maxHeartbeats 1600000 in
theorem hears_yes59 (g : Nat) (a : Acc) (r n : Int) (caps : Array Value) (w : World) (h : Bk w g a.cells 116) (hge : ¬ cmpB r n a.pr a.pn < 0) (R : World → Prop)
    (hcl : ∀ W, Bk W g (a.promise r n).cells 116 → w.grownBy W (some g) → Calls Try.prog 59 caps W fun e w' => e = .returned (.tuple #[]) ∧ R w') :
    Calls Try.prog 58 #[.pointer (some ⟨g, 0, none⟩), .agg #[.int .u64 r, .int .i64 n], .func (.func 59) #[] caps] w fun e w' => e = .returned (.bool true) ∧ R w' := by
  have K1 := Lib.hid (fun (W : World) => cmp_any r n a.pr a.pn W)
  have d1 : decide (cmpB r n a.pr a.pn < 0) = false := decide_eq_false hge
  have HC := Lib.hid hcl
  clear hge hcl
  go_enter Try.func58, Try.ntmps58
  go_wp2_with fail
  generalize hw0 : w.alloc (Obj.cells #[Value.int IntKind.u64 r, Value.int IntKind.i64 n] 24) = w0
  have HK : Bk w0 g a.cells 116 := by subst hw0; exact h.alloc _
  have HS : ∀ W, Bel w0 W → W.cell? ⟨g, 0, none⟩ = some (.int .u64 a.pr) ∧ W.cell? ⟨g, 1, none⟩ = some (.int .i64 a.pn) ∧ W.cell? ⟨w.heap.size, 0, none⟩ = some (.int .u64 r) ∧ W.cell? ⟨w.heap.size, 1, none⟩ = some (.int .i64 n) := by
    intro W hW
    have hk := HK.bel hW
    subst hw0
    exact ⟨hk.cell 0, hk.cell 1, hW.cell (by go_simp), hW.cell (by go_simp)⟩
  have HB0 : Below w.heap.size w w0 := by subst hw0; exact (Below.refl _ _).alloc (Nat.le_refl _) _
  clear hw0
  refine wp_bel (by kernel_rfl) ?_
  repeat (first
    | (refine q_skip (by rfl) ?_; simp only [Act.put, List.setIfInBounds_toArray, List.set_cons_zero, List.set_cons_succ])
    | (refine q_val (v := ?_) (by rfl) (fun W hW => ?_) ?_; rotate_left; (focus (obtain ⟨c0, c1, c2, c3⟩ := HS W hW; first | (go_simp; done) | (go_simp; with_reducible rfl))); rotate_left; simp only [Act.put, List.setIfInBounds_toArray, List.set_cons_zero, List.set_cons_succ])
    | (refine q_call _ _ _ (by rfl) (fun W hW => ?_) (fun W hW => q_calls hW (K1.out W)) ?_; (focus (obtain ⟨c0, c1, c2, c3⟩ := HS W hW; go_simp; done)); simp only [Act.put, List.setIfInBounds_toArray, List.set_cons_zero, List.set_cons_succ]))
  refine wpQuiet_nil ?_
  intro w1 hW1
  obtain ⟨c0, c1, c2, c3⟩ := HS w1 hW1
  have hk1 := HK.bel hW1
  have f0 := hk1.free 0
  have f1 := hk1.free 1
  have HB1 : Below w.heap.size w w1 := HB0.trans (Below.mono hW1 HB0.size)
  have hg : g < w.heap.size := h.lt
  clear HS HB0 hW1 h HK
  go_wp2_with fail
  refine (HC.out _ ?_ ?_).mono ?_
  · exact (hk1.set 0 _).set 1 _
  · exact grown_set (grown_set (grown_bel HB1) _ _) _ _
  rintro e w2 ⟨rfl, hR⟩
  go_wp2
  go_ret
  exact ⟨rfl, hR⟩
set_option maxHeartbeats 1600000 in
theorem hears_yes60 (g : Nat) (a : Acc) (r n : Int) (caps : Array Value) (w : World) (h : Bk w g a.cells 116) (hge : ¬ cmpB r n a.pr a.pn < 0) (R : World → Prop)
    (hcl : ∀ W, Bk W g (a.promise r n).cells 116 → w.grownBy W (some g) → Calls Try.prog 60 caps W fun e w' => e = .returned (.tuple #[]) ∧ R w') :
    Calls Try.prog 58 #[.pointer (some ⟨g, 0, none⟩), .agg #[.int .u64 r, .int .i64 n], .func (.func 60) #[] caps] w fun e w' => e = .returned (.bool true) ∧ R w' := by
  have K1 := Lib.hid (fun (W : World) => cmp_any r n a.pr a.pn W)
  have d1 : decide (cmpB r n a.pr a.pn < 0) = false := decide_eq_false hge
  have HC := Lib.hid hcl
  clear hge hcl
  go_enter Try.func58, Try.ntmps58
  go_wp2_with fail
  generalize hw0 : w.alloc (Obj.cells #[Value.int IntKind.u64 r, Value.int IntKind.i64 n] 24) = w0
  have HK : Bk w0 g a.cells 116 := by subst hw0; exact h.alloc _
  have HS : ∀ W, Bel w0 W → W.cell? ⟨g, 0, none⟩ = some (.int .u64 a.pr) ∧ W.cell? ⟨g, 1, none⟩ = some (.int .i64 a.pn) ∧ W.cell? ⟨w.heap.size, 0, none⟩ = some (.int .u64 r) ∧ W.cell? ⟨w.heap.size, 1, none⟩ = some (.int .i64 n) := by
    intro W hW
    have hk := HK.bel hW
    subst hw0
    exact ⟨hk.cell 0, hk.cell 1, hW.cell (by go_simp), hW.cell (by go_simp)⟩
  have HB0 : Below w.heap.size w w0 := by subst hw0; exact (Below.refl _ _).alloc (Nat.le_refl _) _
  clear hw0
  refine wp_bel (by kernel_rfl) ?_
  repeat (first
    | (refine q_skip (by rfl) ?_; simp only [Act.put, List.setIfInBounds_toArray, List.set_cons_zero, List.set_cons_succ])
    | (refine q_val (v := ?_) (by rfl) (fun W hW => ?_) ?_; rotate_left; (focus (obtain ⟨c0, c1, c2, c3⟩ := HS W hW; first | (go_simp; done) | (go_simp; with_reducible rfl))); rotate_left; simp only [Act.put, List.setIfInBounds_toArray, List.set_cons_zero, List.set_cons_succ])
    | (refine q_call _ _ _ (by rfl) (fun W hW => ?_) (fun W hW => q_calls hW (K1.out W)) ?_; (focus (obtain ⟨c0, c1, c2, c3⟩ := HS W hW; go_simp; done)); simp only [Act.put, List.setIfInBounds_toArray, List.set_cons_zero, List.set_cons_succ]))
  refine wpQuiet_nil ?_
  intro w1 hW1
  obtain ⟨c0, c1, c2, c3⟩ := HS w1 hW1
  have hk1 := HK.bel hW1
  have f0 := hk1.free 0
  have f1 := hk1.free 1
  have HB1 : Below w.heap.size w w1 := HB0.trans (Below.mono hW1 HB0.size)
  have hg : g < w.heap.size := h.lt
  clear HS HB0 hW1 h HK
  go_wp2_with fail
  refine (HC.out _ ?_ ?_).mono ?_
  · exact (hk1.set 0 _).set 1 _
  · exact grown_set (grown_set (grown_bel HB1) _ _) _ _
  rintro e w2 ⟨rfl, hR⟩
  go_wp2
  go_ret
  exact ⟨rfl, hR⟩

end Go.Proofs.Ytlgljcfkoakogaa
