import Derived.Test.YtlgljcfkoakogaaB3
namespace Go.Proofs.Ytlgljcfkoakogaa
open Go.RowKit
set_option linter.unusedSimpArgs false
set_option linter.unusedVariables false


set_option maxHeartbeats 1600000 in
theorem prepare_nil (r n : Int) (w : World) : Calls Try.prog 29 #[.pointer none, .agg #[.int .u64 r, .int .i64 n]] w fun e w' => e = .returned (.tuple #[.bool false, Acc.zero.vote, .int .i64 1]) ∧ Below w.heap.size w w' := by
  go_enter Try.func29, Try.ntmps29
  go_wp2
  refine bodyPost_ret (v := .tuple #[.bool false, Acc.zero.vote, .int .i64 1]) (by simp [results, Try.results29, go_sem, Acc.zero, Acc.vote, voteV]) rfl ⟨rfl, ?_⟩
  exact ((((((((Below.refl _ _).alloc (Nat.le_refl _) _).alloc (by simp) _).alloc (by simp; omega) _)))))

set_option maxHeartbeats 1600000 in
theorem accept_nil (r n : Int) (s : ByteArray) (w : World) : Calls Try.prog 30 #[.pointer none, .agg #[.int .u64 r, .int .i64 n], .string s] w fun e w' => e = .returned (.tuple #[.bool false, .int .i64 1]) ∧ Below w.heap.size w w' := by
  go_enter Try.func30, Try.ntmps30
  go_wp2
  go_ret2
  exact ⟨rfl, (((Below.refl _ _).alloc (Nat.le_refl _) _).alloc (by simp) _).alloc (by simp; omega) _⟩

set_option maxHeartbeats 1600000 in
theorem clo60 (pb ps pa g : Nat) (a : Acc) (r n : Int) (s : ByteArray) (w : World) (h : Bk w g a.cells 116) (hb : Bk w pb #[.int .u64 r, .int .i64 n] 24) (hs : Bk w ps #[.string s] 9) (ha : Bk w pa #[.pointer (some ⟨g, 0, none⟩)] 44) :
    Calls Try.prog 60 #[.pointer (some ⟨pb, 0, none⟩), .pointer (some ⟨ps, 0, none⟩), .pointer (some ⟨pa, 0, none⟩)] w fun e w' => e = .returned (.tuple #[]) ∧ Bk w' g (Acc.mk a.pr a.pn true r n s).cells 116 ∧ w.grownBy w' (some g) := by
  obtain ⟨c0, c1, c2, c3, c4, c5⟩ := h.acc
  have f2 := h.free 2
  have f3 := h.free 3
  have f4 := h.free 4
  have f5 := h.free 5
  have d0 : w.cell? ⟨pa, 0, none⟩ = _ := ha.cell 0
  have d1 : w.cell? ⟨pb, 0, none⟩ = _ := hb.cell 0
  have d2 : w.cell? ⟨pb, 1, none⟩ = _ := hb.cell 1
  have d3 : w.cell? ⟨ps, 0, none⟩ = _ := hs.cell 0
  simp at d0 d1 d2 d3
  have HV := Lib.hid h
  clear h ha hb hs
  go_enter Try.func60, Try.ntmps60
  go_wp2
  go_end0
  exact ⟨rfl, (((HV.out.set 2 _).set 3 _).set 4 _).set 5 _, grown_set (grown_set (grown_set (grown_set (grown_bel (Below.refl _ _)) _ _) _ _) _ _) _ _⟩

/-- What Accept answers: is it accepted; the error; and what the acceptor is then. -/
def acpt (a : Acc) (r n : Int) (s : ByteArray) : Bool × Int × Acc :=
  if namedB r n = true then (if 8192 < s.size then (false, 4, a) else if cmpB r n a.pr a.pn < 0 then (false, 0, a) else (true, 0, Acc.accept r n s)) else (false, 2, a)
def AcptPost (g : Nat) (a : Acc) (r n : Int) (s : ByteArray) (w : World) (e : Ending) (w' : World) : Prop :=
  e = .returned (.tuple #[.bool (acpt a r n s).1, .int .i64 (acpt a r n s).2.1]) ∧ Bk w' g (acpt a r n s).2.2.cells 116 ∧ w.grownBy w' (some g)
theorem AcptPost.mk {g : Nat} {a : Acc} {r n : Int} {s : ByteArray} {w w' : World} {b : Bool} {a' : Acc} {x : Int} (h : acpt a r n s = (b, x, a')) (hB : Bk w' g a'.cells 116) (hg : w.grownBy w' (some g)) :
    AcptPost g a r n s w (.returned (.tuple #[.bool b, .int .i64 x])) w' := by
  unfold AcptPost; rw [h]; exact ⟨rfl, hB, hg⟩

set_option maxHeartbeats 3200000 in
theorem accept_any (g : Nat) (a : Acc) (r n : Int) (s : ByteArray) (w : World) (h : Bk w g a.cells 116) (hs63 : s.size ≤ 9223372036854775807) :
    Calls Try.prog 30 #[.pointer (some ⟨g, 0, none⟩), .agg #[.int .u64 r, .int .i64 n], .string s] w (AcptPost g a r n s w) := by
  have hg := h.lt
  go_enter Try.func30, Try.ntmps30
  go_wp2_with fail
  have k0 := ((Bk.new w #[Value.pointer (some { block := g, off := 0 })] 44).alloc (Obj.cells #[Value.int IntKind.u64 r, Value.int IntKind.i64 n] 24)).alloc (Obj.cells #[Value.string s] 9)
  have k1 := (Bk.new (w.alloc (Obj.cells #[Value.pointer (some { block := g, off := 0 })] 44)) #[Value.int IntKind.u64 r, Value.int IntKind.i64 n] 24).alloc (Obj.cells #[Value.string s] 9)
  have k2 := Bk.new ((w.alloc (Obj.cells #[Value.pointer (some { block := g, off := 0 })] 44)).alloc (Obj.cells #[Value.int IntKind.u64 r, Value.int IntKind.i64 n] 24)) #[Value.string s] 9
  rw [World.size_alloc] at k1 k2
  rw [World.size_alloc] at k2
  have k3 := ((h.alloc (Obj.cells #[Value.pointer (some { block := g, off := 0 })] 44)).alloc (Obj.cells #[Value.int IntKind.u64 r, Value.int IntKind.i64 n] 24)).alloc (Obj.cells #[Value.string s] 9)
  have hb0 : Below w.heap.size w (((w.alloc (Obj.cells #[Value.pointer (some { block := g, off := 0 })] 44)).alloc (Obj.cells #[Value.int IntKind.u64 r, Value.int IntKind.i64 n] 24)).alloc (Obj.cells #[Value.string s] 9)) := (((Below.refl _ _).alloc (Nat.le_refl _) _).alloc (by simp) _).alloc (by simp; omega) _
  refine (named_any _ _ _).mono ?_; rintro e w1 ⟨rfl, hb1⟩
  replace k0 := k0.bel hb1
  replace k1 := k1.bel hb1
  replace k2 := k2.bel hb1
  replace k3 := k3.bel hb1
  have HB1 := hb0.trans (hb1.mono hb0.size)
  clear hb0 hb1 h
  have c0 : w1.cell? ⟨w.heap.size, 0, none⟩ = _ := k0.cell 0
  have c1 : w1.cell? ⟨w.heap.size + 1, 0, none⟩ = _ := k1.cell 0
  have c2 : w1.cell? ⟨w.heap.size + 1, 1, none⟩ = _ := k1.cell 1
  have c3 : w1.cell? ⟨w.heap.size + 1 + 1, 0, none⟩ = _ := k2.cell 0
  simp at c0 c1 c2 c3
  have hgr : w.grownBy w1 (some g) := grown_bel HB1
  cases hm : namedB r n
  · have HE := Lib.hid (show acpt a r n s = (false, 2, a) by unfold acpt; rw [hm]; rfl)
    go_wp2
    go_ret2
    exact AcptPost.mk HE.out k3 hgr
  · by_cases hl : 8192 < s.size
    · have HE := Lib.hid (show acpt a r n s = (false, 4, a) by unfold acpt; rw [hm, if_pos rfl, if_pos hl])
      have hl' : (8192 : Int) < (s.size : Int) := by omega
      clear hl
      go_wp2
      go_ret2
      exact AcptPost.mk HE.out k3 hgr
    · have hl' : ¬ (8192 : Int) < (s.size : Int) := by omega
      by_cases hlt : cmpB r n a.pr a.pn < 0
      · have HE := Lib.hid (show acpt a r n s = (false, 0, a) by unfold acpt; rw [hm, if_pos rfl, if_neg hl, if_pos hlt])
        clear hl
        go_wp2_with fail
        refine (hears_no g a r n _ _ k3 hlt).mono ?_; rintro e w2 ⟨rfl, hb2⟩
        go_wp2
        go_ret2
        exact AcptPost.mk HE.out (k3.bel hb2) (grown_bel (HB1.trans (hb2.mono HB1.size)))
      · have HE := Lib.hid (show acpt a r n s = (true, 0, Acc.accept r n s) by unfold acpt; rw [hm, if_pos rfl, if_neg hl, if_neg hlt])
        clear hl
        go_wp2_with fail
        refine (hears_yes60 g a r n _ _ k3 (by omega) (fun W => Bk W g (Acc.accept r n s).cells 116 ∧ w.grownBy W (some g)) ?_).mono ?_
        · intro W hW hgW
          have hne0 : some w.heap.size ≠ some g := by intro e; injection e; omega
          have hne1 : some (w.heap.size + 1) ≠ some g := by intro e; injection e; omega
          have hne2 : some (w.heap.size + 1 + 1) ≠ some g := by intro e; injection e; omega
          refine (clo60 (w.heap.size + 1) (w.heap.size + 1 + 1) w.heap.size g (a.promise r n) r n s W hW (k1.grown hgW hne1) (k2.grown hgW hne2) (k0.grown hgW hne0)).mono ?_
          rintro e W' ⟨rfl, h1, h2⟩
          exact ⟨rfl, h1, grown_trans (grown_trans (grown_bel HB1) ⟨hgW.os, hgW.tape, hgW.output, hgW.size, hgW.block⟩) h2⟩
        rintro e w2 ⟨rfl, l3, hg2⟩
        go_wp2
        go_ret2
        exact AcptPost.mk HE.out l3 hg2

end Go.Proofs.Ytlgljcfkoakogaa
