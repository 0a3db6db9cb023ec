import Derived.Test.YtlgljcfkoakogaaB2
import Derived.RegionTactic
import Derived.BigRegion
namespace Go.Proofs.Ytlgljcfkoakogaa
open Go.RowKit
set_option linter.unusedSimpArgs false
set_option linter.unusedVariables false


theorem Bk.vote {w : World} {g : Nat} {t : TypeId} {v0 v1 v2 v3 : Value} (h : Bk w g #[v0, v1, v2, v3] t) :
    w.cell? ⟨g, 0, none⟩ = some v0 ∧ w.cell? ⟨g, 1, none⟩ = some v1 ∧ w.cell? ⟨g, 2, none⟩ = some v2 ∧ w.cell? ⟨g, 3, none⟩ = some v3 ∧
    w.frozen? ⟨g, 0, none⟩ = false ∧ w.frozen? ⟨g, 1, none⟩ = false ∧ w.frozen? ⟨g, 2, none⟩ = false ∧ w.frozen? ⟨g, 3, none⟩ = false :=
  ⟨h.cell 0, h.cell 1, h.cell 2, h.cell 3, h.free 0, h.free 1, h.free 2, h.free 3⟩

/-- The vote in a block of its own. -/
def Acc.voteCells (a : Acc) : Array Value := #[.bool a.has, .int .u64 a.vr, .int .i64 a.vn, .string a.val]

set_option maxHeartbeats 1600000 in
theorem clo59 (pa pv g : Nat) (a : Acc) (v0 v1 v2 v3 : Value) (w : World) (h : Bk w g a.cells 116) (ha : Bk w pa #[.pointer (some ⟨g, 0, none⟩)] 44) (hv : Bk w pv #[v0, v1, v2, v3] 46) :
    Calls Try.prog 59 #[.pointer (some ⟨pa, 0, none⟩), .pointer (some ⟨pv, 0, none⟩)] w fun e w' => e = .returned (.tuple #[]) ∧ Bk w' pv a.voteCells 46 ∧ w.grownBy w' (some pv) := by
  obtain ⟨c0, c1, c2, c3, c4, c5⟩ := h.acc
  have d0 : w.cell? ⟨pa, 0, none⟩ = _ := ha.cell 0
  simp at d0
  obtain ⟨e0, e1, e2, e3, f0, f1, f2, f3⟩ := hv.vote
  have HV := Lib.hid hv
  clear h ha hv
  go_enter Try.func59, Try.ntmps59
  go_wp2
  go_end0
  exact ⟨rfl, (((HV.out.set 0 _).set 1 _).set 2 _).set 3 _, grown_set (grown_set (grown_set (grown_set (grown_bel (Below.refl _ _)) _ _) _ _) _ _) _ _⟩

/-- What Prepare answers: is it promised; the vote; the error; and what the acceptor is then. -/
def prep (a : Acc) (r n : Int) : Bool × Acc × Int × Acc :=
  if namedB r n = true then (if cmpB r n a.pr a.pn < 0 then (false, Acc.zero, 0, a) else (true, a, 0, a.promise r n)) else (false, Acc.zero, 2, a)
def Acc.vote (a : Acc) : Value := voteV a.has a.vr a.vn a.val
def PrepPost (g : Nat) (a : Acc) (r n : Int) (w : World) (e : Ending) (w' : World) : Prop :=
  e = .returned (.tuple #[.bool (prep a r n).1, (prep a r n).2.1.vote, .int .i64 (prep a r n).2.2.1]) ∧ Bk w' g (prep a r n).2.2.2.cells 116 ∧ w.grownBy w' (some g)
theorem PrepPost.mk {g : Nat} {a : Acc} {r n : Int} {w w' : World} {b : Bool} {v a' : Acc} {x : Int} (h : prep a r n = (b, v, x, a')) (hB : Bk w' g a'.cells 116) (hg : w.grownBy w' (some g)) :
    PrepPost g a r n w (.returned (.tuple #[.bool b, v.vote, .int .i64 x])) w' := by
  unfold PrepPost; rw [h]; exact ⟨rfl, hB, hg⟩

set_option maxHeartbeats 3200000 in
theorem prepare_any (g : Nat) (a : Acc) (r n : Int) (w : World) (h : Bk w g a.cells 116) :
    Calls Try.prog 29 #[.pointer (some ⟨g, 0, none⟩), .agg #[.int .u64 r, .int .i64 n]] w (PrepPost g a r n w) := by
  have hg := h.lt
  go_enter Try.func29, Try.ntmps29
  go_wp2_with fail
  have k0 := (((Bk.new w #[.pointer (some ⟨g, 0, none⟩)] 44).alloc (Obj.cells #[Value.int IntKind.u64 r, Value.int IntKind.i64 n] 24)).alloc (Obj.cells #[Value.bool false, Value.int IntKind.u64 0, Value.int IntKind.i64 0, Value.string { data := #[] }] 46))
  have k1 := ((Bk.new (w.alloc (Obj.cells #[Value.pointer (some { block := g, off := 0 })] 44)) #[Value.int IntKind.u64 r, Value.int IntKind.i64 n] 24).alloc (Obj.cells #[Value.bool false, Value.int IntKind.u64 0, Value.int IntKind.i64 0, Value.string { data := #[] }] 46))
  have k2 := (Bk.new ((w.alloc (Obj.cells #[Value.pointer (some { block := g, off := 0 })] 44)).alloc (Obj.cells #[Value.int IntKind.u64 r, Value.int IntKind.i64 n] 24)) #[Value.bool false, Value.int IntKind.u64 0, Value.int IntKind.i64 0, Value.string { data := #[] }] 46)
  rw [World.size_alloc] at k1 k2
  rw [World.size_alloc] at k2
  have k3 := ((h.alloc (Obj.cells #[Value.pointer (some { block := g, off := 0 })] 44)).alloc (Obj.cells #[Value.int IntKind.u64 r, Value.int IntKind.i64 n] 24)).alloc (Obj.cells #[Value.bool false, Value.int IntKind.u64 0, Value.int IntKind.i64 0, Value.string { data := #[] }] 46)
  have hb0 : Below w.heap.size w (((w.alloc (Obj.cells #[Value.pointer (some { block := g, off := 0 })] 44)).alloc (Obj.cells #[Value.int IntKind.u64 r, Value.int IntKind.i64 n] 24)).alloc (Obj.cells #[Value.bool false, Value.int IntKind.u64 0, Value.int IntKind.i64 0, Value.string { data := #[] }] 46)) :=
    (((Below.refl _ _).alloc (Nat.le_refl _) _).alloc (by simp) _).alloc (by simp; omega) _
  refine (named_any _ _ _).mono ?_; rintro e w1 ⟨rfl, hb1⟩
  replace k0 := k0.bel hb1
  replace k1 := k1.bel hb1
  replace k2 := k2.bel hb1
  replace k3 := k3.bel hb1
  have HB1 := hb0.trans (hb1.mono hb0.size)
  clear hb0 hb1 h
  have c0 : w1.cell? ⟨w.heap.size, 0, none⟩ = _ := k0.cell 0
  have c1 : w1.cell? ⟨w.heap.size + 1, 0, none⟩ = _ := k1.cell 0
  have c2 : w1.cell? ⟨w.heap.size + 1, 1, none⟩ = _ := k1.cell 1
  simp at c0 c1 c2
  obtain ⟨e0, e1, e2, e3, f0, f1, f2, f3⟩ := k2.vote
  have hgr : w.grownBy w1 (some g) := grown_bel HB1
  have z1 : w.heap.size + 1 + 1 < w1.heap.size := k2.lt
  have y0 : w.heap.size < w1.heap.size := by omega
  have y1 : w.heap.size + 1 < w1.heap.size := by omega
  cases hm : namedB r n
  · have HE := Lib.hid (show prep a r n = (false, Acc.zero, 2, a) by unfold prep; rw [hm]; rfl)
    go_wp2
    refine bodyPost_ret (v := .tuple #[.bool false, Acc.zero.vote, .int .i64 2]) (by simp [results, Try.results29, go_sem, e0, e1, e2, e3, Acc.zero, Acc.vote, voteV]) rfl (PrepPost.mk HE.out ?_ ?_)
    · exact (((k3.far (by dsimp only; omega) _).far (by dsimp only; omega) _).far (by dsimp only; omega) _).far (by dsimp only; omega) _
    · exact grown_setNew (grown_setNew (grown_setNew (grown_setNew hgr (by dsimp only; omega) _) (by dsimp only; omega) _) (by dsimp only; omega) _) (by dsimp only; omega) _
  · have kv := Bk.new w1 #[Value.bool false, Value.int IntKind.u64 0, Value.int IntKind.i64 0, Value.string { data := #[] }] 46
    have j0 := k0.alloc (Obj.cells #[Value.bool false, Value.int IntKind.u64 0, Value.int IntKind.i64 0, Value.string { data := #[] }] 46)
    have j2 := k2.alloc (Obj.cells #[Value.bool false, Value.int IntKind.u64 0, Value.int IntKind.i64 0, Value.string { data := #[] }] 46)
    have j3 := k3.alloc (Obj.cells #[Value.bool false, Value.int IntKind.u64 0, Value.int IntKind.i64 0, Value.string { data := #[] }] 46)
    have HB2 := HB1.alloc HB1.size (Obj.cells #[Value.bool false, Value.int IntKind.u64 0, Value.int IntKind.i64 0, Value.string { data := #[] }] 46)
    by_cases hlt : cmpB r n a.pr a.pn < 0
    · have HE := Lib.hid (show prep a r n = (false, Acc.zero, 0, a) by unfold prep; rw [hm, if_pos rfl, if_pos hlt])
      go_wp2_with fail
      clear e0 e1 e2 e3 f0 f1 f2 f3 c0 c1 c2
      refine (hears_no g a r n _ _ j3 hlt).mono ?_; rintro e w2 ⟨rfl, hb2⟩
      replace kv := kv.bel hb2
      replace j2 := j2.bel hb2
      replace j3 := j3.bel hb2
      replace HB2 := HB2.trans (hb2.mono HB2.size)
      have z2 := hb2.size
      rw [World.size_alloc] at z2
      clear hb2 hgr k0 k1 k2 k3 j0 HB1 hlt
      obtain ⟨e0, e1, e2, e3, f0, f1, f2, f3⟩ := kv.vote
      obtain ⟨e0', e1', e2', e3', f0', f1', f2', f3'⟩ := j2.vote
      go_wp2
      go_region
      go_wp2
      refine bodyPost_ret (v := .tuple #[.bool false, Acc.zero.vote, .int .i64 0]) (by simp [results, Try.results29, go_sem, e0', e1', e2', e3', Acc.zero, Acc.vote, voteV]) rfl (PrepPost.mk HE.out ?_ ?_)
      · exact ((((j3.far (by dsimp only; omega) _).far (by dsimp only; omega) _).far (by dsimp only; omega) _).far (by dsimp only; omega) _).drew
      · exact grown_drew (grown_setNew (grown_setNew (grown_setNew (grown_setNew (grown_bel HB2) (by dsimp only; omega) _) (by dsimp only; omega) _) (by dsimp only; omega) _) (by dsimp only; omega) _)
    · have HE := Lib.hid (show prep a r n = (true, a, 0, a.promise r n) by unfold prep; rw [hm, if_pos rfl, if_neg hlt])
      go_wp2_with fail
      clear e0 e1 e2 e3 f0 f1 f2 f3 c0 c1 c2
      refine (hears_yes59 g a r n _ _ j3 (by omega) (fun W => Bk W w1.heap.size a.voteCells 46 ∧ Bk W (w.heap.size + 1 + 1) #[Value.bool false, Value.int IntKind.u64 0, Value.int IntKind.i64 0, Value.string { data := #[] }] 46 ∧
          Bk W g (a.promise r n).cells 116 ∧ w.grownBy W (some g)) ?_).mono ?_
      · intro W hW hgW
        have hne0 : some w.heap.size ≠ some g := by intro e; injection e; omega
        have hne2 : some (w.heap.size + 1 + 1) ≠ some g := by intro e; injection e; omega
        have hnev : some w1.heap.size ≠ some g := by intro e; injection e; omega
        have hgw : w.grownBy W (some g) := grown_trans (grown_bel HB2) ⟨hgW.os, hgW.tape, hgW.output, hgW.size, hgW.block⟩
        refine (clo59 w.heap.size w1.heap.size g (a.promise r n) _ _ _ _ W hW (j0.grown hgW hne0) (kv.grown hgW hnev)).mono ?_
        rintro e W' ⟨rfl, h1, h2⟩
        refine ⟨rfl, h1, (j2.grown hgW hne2).grown h2 (by intro e; injection e; omega), hW.grown h2 (fun e => hnev e.symm), ?_⟩
        exact ⟨h2.os.trans hgw.os, h2.tape.trans hgw.tape, h2.output.trans hgw.output, Nat.le_trans hgw.size h2.size, fun k hk hne => (h2.block k (Nat.lt_of_lt_of_le hk hgw.size) (by intro e; injection e; omega)).trans (hgw.block k hk hne)⟩
      rintro e w2 ⟨rfl, kv2, l2, l3, hg2⟩
      have z2 := kv2.lt
      clear hgr k0 k1 k2 k3 j0 j2 j3 kv HB1 HB2 hlt
      obtain ⟨e0, e1, e2, e3, f0, f1, f2, f3⟩ := kv2.vote
      obtain ⟨e0', e1', e2', e3', f0', f1', f2', f3'⟩ := l2.vote
      go_wp2
      go_region
      go_wp2
      refine bodyPost_ret (v := .tuple #[.bool true, a.vote, .int .i64 0]) (by simp [results, Try.results29, go_sem, e0', e1', e2', e3', Acc.vote, voteV]) rfl (PrepPost.mk HE.out ?_ ?_)
      · exact ((((l3.far (by dsimp only; omega) _).far (by dsimp only; omega) _).far (by dsimp only; omega) _).far (by dsimp only; omega) _).drew
      · exact grown_drew (grown_setNew (grown_setNew (grown_setNew (grown_setNew hg2 (by dsimp only; omega) _) (by dsimp only; omega) _) (by dsimp only; omega) _) (by dsimp only; omega) _)

end Go.Proofs.Ytlgljcfkoakogaa
