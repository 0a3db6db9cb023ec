import Derived.Test.YtlgljcfkoakogaaP6
import Derived.OwnWalk
namespace Go.Proofs.Ytlgljcfkoakogaa
open Go.RowKit
set_option linter.unusedSimpArgs false
set_option linter.unusedVariables false


open Go.Maps Go.Shelf
def Vt.cells (c : Vt) : List Value := [.bool c.has, .int .u64 c.r, .int .i64 c.n, .string c.val]
def flat (l : List Vt) : List Value := l.flatMap Vt.cells
theorem flat_at : ∀ (l : List Vt) (j : Nat) (c : Vt) (i : Nat), l[j]? = some c → i < 4 → (flat l)[j * 4 + i]? = c.cells[i]?
  | [], j, c, i, h, _ => by simp at h
  | x :: t, 0, c, i, h, hi => by
    simp at h
    subst h
    show (x.cells ++ flat t)[0 * 4 + i]? = _
    rw [Nat.zero_mul, Nat.zero_add, List.getElem?_append_left (by show i < 4; exact hi)]
  | x :: t, j + 1, c, i, h, hi => by
    simp at h
    show (x.cells ++ flat t)[(j + 1) * 4 + i]? = _
    rw [List.getElem?_append_right (by show 4 ≤ _; omega), show (j + 1) * 4 + i - x.cells.length = j * 4 + i by show _ - 4 = _; omega]
    exact flat_at t j c i h hi
theorem flat_snoc (l : List Vt) (c : Vt) : flat (l ++ [c]) = flat l ++ c.cells := by simp [flat, List.flatMap_append]
theorem votesAt_of_own {w : World} {base : Nat} {A : Option Addr} {n cap : Nat} {l : List Vt} (hn : l.length = n) (h : w.ownsRow base 46 4 (.slice A n cap) n (flat l)) : VotesAt w A l := by
  cases l with
  | nil => exact .inl rfl
  | cons x t =>
    right
    rcases h.2 with ⟨he, h0⟩ | ⟨g, cap', cur, he, _, _, _⟩
    · subst h0; simp at hn
    · injection he with hA _ _
      subst hA
      refine ⟨g, 0, rfl, fun j c hj => ?_⟩
      have hjl : j < n := by
        rw [← hn]
        rcases Nat.lt_or_ge j (x :: t).length with h1 | h1
        · exact h1
        · rw [List.getElem?_eq_none h1] at hj; cases hj
      have e : ∀ i, i < 4 → w.cell? ⟨g, 0 + j * 4 + i, none⟩ = c.cells[i]? := fun i hi => by
        rw [Nat.zero_add, h.cellAt (j * 4 + i) (by omega)]
        exact flat_at _ j c i hj hi
      exact ⟨e 0 (by omega), e 1 (by omega), e 2 (by omega), e 3 (by omega)⟩
theorem cell_four_new (w : World) (c : Vt) : ∀ j u, c.cells[j]? = some u → (w.alloc (.cells #[.bool c.has, .int .u64 c.r, .int .i64 c.n, .string c.val] 46)).cell? ((⟨w.heap.size, 0, none⟩ : Addr).add j) = some u := by
  intro j u hj
  have hb := Bk.new w #[.bool c.has, .int .u64 c.r, .int .i64 c.n, .string c.val] 46
  rw [Go.WideShapes.add_plain]
  rw [hb.cell]
  rw [← hj, Nat.zero_add]
  simp [Vt.cells]
def votes (P : Prp) : List Vt := P.order.map fun y => (P.prom y).getD Vt.zero
def pValue (P : Prp) : ByteArray × Bool := if enB P.N P.order.length = true then (if (best (votes P)).has = true then (best (votes P)).val else P.own, true) else (⟨#[]⟩, false)
def pChosen (P : Prp) : ByteArray × Bool := if enB P.N P.aord.length = true then pValue P else (⟨#[]⟩, false)
set_option maxRecDepth 100000
set_option maxHeartbeats 3200000
theorem greatest_any (A : Option Addr) (cap : Nat) (l : List Vt) (W : World) (hl2 : l.length ≤ 1000000) (hx : VotesAt W A l) :
    Calls Try.prog 67 #[.slice A l.length cap, .func (.func 68) #[] #[]] W fun e W' => e = .returned (best l).v ∧ Below W.heap.size W W' := by
  have hb0 := (Below.refl W.heap.size W).alloc (Nat.le_refl _) (.cells #[.bool false, .int .u64 0, .int .i64 0, .string ⟨#[]⟩] 46)
  have B0 := Bk.new W #[.bool false, .int .u64 0, .int .i64 0, .string ⟨#[]⟩] 46
  by_cases h0 : l.length = 0
  · have hl : l = [] := List.eq_nil_of_length_eq_zero h0
    subst hl
    clear hx h0
    go_enter Try.func67, Try.ntmps67
    go_wp2_with fail
    have e0 := B0.cell 0
    have e1 := B0.cell 1
    have e2 := B0.cell 2
    have e3 := B0.cell 3
    simp at e0 e1 e2 e3
    exact bodyPost_ret (v := Vt.zero.v) (by simp [results, Try.results67, go_sem, e0, e1, e2, e3, Vt.v, Vt.zero]) rfl ⟨rfl, hb0⟩
  · have hz : ¬ (l.length : Int) = 0 := by omega
    have hx0 := hx.bel hb0
    clear hx
    go_enter Try.func67, Try.ntmps67
    go_wp2_with fail
    refine (maxfunc_any A cap l _ (by omega) hl2 hx0).mono ?_
    rintro e w1 ⟨rfl, hb1⟩
    have HB := hb0.trans (hb1.mono hb0.size)
    have B1 := B0.bel hb1
    obtain ⟨m, hm⟩ : ∃ m, best l = m := ⟨_, rfl⟩
    rw [hm]
    unfold Vt.v
    obtain ⟨r0, r1, r2, r3⟩ : w1.cell? ⟨W.heap.size, 0, none⟩ = some (.bool false) ∧ w1.cell? ⟨W.heap.size, 1, none⟩ = some (.int .u64 0) ∧ w1.cell? ⟨W.heap.size, 2, none⟩ = some (.int .i64 0) ∧ w1.cell? ⟨W.heap.size, 3, none⟩ = some (.string ⟨#[]⟩) := ⟨B1.cell 0, B1.cell 1, B1.cell 2, B1.cell 3⟩
    have f0 := B1.free 0
    have f1 := B1.free 1
    have f2 := B1.free 2
    have f3 := B1.free 3
    clear hb0 B0 hx0 hb1
    go_wp2_with fail
    have KR := (((B1.set 0 (.bool m.has)).set 1 (.int .u64 m.r)).set 2 (.int .i64 m.n)).set 3 (.string m.val)
    have e0 := KR.cell 0
    have e1 := KR.cell 1
    have e2 := KR.cell 2
    have e3 := KR.cell 3
    simp at e0 e1 e2 e3
    rw [hm]
    exact bodyPost_ret (v := m.v) (by simp [results, Try.results67, go_sem, e0, e1, e2, e3, Vt.v]) rfl ⟨rfl, (((HB.setCell (p := ⟨W.heap.size, 0, none⟩) (Nat.le_refl _) _).setCell (p := ⟨W.heap.size, 1, none⟩) (Nat.le_refl _) _).setCell (p := ⟨W.heap.size, 2, none⟩) (Nat.le_refl _) _).setCell (p := ⟨W.heap.size, 3, none⟩) (Nat.le_refl _) _⟩
theorem pvalue_any {W : World} {g pm am : Nat} {s : Value} {P : Prp} (h : PropAt W g pm am s P) (hnn : P.nn < 1000000) :
    Calls Try.prog 50 #[.pointer (some ⟨g, 0, none⟩)] W fun e W' => e = .returned (.tuple #[.string (pValue P).1, .bool (pValue P).2]) ∧ Below W.heap.size W W' := by
  have X := Lib.hid h
  have hole := h.ole
  have hfew := h.few
  obtain ⟨d0, d1, d2, d3, d4, d5, d6, dz⟩ := h.cells
  have hlen := fun ty => h.pr.len Try.underlying127 ty
  cases hen : enB P.N P.order.length with
  | false =>
    have HE := Lib.hid (show pValue P = (⟨#[]⟩, false) by unfold pValue; rw [if_neg (by rw [hen]; simp)])
    go_enter Try.func50, Try.ntmps50
    go_wp2_with fail
    refine (enough_any g P.N _ _ X.out.pos X.out.few d2).mono ?_
    rintro e w1 ⟨rfl, rfl⟩
    rw [hen]
    go_wp2_with fail
    rw [HE.out]
    exact bodyPost_ret (v := .tuple #[.string ⟨#[]⟩, .bool false]) (by simp [results, Try.results50, go_sem]) rfl ⟨rfl, Below.refl _ _⟩
  | true =>
    have HE := Lib.hid (show pValue P = (if (best (votes P)).has = true then (best (votes P)).val else P.own, true) by unfold pValue; rw [if_pos hen])
    obtain ⟨A, cp, rfl⟩ := own_shape h.row
    have hI := Lib.hid (intsAt_of_own (cap := cp) h.row)
    obtain ⟨i0, hi, iz0, iz1, iz2⟩ := info_parts Try.info46
    go_enter Try.func50, Try.ntmps50
    go_wp2_with fail
    refine (enough_any g P.N _ _ X.out.pos X.out.few d2).mono ?_
    rintro e w1 ⟨rfl, rfl⟩
    rw [hen]
    go_wp2_with fail
    go_loopw [4, 25] (fun z i wr => ∃ (k : Nat) (y : Value), y = z ∧ k ≤ P.order.length ∧ i = .int .i64 k ∧ wr.ownsRow W.heap.size 46 4 y k (flat ((votes P).take k)) ∧ Below W.heap.size W wr) (fun _ i _ => P.order.length + 1 - (intOf i).toNat)
    case atStart => exact ⟨0, _, rfl, Nat.zero_le _, rfl, World.ownsRow_nil _ _ _ _, Below.refl _ _⟩
    case round =>
      obtain ⟨k, y, rfl, hk, rfl, hrow, HB⟩ := hrel
      have XB := Lib.hid (X.out.keep HB)
      clear d0 d1 d2 d3 d4 d5 d6 dz hlen h
      obtain ⟨d0, d1, d2, d3, d4, d5, d6, dz⟩ := XB.out.cells
      have hki : (k : Int) ≤ (P.order.length : Int) := by omega
      by_cases hlt : k < P.order.length
      · have hne : (k : Int) < (P.order.length : Int) := by omega
        obtain ⟨b, o, rfl, hc⟩ : ∃ b o, A = some ⟨b, o, none⟩ ∧ W.cell? ⟨b, o + k, none⟩ = some (.int .i64 (P.order.getD k 0)) := by
          rcases hI.out with h0 | ⟨b, o, e, h⟩
          · rw [h0] at hlt; simp at hlt
          · exact ⟨b, o, e, h k hlt⟩
        have hcx := Bel.cell HB hc
        have hmem : P.order.getD k 0 ∈ P.order := by rw [List.getD_eq_getElem?_getD, List.getElem?_eq_getElem hlt]; exact List.getElem_mem hlt
        have hvk : (votes P)[k]? = some ((P.prom (P.order.getD k 0)).getD Vt.zero) := by
          unfold votes
          rw [List.getElem?_map, List.getElem?_eq_getElem hlt, List.getD_eq_getElem?_getD, List.getElem?_eq_getElem hlt]
          rfl
        have hky := X.out.keys _ hmem
        generalize P.order.getD k 0 = x at hc hcx hmem hvk hky
        have hget := XB.out.pr.get Try.underlying127 Vt.inj zero46 (wf_small hky.1 (by omega))
        obtain ⟨c, hcc⟩ : ∃ c, (P.prom x).getD Vt.zero = c := ⟨_, rfl⟩
        rw [hcc] at hget hvk
        have hft := flat_snoc ((votes P).take k) c
        have htk : (votes P).take (k + 1) = (votes P).take k ++ [c] := by rw [List.take_add_one, hvk]; rfl
        rw [← htk] at hft
        have HFT := Lib.hid hft
        clear hft htk hvk hmem hc hcc
        unfold Vt.v at hget
        have hsz := HB.size
        go_wp2_with (at_builtin; refine wpList_append_own _ rfl _ _ 78 rfl W.heap.size 46 i0 _ 4 40 Try.underlying78 hi iz0 iz1 iz2 rfl (by decide) y k _ rfl (hrow.alloc _) ⟨wr.heap.size, 0, none⟩ 1 1 c.cells rfl rfl (cell_four_new _ _) (by simp [Vt.cells, Value.oneCell']) (by unfold maxLen; omega) (by omega) (by simp; omega) ?_; intro s2 w6 hown' hgrow _)
        have HB6 := (HB.alloc HB.size (.cells #[.bool c.has, .int .u64 c.r, .int .i64 c.n, .string c.val] 46)).grown hgrow (by simp; omega) (fun j e => (hrow.lt j e).1)
        go_roundw
        case rel => exact ⟨k + 1, _, rfl, by omega, by go_num, by rw [HFT.out]; exact hown', HB6⟩
        case measure => simp [intOf]; omega
      · obtain rfl : k = P.order.length := by omega
        have hvl : (votes P).length = P.order.length := by unfold votes; rw [List.length_map]
        rw [List.take_of_length_le (by omega)] at hrow
        obtain ⟨A2, cp2, rfl⟩ := own_shape hrow
        have hVA := votesAt_of_own hvl hrow
        have hgre := greatest_any A2 cp2 (votes P) wr (by omega) hVA
        rw [hvl] at hgre
        have HG := Lib.hid hgre
        clear hgre hVA hrow
        go_wp2_with fail
        refine HG.out.mono ?_
        rintro e w7 ⟨rfl, hb7⟩
        have HB7 := HB.trans (hb7.mono HB.size)
        have X7 := XB.out.keep hb7
        obtain ⟨c, hcc⟩ : ∃ c, best (votes P) = c := ⟨_, rfl⟩
        rw [hcc]
        unfold Vt.v
        clear d0 d1 d2 d3 d4 d5 d6 dz HG hb7
        have e0 := Bel.cell ((Below.refl w7.heap.size w7).alloc (Nat.le_refl _) (.cells #[.bool c.has, .int .u64 c.r, .int .i64 c.n, .string c.val] 46)) X7.cells.2.2.2.1
        cases hh : c.has with
        | true =>
          rw [hh] at e0
          go_wp2_with fail
          rw [HE.out, hcc, if_pos hh]
          exact bodyPost_ret (v := .tuple #[.string c.val, .bool true]) (by simp [results, Try.results50, go_sem]) rfl ⟨rfl, HB7.alloc HB7.size _⟩
        | false =>
          rw [hh] at e0
          go_wp2_with fail
          rw [HE.out, hcc, if_neg (by rw [hh]; simp)]
          exact bodyPost_ret (v := .tuple #[.string P.own, .bool true]) (by simp [results, Try.results50, go_sem]) rfl ⟨rfl, HB7.alloc HB7.size _⟩
theorem pchosen_any {W : World} {g pm am : Nat} {s : Value} {P : Prp} (h : PropAt W g pm am s P) (hnn : P.nn < 1000000) :
    Calls Try.prog 51 #[.pointer (some ⟨g, 0, none⟩)] W fun e W' => e = .returned (.tuple #[.string (pChosen P).1, .bool (pChosen P).2]) ∧ Below W.heap.size W W' := by
  have X := Lib.hid h
  obtain ⟨d0, d1, d2, d3, d4, d5, d6, dz⟩ := h.cells
  have hlen := fun ty => h.ac.len Try.underlying128 ty
  cases hen : enB P.N P.aord.length with
  | false =>
    have HE := Lib.hid (show pChosen P = (⟨#[]⟩, false) by unfold pChosen; rw [if_neg (by rw [hen]; simp)])
    clear h
    go_enter Try.func51, Try.ntmps51
    go_wp2_with fail
    refine (enough_any g P.N _ _ X.out.pos X.out.few d2).mono ?_
    rintro e w1 ⟨rfl, rfl⟩
    rw [hen]
    go_wp2_with fail
    rw [HE.out]
    exact bodyPost_ret (v := .tuple #[.string ⟨#[]⟩, .bool false]) (by simp [results, Try.results51, go_sem]) rfl ⟨rfl, Below.refl _ _⟩
  | true =>
    have HE := Lib.hid (show pChosen P = pValue P by unfold pChosen; rw [if_pos hen])
    clear h
    go_enter Try.func51, Try.ntmps51
    go_wp2_with fail
    refine (enough_any g P.N _ _ X.out.pos X.out.few d2).mono ?_
    rintro e w1 ⟨rfl, rfl⟩
    rw [hen]
    go_wp2_with fail
    refine (pvalue_any X.out hnn).mono ?_
    rintro e w2 ⟨rfl, hb⟩
    go_wp2_with fail
    rw [HE.out]
    exact bodyPost_ret (v := .tuple #[.string (pValue P).1, .bool (pValue P).2]) (by simp [results, Try.results51, go_sem]) rfl ⟨rfl, hb⟩
theorem pnew_good (r n : Int) (N : Nat) (v : ByteArray) (W : World) (hn : namedB r n = true) (h1 : 1 ≤ N) (h7 : N ≤ 7) (hl : (v.size : Int) ≤ 8192) :
    Calls Try.prog 54 #[.agg #[.int .u64 r, .int .i64 n], .int .i64 N, .string v] W fun e W' => ∃ g pm am, e = .returned (.tuple #[.pointer (some ⟨g, 0, none⟩), .int .i64 0]) ∧ PropAt W' g pm am (.slice none 0 0) (prpNew r n N v) ∧ W.heap.size ≤ g ∧ W.heap.size ≤ pm ∧ W.heap.size ≤ am ∧ Below W.heap.size W W' := by
  obtain ⟨hm, hz0⟩ := named_split hn
  have hq := eq_zero hz0
  have hb0 := (Below.refl W.heap.size W).alloc (Nat.le_refl _) (.cells #[.int .u64 r, .int .i64 n] 24)
  have B0 := Bk.new W #[.int .u64 r, .int .i64 n] 24
  have g1 : ¬ (N : Int) < 1 := by omega
  have g7 : ¬ (7 : Int) < (N : Int) := by omega
  have hl' : ¬ (8192 : Int) < (v.size : Int) := by omega
  have hmm := @run_makeMap Try.prog
  go_enter Try.func54, Try.ntmps54
  go_wp2_with fail
  refine (may_any r n _).mono ?_
  rintro e w1 ⟨rfl, hb1⟩
  rw [hm]
  have B1 := B0.bel hb1
  have HB := hb0.trans (hb1.mono hb0.size)
  obtain ⟨y0, y1⟩ : w1.cell? ⟨W.heap.size, 0, none⟩ = some (.int .u64 r) ∧ w1.cell? ⟨W.heap.size, 1, none⟩ = some (.int .i64 n) := ⟨B1.cell 0, B1.cell 1⟩
  clear hb0 hb1 B0
  go_wp2_with fail
  have s0 : W.heap.size < w1.heap.size := B1.lt
  have s1 : (w1.alloc (.map #[] 0)).heap.size = w1.heap.size + 1 := World.size_alloc _ _
  have s2 : ((w1.alloc (.map #[] 0)).alloc (.map #[] 0)).heap.size = w1.heap.size + 1 + 1 := by rw [World.size_alloc, s1]
  refine bodyPost_ret (v := .tuple #[.pointer (some ⟨w1.heap.size + 1 + 1, 0, none⟩), .int .i64 0]) (by simp [results, Try.results54, go_sem]) rfl ⟨_, w1.heap.size, w1.heap.size + 1, rfl,
    ⟨?_, World.ownsRow_nil _ _ _ _, ?_, ?_, by omega, by omega, by omega, h1, h7, ?_, ?_, List.nodup_nil, ?_, ?_, List.nodup_nil, ?_, Nat.le_refl _, Nat.le_refl _⟩, by omega, by omega, by omega, ((HB.alloc HB.size _).alloc (by rw [s1]; omega) _).alloc (by rw [s2]; omega) _⟩
  · have := Bk.new ((w1.alloc (.map #[] 0)).alloc (.map #[] 0)) #[.int .u64 r, .int .i64 n, .int .i64 (N : Int), .string v, .map (some w1.heap.size), .slice none 0 0, .map (some (w1.heap.size + 1))] 130
    rw [s2] at this
    exact this
  · exact (MapIs.made w1).kept ((Below.heap_alloc _ _ _ (by rw [s2]; omega)).trans (Below.heap_alloc _ _ _ (by rw [s1]; omega)))
  · have := MapIs.made (mk := i64V) (w1.alloc (.map #[] 0))
    rw [s1] at this
    exact this.kept (Below.heap_alloc _ _ _ (by rw [s2]; omega))
  · intro y hy
    cases hy
  · intro y
    constructor
    · intro hy; cases hy
    · intro hy; cases hy
  · intro y hy
    cases hy
  · intro y
    constructor
    · intro hy; cases hy
    · intro hy; cases hy
  · intro y c hy
    cases hy

end Go.Proofs.Ytlgljcfkoakogaa
