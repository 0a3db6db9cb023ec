import Derived.Test.YtbobbekbliichaaE29
namespace Go.Proofs.Ytbobbekbliichaa
open Go.RowKit
set_option linter.unusedSimpArgs false
set_option linter.unusedVariables false


def Stp.ok2 (s : Stp) : Prop := s.ok ∧ (s.A = none → s.cap = 0) ∧ s.ps.length * 8 ≤ reachBytes
theorem weightsAll_mem {H : Type} {P : Program} {e : TypeId} : ∀ {l : List (DataW H)} {d : DataW H}, d ∈ l → ∀ n ∈ d.weights P e, n ∈ DataW.weightsAll P e l
  | d' :: r, d, hd, n, hn => by
    simp only [DataW.weightsAll, List.mem_append]
    rcases List.mem_cons.1 hd with rfl | h
    · exact .inl hn
    · exact .inr (weightsAll_mem h n hn)
theorem weights_elem {H : Type} {P : Program} {t e : TypeId} {E S : List (DataW H)} {d : DataW H} (hu : P.underlying t = some (.slice e)) (hd : d ∈ E) (n : Nat) (hn : n ∈ d.weights P e) : n ∈ (DataW.slice E S).weights P t := by
  simp only [DataW.weights, hu, List.mem_cons, List.mem_append]
  exact .inr (.inl (weightsAll_mem hd n hn))
theorem weights_struct {H : Type} {P : Program} {t : TypeId} {fs : Array Field} {parts : List (DataW H)} {j : Nat} {d : DataW H} {u : TypeId} (hu : P.underlying t = some (.struct fs)) (ht : (fs.toList.map (·.type))[j]? = some u) (hd : parts[j]? = some d) (n : Nat) (hn : n ∈ d.weights P u) : n ∈ (DataW.agg parts).weights P t := by
  simp only [DataW.weights, hu]
  exact DataW.weights_mem_each ht hd n hn
section
variable {H : Type} {enc : TypeId × Value → H} {w : World} {base : Nat} {spare : Nat → Bool} {held : Bool}
theorem trod_picks2 {fuel : Nat} {cs : List Value} {x : DataW H × List MemPlace} (h : DataW.trod enc Try.prog w base spare held fuel 33 cs = some x) (hwt : ∀ n ∈ x.1.weights Try.prog 33, n ≤ reachBytes) :
    ∃ A cap ps, cs = [.slice A ps.length cap] ∧ List.length ps ≤ 9223372036854775807 ∧ List.length ps ≤ cap ∧ cap ≤ maxLen ∧ IntsAt w A ps ∧ (A = none → cap = 0) ∧ List.length ps * 8 ≤ reachBytes := by
  rcases Go.ChangeShapes.open_ints Try.underlying33 Try.underlying3 (by kernel_rfl) h with ⟨hcs, hd0⟩ | ⟨a, l, c, zs, hcs, _, hl, hm, hz, hd0, hcell, hwz⟩
  · exact ⟨none, 0, [], hcs, by simp, by simp, by simp [maxLen], .inl rfl, fun _ => rfl, by simp⟩
  · have hz2 : l ≤ zs.length := by rw [hz]; split <;> omega
    have hlen : (zs.take l).length = l := by rw [List.length_take]; omega
    have hwz : l * 8 ≤ reachBytes := by
      have h1 := hwt (zs.length * 8) (by rw [hd0]; simp only [DataW.weights, Try.underlying33, show Try.prog.bytesOf 3 = 8 from by kernel_rfl, Go.ChangeShapes.lits, List.length_map, List.length_take, List.length_drop]; rw [show min l zs.length + (zs.length - l) = zs.length by omega]; exact List.mem_cons_self)
      have := Nat.mul_le_mul_right 8 hz2
      omega
    refine ⟨some a, c, zs.take l, by rw [hlen]; exact hcs, by rw [hlen]; unfold maxLen at hm; omega, by rw [hlen]; exact hl, hm, ?_, (fun h => nomatch h), by rw [hlen]; exact hwz⟩
    by_cases h0 : l = 0
    · left; rw [h0]; rfl
    · right
      obtain ⟨b, off, spot⟩ := a
      have hx := hcell 0 (by omega)
      have hspot : spot = none := by simpa [Addr.add] using World.cell?_spot hx
      subst hspot
      refine ⟨b, off, rfl, fun i p hp => ?_⟩
      have hi : i < l := by have := (List.getElem?_eq_some_iff.1 hp).1; omega
      have := hcell i (by omega)
      rw [Go.WideShapes.add_plain] at this
      rw [List.getElem?_take_of_lt hi] at hp
      simpa [List.getD_eq_getElem?_getD, hp] using this
set_option maxRecDepth 100000 in
theorem trod_step2 {fuel : Nat} {cs : List Value} {x : DataW H × List MemPlace} (h : DataW.trod enc Try.prog w base spare held fuel 35 cs = some x) (hwt : ∀ n ∈ x.1.weights Try.prog 35, n ≤ reachBytes) :
    ∃ s : Stp, s.ok2 ∧ cs = [.int .u8 s.act, .int .i64 s.b, .int .u8 s.c, .int .u8 s.odd, .slice s.A s.ps.length s.cap] ∧ IntsAt w s.A s.ps := by
  obtain ⟨xs, n, _, hx, hl, hlen, hf⟩ := DataW.trod_struct Try.underlying35 h
  rw [Try.cells35] at hl
  match cs, hl with
  | [c0, c1, c2, c3, c4], _ =>
    have h0 : DataW.trod enc Try.prog w base spare held n 5 (([c0, c1, c2, c3, c4].drop 0).take (Try.prog.cellsOf 5)) = xs[0]? := hf 0 _ rfl
    have h1 : DataW.trod enc Try.prog w base spare held n 3 (([c0, c1, c2, c3, c4].drop 1).take (Try.prog.cellsOf 3)) = xs[1]? := hf 1 _ rfl
    have h2 : DataW.trod enc Try.prog w base spare held n 5 (([c0, c1, c2, c3, c4].drop 2).take (Try.prog.cellsOf 5)) = xs[2]? := hf 2 _ rfl
    have h3 : DataW.trod enc Try.prog w base spare held n 5 (([c0, c1, c2, c3, c4].drop 3).take (Try.prog.cellsOf 5)) = xs[3]? := hf 3 _ rfl
    have h4 : DataW.trod enc Try.prog w base spare held n 33 (([c0, c1, c2, c3, c4].drop 4).take (Try.prog.cellsOf 33)) = xs[4]? := hf 4 _ rfl
    rw [Try.cells5] at h0 h2 h3
    rw [Try.cells3] at h1
    rw [Try.cells33] at h4
    match xs, hlen with
    | [x0, x1, x2, x3, x4], _ =>
      obtain ⟨a0, e0, _, w0⟩ := DataW.trod_int Try.underlying5 (x := x0) (by simpa using h0)
      obtain ⟨a1, e1, _, w1⟩ := DataW.trod_int Try.underlying3 (x := x1) (by simpa using h1)
      obtain ⟨a2, e2, _, w2⟩ := DataW.trod_int Try.underlying5 (x := x2) (by simpa using h2)
      obtain ⟨a3, e3, _, w3⟩ := DataW.trod_int Try.underlying5 (x := x3) (by simpa using h3)
      obtain ⟨A, cap, ps, e4, hp, hp2, hp3, hi, hA0⟩ := trod_picks2 (x := x4) (by simpa using h4) (fun n hn => hwt n (by rw [hx]; exact weights_struct Try.underlying35 (j := 4) rfl rfl n hn))
      simp at e0 e1 e2 e3 e4
      subst e0 e1 e2 e3 e4
      exact ⟨⟨a0, a1, a2, a3, A, cap, ps⟩, ⟨⟨(wf8 w0).1, (wf8 w0).2, (wf64 w1).1, (wf64 w1).2, (wf8 w2).1, (wf8 w2).2, (wf8 w3).1, (wf8 w3).2, hp, hp2, hp3⟩, hA0.1, hA0.2⟩, rfl, hi⟩
theorem open_steps2 {fuel : Nat} {cs : List Value} {x : DataW H × List MemPlace} (h : DataW.trod enc Try.prog w base spare held fuel 22 cs = some x) (hwt : ∀ n ∈ x.1.weights Try.prog 22, n ≤ reachBytes) :
    ∃ A len cap, cs = [.slice A len cap] ∧ (len = 0 ∨ ∃ E S, x.1 = .slice E S ∧ E.length = len) ∧ ∃ l : List Stp, l.length = len ∧ (∀ s ∈ l, s.ok2) ∧ StepsAt w A l := by
  rcases Go.Deep.open_slice Try.underlying22 h with ⟨rfl, _⟩ | ⟨a, len, cap, m, n, D, Pl, rfl, _, hl, hm, hmm, hx, hi⟩
  · exact ⟨none, 0, 0, rfl, .inl rfl, [], rfl, by simp, .inl rfl⟩
  · refine ⟨some a, len, cap, rfl, .inr ⟨_, _, by rw [hx], by simp⟩, ?_⟩
    have hlm : len ≤ m := by rw [hmm]; split <;> omega
    rw [Try.cells35] at hi
    obtain ⟨l, hlen, hp⟩ := list_of (p := fun i (s : Stp) => s.ok2 ∧ IntsAt w s.A s.ps ∧ ∀ j, j < 5 → w.cell? ((a.add (i * 5)).add j) = [Value.int .u8 s.act, .int .i64 s.b, .int .u8 s.c, .int .u8 s.odd, .slice s.A s.ps.length s.cap][j]?) len (fun i hil => by
      obtain ⟨cs', h1, h2⟩ := hi i (by omega)
      obtain ⟨_, _, h3⟩ := World.cells?_some h1
      obtain ⟨s, hs, rfl, hi⟩ := trod_step2 h2 (fun n hn => hwt n (by rw [hx]; exact weights_elem Try.underlying22 (List.mem_map.2 ⟨i, List.mem_range.2 hil, rfl⟩) n hn))
      exact ⟨s, hs, hi, h3⟩)
    refine ⟨l, hlen, fun s hs => ?_, ?_⟩
    · obtain ⟨i, hi', rfl⟩ := List.getElem_of_mem hs
      exact (hp i _ (List.getElem?_eq_getElem hi')).1
    · by_cases h0 : len = 0
      · exact .inl (List.eq_nil_of_length_eq_zero (by omega))
      · right
        have hx := (hp 0 _ (List.getElem?_eq_getElem (by omega))).2.2 0 (by omega)
        obtain ⟨b, off, spot⟩ := a
        have hspot : spot = none := by simpa [Addr.add] using World.cell?_spot hx
        subst hspot
        refine ⟨b, off, rfl, fun j s hj => ?_⟩
        have hc := (hp j s hj).2.2
        have e : ∀ i, i < 5 → w.cell? ⟨b, off + j * 5 + i, none⟩ = [Value.int .u8 s.act, .int .i64 s.b, .int .u8 s.c, .int .u8 s.odd, .slice s.A s.ps.length s.cap][i]? := fun i hi => by
          have := hc i hi
          rw [Go.WideShapes.add_plain, Go.WideShapes.add_plain] at this
          exact this
        exact ⟨e 0 (by omega), e 1 (by omega), e 2 (by omega), e 3 (by omega), e 4 (by omega), (hp j s hj).2.1⟩
end

/-- What more than a statement plays is. -/
def HeavyIs (bl : Int) (l : List Stp) (w : World) (e : Ending) (w' : World) : Prop :=
  ∃ b, e = .returned (.bool b) ∧ w = w' ∧ (b = false → l.length ≤ 400 ∧ (∀ s ∈ l, s.ps.length ≤ 400) ∧ (bl ≤ 64 ∨ 4096 < bl))
set_option maxRecDepth 100000 in
set_option maxHeartbeats 1600000 in
theorem heavy_any (bl : Int) (A : Option Addr) (cap : Nat) (l : List Stp) (w : World) (hx : StepsAt w A l) (hok : ∀ s ∈ l, s.ok2) (hl : l.length * 48 ≤ 140737488351232) :
    Calls Try.prog 7 #[.int .i64 bl, .slice A l.length cap] w (HeavyIs bl l w) := by
  have HX := Lib.hid (And.intro hx hok)
  clear hx hok
  go_enter Try.func7, Try.ntmps7
  go_wp2
  go_loop [5, 6] (fun c i => ∃ (k : Nat) (x : Int), k ≤ l.length ∧ i = .int .i64 k ∧ c = .int .i64 x ∧ 0 ≤ x ∧ x ≤ 1407374883553280 ∧ (l.length : Int) ≤ x ∧ ∀ j s, j < k → l[j]? = some s → (s.ps.length : Int) ≤ x) (fun _ i => l.length - (intOf i).toNat)
  case atStart => exact ⟨0, l.length, by omega, rfl, rfl, by omega, by omega, by omega, fun j s hj => by omega⟩
  case round =>
    obtain ⟨k, x, hk, rfl, rfl, hx0, hx1, hx2, hx3⟩ := hrel
    have HK := Lib.hid hx3
    clear hx3
    by_cases hlt : k < l.length
    · by_cases h3 : x ≤ 400
      · obtain ⟨s, hs⟩ : ∃ s, l[k]? = some s := ⟨_, List.getElem?_eq_getElem hlt⟩
        have hso := (HX.out.2 s (List.mem_of_getElem? hs)).1
        obtain ⟨pl, hpl⟩ : ∃ pl, s.ps.length = pl := ⟨_, rfl⟩
        have hpb : pl ≤ 140737488355328 := by rw [← hpl]; have h1 := (HX.out.2 s (List.mem_of_getElem? hs)).2.2; unfold reachBytes at h1; omega
        obtain ⟨b, o, rfl, c0, c1, c2, c3, c4, _⟩ : ∃ b o, A = some ⟨b, o, none⟩ ∧ StepAt w b (o + k * 5) s := by
          rcases HX.out.1 with h0 | ⟨b, o, e, h⟩
          · rw [h0] at hlt; simp at hlt
          · exact ⟨b, o, e, h k s hs⟩
        rw [hpl] at c4
        have HS := Lib.hid (And.intro hs hpl)
        clear hs hso hpl c0 c1 c2 c3
        go_wp2
        go_round
        case rel =>
          refine ⟨k + 1, x + pl, by omega, by go_num, by go_num, by omega, by omega, by omega, fun j s' hj hs' => ?_⟩
          by_cases e : j = k
          · subst e
            rw [HS.out.1] at hs'
            injection hs' with hs'
            subst hs'
            rw [HS.out.2]
            omega
          · have := HK.out j s' (by omega) hs'
            omega
        case measure => simp [intOf]; omega
      · go_wp2
        all_goals go_ret
        all_goals exact ⟨_, rfl, rfl, fun h => (by cases h)⟩
    · obtain rfl : k = l.length := by omega
      by_cases h3 : x ≤ 400
      · have HF := Lib.hid (show l.length ≤ 400 ∧ (∀ s ∈ l, s.ps.length ≤ 400) from ⟨by omega, fun s hs => by
          obtain ⟨i, hi, rfl⟩ := List.getElem_of_mem hs
          have := HK.out i _ hi (List.getElem?_eq_getElem hi)
          omega⟩)
        by_cases h64 : 64 < bl
        · by_cases h4 : bl ≤ 4096
          · go_wp2
            all_goals go_ret
            all_goals exact ⟨_, rfl, rfl, fun h => (by cases h)⟩
          · go_wp2
            all_goals go_ret
            all_goals exact ⟨_, rfl, rfl, fun _ => ⟨HF.out.1, HF.out.2, .inr (by omega)⟩⟩
        · go_wp2
          all_goals go_ret
          all_goals exact ⟨_, rfl, rfl, fun _ => ⟨HF.out.1, HF.out.2, .inl (by omega)⟩⟩
      · go_wp2
        all_goals go_ret
        all_goals exact ⟨_, rfl, rfl, fun h => (by cases h)⟩

end Go.Proofs.Ytbobbekbliichaa
