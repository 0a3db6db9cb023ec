import Derived.Test.YtlgljcfkoakogaaP7
import Derived.Test.YtlgljcfkoakogaaMeet
namespace Go.Proofs.Ytlgljcfkoakogaa
open Go.RowKit
set_option linter.unusedSimpArgs false
set_option linter.unusedVariables false


/-- How many of xs are below m: a list without doubles. -/
theorem cnt_cons {x : Int} {t : List Int} (hx : x ∉ t) : ∀ m : Nat, cnt (x :: t) m = cnt t m + (if 0 ≤ x ∧ x < m then 1 else 0)
  | 0 => by simp [cnt]
  | m + 1 => by
    simp only [cnt]
    rw [cnt_cons hx m]
    by_cases e : (m : Int) = x
    · subst e
      rw [if_pos (List.mem_cons_self), if_neg hx, if_neg (by omega), if_pos (by omega)]
      try omega
    · have h1 : ((m : Int) ∈ x :: t) ↔ (m : Int) ∈ t := by simp [e]
      by_cases ht : (m : Int) ∈ t
      · rw [if_pos (h1.2 ht), if_pos ht]
        by_cases hh : 0 ≤ x ∧ x < m
        · rw [if_pos hh, if_pos (by omega)]; try omega
        · rw [if_neg hh, if_neg (by omega)]; try omega
      · rw [if_neg (fun h => ht (h1.1 h)), if_neg ht]
        by_cases hh : 0 ≤ x ∧ x < m
        · rw [if_pos hh, if_pos (by omega)]; try omega
        · rw [if_neg hh, if_neg (by omega)]; try omega
theorem cnt_nodup {N : Nat} : ∀ {l : List Int}, l.Nodup → (∀ y ∈ l, 0 ≤ y ∧ y < N) → cnt l N = (l.length : Int)
  | [], _, _ => by
    have : ∀ m, cnt [] m = 0 := by intro m; induction m with
      | zero => rfl
      | succ m ih => simp [cnt, ih]
    simp [this]
  | x :: t, hn, hr => by
    rw [List.nodup_cons] at hn
    rw [cnt_cons hn.1, cnt_nodup hn.2 (fun y hy => hr y (List.mem_cons_of_mem _ hy)), if_pos (hr x List.mem_cons_self)]
    simp
/-- Two majorities meet. -/
theorem majors_meet {N : Nat} {a b : List Int} (ha : a.Nodup) (hb : b.Nodup) (ra : ∀ y ∈ a, 0 ≤ y ∧ y < N) (rb : ∀ y ∈ b, 0 ≤ y ∧ y < N) (la : enB N a.length = true) (lb : enB N b.length = true) : ∃ y, y ∈ a ∧ y ∈ b := by
  by_cases h : ∀ x ∈ a, x ∉ b
  · exfalso
    have h1 := cnt_disjoint a b h N
    rw [cnt_nodup ha ra, cnt_nodup hb rb] at h1
    have h2 := of_decide_eq_true la
    have h3 := of_decide_eq_true lb
    omega
  · obtain ⟨x, h⟩ := Classical.not_forall.1 h
    obtain ⟨hx, hy⟩ := Classical.not_imp.1 h
    exact ⟨x, hx, Decidable.not_not.1 hy⟩
theorem cmp_le {r n r' n' : Int} (h : cmpB r n r' n' ≤ 0) : r ≤ r' := by
  rcases cmpB_vals r n r' n' with ⟨_, h1⟩ | ⟨_, h1⟩ | ⟨h0, _⟩ <;> omega
theorem cmp_refl (r n : Int) : cmpB r n r n ≤ 0 := by
  have := cmpB_sym r n r n
  omega
theorem foldl_best : ∀ (t : List Vt) (m : Vt), (t.foldl better m = m ∨ t.foldl better m ∈ t) ∧ cmpB m.r m.n (t.foldl better m).r (t.foldl better m).n ≤ 0 ∧ ∀ x ∈ t, cmpB x.r x.n (t.foldl better m).r (t.foldl better m).n ≤ 0
  | [], m => ⟨.inl rfl, cmp_refl _ _, by simp⟩
  | y :: t, m => by
    obtain ⟨h1, h2, h3⟩ := foldl_best t (better m y)
    have hm : cmpB m.r m.n (better m y).r (better m y).n ≤ 0 ∧ cmpB y.r y.n (better m y).r (better m y).n ≤ 0 := by
      unfold better
      split
      · rename_i h
        have := cmpB_sym y.r y.n m.r m.n
        exact ⟨by omega, cmp_refl _ _⟩
      · exact ⟨cmp_refl _ _, by omega⟩
    refine ⟨?_, cmpB_trans _ _ _ _ _ _ hm.1 h2, fun x hx => ?_⟩
    · show t.foldl better (better m y) = m ∨ t.foldl better (better m y) ∈ y :: t
      rcases h1 with h1 | h1
      · have hb : better m y = y ∨ better m y = m := by
          unfold better
          split
          · exact .inl rfl
          · exact .inr rfl
        rw [h1]
        rcases hb with e | e
        · rw [e]; exact .inr List.mem_cons_self
        · exact .inl e
      · exact .inr (List.mem_cons_of_mem _ h1)
    · rcases List.mem_cons.1 hx with rfl | hx
      · exact cmpB_trans _ _ _ _ _ _ hm.2 h2
      · exact h3 x hx
theorem best_mem {l : List Vt} (h : l ≠ []) : best l ∈ l := by
  cases l with
  | nil => exact absurd rfl h
  | cons x t =>
    rcases (foldl_best t x).1 with h1 | h1
    · show t.foldl better x ∈ _
      rw [h1]
      exact List.mem_cons_self
    · exact List.mem_cons_of_mem _ h1
theorem best_max {l : List Vt} {x : Vt} (hx : x ∈ l) : cmpB x.r x.n (best l).r (best l).n ≤ 0 := by
  cases l with
  | nil => cases hx
  | cons y t =>
    rcases List.mem_cons.1 hx with rfl | hx
    · exact (foldl_best t x).2.1
    · exact (foldl_best t y).2.2 x hx
/-- An acceptor's vote. -/
def vtOf (a : Acc) : Vt := ⟨a.has, a.vr, a.vn, a.val⟩
/-- What holds of the acceptors once proposals up to round R were made. -/
structure Good (N : Nat) (R : Int) (ac : Nat → Acc) (ch : ByteArray) (has : Bool) : Prop where
  pr : ∀ j, j < N → 0 ≤ (ac j).pr ∧ (ac j).pr ≤ R
  no : ∀ j, j < N → (ac j).has = false → (ac j).vr = 0 ∧ (ac j).vn = 0 ∧ (ac j).val = ⟨#[]⟩
  vote : ∀ j, j < N → (ac j).has = true → namedB (ac j).vr (ac j).vn = true ∧ 1 ≤ (ac j).vr ∧ (ac j).vr ≤ R ∧ ((ac j).val.size : Int) ≤ 8192
  chosen : has = true → ∃ c : Int, (∀ j, j < N → (ac j).has = true → c ≤ (ac j).vr → (ac j).val = ch) ∧
    ∃ l : List Int, l.Nodup ∧ (∀ y ∈ l, (0 ≤ y ∧ y < N) ∧ (ac y.toNat).has = true ∧ c ≤ (ac y.toNat).vr) ∧ enB N l.length = true
theorem good_start (N : Nat) : Good N 0 (fun _ => Acc.zero) ⟨#[]⟩ false :=
  ⟨fun _ _ => ⟨Int.le_refl _, Int.le_refl _⟩, fun _ _ _ => ⟨rfl, rfl, rfl⟩, fun _ _ h => (by cases h), fun h => by cases h⟩
theorem Good.up {N : Nat} {R R' : Int} {ac : Nat → Acc} {ch : ByteArray} {has : Bool} (h : Good N R ac ch has) (hR : R ≤ R') : Good N R' ac ch has :=
  ⟨fun j hj => ⟨(h.pr j hj).1, by have := (h.pr j hj).2; omega⟩, h.no, fun j hj hh => by have := h.vote j hj hh; exact ⟨this.1, this.2.1, by omega, this.2.2.2⟩, h.chosen⟩
def setA (ac : Nat → Acc) (j : Nat) (a : Acc) : Nat → Acc := fun i => if i = j then a else ac i
/-- A promise. -/
theorem Good.promise {N : Nat} {R : Int} {ac : Nat → Acc} {ch : ByteArray} {has : Bool} (h : Good N R ac ch has) (j : Nat) (n0 : Int) (hR : 0 ≤ R) : Good N R (setA ac j ((ac j).promise R n0)) ch has := by
  have e : ∀ i, (setA ac j ((ac j).promise R n0) i).has = (ac i).has ∧ (setA ac j ((ac j).promise R n0) i).vr = (ac i).vr ∧ (setA ac j ((ac j).promise R n0) i).vn = (ac i).vn ∧ (setA ac j ((ac j).promise R n0) i).val = (ac i).val := by
    intro i
    unfold setA Acc.promise
    split
    · rename_i e; subst e; exact ⟨rfl, rfl, rfl, rfl⟩
    · exact ⟨rfl, rfl, rfl, rfl⟩
  refine ⟨fun i hi => ?_, fun i hi hh => ?_, fun i hi hh => ?_, fun hh => ?_⟩
  · unfold setA Acc.promise
    split
    · exact ⟨hR, Int.le_refl _⟩
    · exact h.pr i hi
  · rw [(e i).1] at hh
    rw [(e i).2.1, (e i).2.2.1, (e i).2.2.2]
    exact h.no i hi hh
  · rw [(e i).1] at hh
    rw [(e i).2.1, (e i).2.2.1, (e i).2.2.2]
    exact h.vote i hi hh
  · obtain ⟨c, h1, l, h2, h3, h4⟩ := h.chosen hh
    refine ⟨c, fun i hi h5 h6 => ?_, l, h2, fun y hy => ?_, h4⟩
    · rw [(e i).1] at h5
      rw [(e i).2.1] at h6
      rw [(e i).2.2.2]
      exact h1 i hi h5 h6
    · rw [(e y.toNat).1, (e y.toNat).2.1]
      exact h3 y hy
/-- Something is accepted by the greatest ballot so far. -/
theorem Good.accept {N : Nat} {R : Int} {ac : Nat → Acc} {ch : ByteArray} {has : Bool} (h : Good N R ac ch has) (j : Nat) (n0 : Int) (v : ByteArray) (hR : 1 ≤ R) (hn : namedB R n0 = true) (hv : (v.size : Int) ≤ 8192) (hch : has = true → v = ch) : Good N R (setA ac j (Acc.accept R n0 v)) ch has := by
  refine ⟨fun i hi => ?_, fun i hi hh => ?_, fun i hi hh => ?_, fun hh => ?_⟩
  · unfold setA Acc.accept
    split
    · exact ⟨by dsimp only; omega, Int.le_refl _⟩
    · exact h.pr i hi
  · unfold setA Acc.accept at hh ⊢
    split at hh
    · cases hh
    · rename_i e; rw [if_neg e]; exact h.no i hi hh
  · unfold setA Acc.accept at hh ⊢
    split at hh
    · rename_i e; rw [if_pos e]; exact ⟨hn, hR, Int.le_refl _, hv⟩
    · rename_i e; rw [if_neg e]; exact h.vote i hi hh
  · obtain ⟨c, h1, l, h2, h3, h4⟩ := h.chosen hh
    have hc : c ≤ R := by
      have h9 := of_decide_eq_true h4
      cases l with
      | nil => simp at h9; omega
      | cons y t =>
        have := h3 y List.mem_cons_self
        have h8 := h.vote y.toNat (by omega) this.2.1
        omega
    refine ⟨c, fun i hi h5 h6 => ?_, l, h2, fun y hy => ?_, h4⟩
    · unfold setA Acc.accept at h5 h6 ⊢
      split at h5
      · rename_i e; rw [if_pos e]; exact hch hh
      · rename_i e; rw [if_neg e] at h6 ⊢; exact h1 i hi h5 h6
    · have := h3 y hy
      unfold setA Acc.accept
      split
      · exact ⟨this.1, rfl, hc⟩
      · exact this
/-- What the promises say: each is the node's vote. -/
structure PromOk (N : Nat) (ac : Nat → Acc) (P : Prp) : Prop where
  hN : P.N = N
  said : ∀ y c, P.prom y = some c → c = vtOf (ac y.toNat)
theorem votes_at {N : Nat} {ac : Nat → Acc} {P : Prp} (h : PromOk N ac P) (hord : ∀ y, y ∈ P.order ↔ (P.prom y).isSome = true) {c : Vt} : c ∈ votes P ↔ ∃ y ∈ P.order, c = vtOf (ac y.toNat) := by
  unfold votes
  rw [List.mem_map]
  constructor
  · rintro ⟨y, hy, rfl⟩
    obtain ⟨c, hc⟩ := Option.isSome_iff_exists.1 ((hord y).1 hy)
    exact ⟨y, hy, by rw [hc]; exact h.said y c hc⟩
  · rintro ⟨y, hy, rfl⟩
    obtain ⟨c, hc⟩ := Option.isSome_iff_exists.1 ((hord y).1 hy)
    exact ⟨y, hy, by rw [hc]; exact (h.said y c hc)⟩
/-- Once something is chosen, whoever has heard a majority proposes it. -/
theorem value_chosen {N : Nat} {R : Int} {ac : Nat → Acc} {ch : ByteArray} {P : Prp} (h : Good N R ac ch true) (hp : PromOk N ac P) (hord : ∀ y, y ∈ P.order ↔ (P.prom y).isSome = true) (hnd : P.order.Nodup) (hk : ∀ y ∈ P.order, 0 ≤ y ∧ y < N) (hen : enB N P.order.length = true) :
    pValue P = (ch, true) := by
  obtain ⟨c, h1, l, h2, h3, h4⟩ := h.chosen rfl
  obtain ⟨y, hy, hy2⟩ := majors_meet hnd h2 hk (fun y hy => (h3 y hy).1) hen h4
  have hv := (votes_at hp hord (c := vtOf (ac y.toNat))).2 ⟨y, hy, rfl⟩
  have hne : votes P ≠ [] := fun e => by rw [e] at hv; cases hv
  obtain ⟨z, hz, hb⟩ := (votes_at hp hord).1 (best_mem hne)
  have hle := cmp_le (best_max hv)
  rw [hb] at hle
  have hyv := (h3 y hy2).2
  have hyn := (h3 y hy2).1
  have hvy := h.vote y.toNat (by omega) hyv.1
  have hzn := hk z hz
  have hle' : (ac y.toNat).vr ≤ (ac z.toNat).vr := hle
  have hzh : (ac z.toNat).has = true := by
    cases hh : (ac z.toNat).has with
    | true => rfl
    | false => have := h.no z.toNat (by omega) hh; omega
  unfold pValue
  rw [hp.hN, if_pos hen, hb, if_pos (show (vtOf (ac z.toNat)).has = true from hzh)]
  exact Prod.ext (h1 z.toNat (by omega) hzh (by omega)) rfl
/-- What is proposed is not too long. -/
theorem value_size {N : Nat} {R : Int} {ac : Nat → Acc} {ch : ByteArray} {has : Bool} {P : Prp} (h : Good N R ac ch has) (hp : PromOk N ac P) (hord : ∀ y, y ∈ P.order ↔ (P.prom y).isSome = true) (hk : ∀ y ∈ P.order, 0 ≤ y ∧ y < N) (hown : (P.own.size : Int) ≤ 8192) : ((pValue P).1.size : Int) ≤ 8192 := by
  unfold pValue
  split
  · split
    · rename_i hb
      by_cases hne : votes P = []
      · rw [hne] at hb; cases hb
      · obtain ⟨z, hz, e⟩ := (votes_at hp hord).1 (best_mem hne)
        rw [e] at hb ⊢
        have := hk z hz
        exact (h.vote z.toNat (by omega) hb).2.2.2
    · exact hown
  · show (0 : Int) ≤ 8192
    decide

end Go.Proofs.Ytlgljcfkoakogaa
