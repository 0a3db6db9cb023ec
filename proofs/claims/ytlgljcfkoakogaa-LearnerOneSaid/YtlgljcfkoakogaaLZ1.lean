import Derived.Test.YtlgljcfkoakogaaPO1
namespace Go.Proofs.Ytlgljcfkoakogaa
open Go.RowKit
set_option linter.unusedSimpArgs false
set_option linter.unusedVariables false


/-- The whole of a world of proposers, acceptors, learners (what is in it, not where). -/
structure Sys where
  N : Nat
  ac : Nat → Acc
  ln : Nat → Lrn
  ps : List Prp
/-- The proposer of round r. -/
def Sys.at (S : Sys) (r : Int) : Option Prp := if 1 ≤ r then S.ps[(r - 1).toNat]? else none
def Sys.val (S : Sys) (r : Int) : ByteArray := match S.at r with | some P => (pValue P).1 | none => ⟨#[]⟩
def Sys.nd (S : Sys) (r : Int) : Int := match S.at r with | some P => P.n | none => 0
/-- Round r has its majority of promises. -/
def Sys.En (S : Sys) (r : Int) : Prop := ∃ P, S.at r = some P ∧ enB S.N P.order.length = true
/-- What node y has promised for round r, with the vote c. -/
structure PR (S : Sys) (A : Nat → Int → Prop) (y : Nat) (r : Int) (c : Vt) : Prop where
  lt : y < S.N
  pr : r ≤ (S.ac y).pr
  all : ∀ r', A y r' → r' < r → c.has = true ∧ r' ≤ c.r
  vote : c.has = true → A y c.r ∧ c.r < r ∧ c.val = S.val c.r ∧ c.n = S.nd c.r
  no : c.has = false → c = Vt.zero
/-- What holds of a proposer for itself. -/
structure POk (N : Nat) (P : Prp) : Prop where
  hN : P.N = N
  node : 0 ≤ P.n ∧ P.n < 7
  own : (P.own.size : Int) ≤ 8192
  keys : ∀ y, y ∈ P.order → 0 ≤ y ∧ y < N
  ord : ∀ y, y ∈ P.order ↔ (P.prom y).isSome = true
  nd : P.order.Nodup
  akeys : ∀ y, y ∈ P.aord → 0 ≤ y ∧ y < N
  and : P.aord.Nodup
def Chosen (S : Sys) (A : Nat → Int → Prop) (r : Int) : Prop := ∃ l : List Int, l.Nodup ∧ (∀ y ∈ l, (0 ≤ y ∧ y < S.N) ∧ A y.toNat r) ∧ enB S.N l.length = true
structure Inv (S : Sys) (A : Nat → Int → Prop) : Prop where
  pos : 1 ≤ S.N ∧ S.N ≤ 7
  few : S.ps.length ≤ 1000
  bal : ∀ (p : Nat) P, S.ps[p]? = some P → P.r = (p : Int) + 1 ∧ POk S.N P
  a1 : ∀ j r, A j r → j < S.N ∧ 1 ≤ r ∧ S.En r ∧ r ≤ (S.ac j).pr
  a2 : ∀ j, j < S.N → (S.ac j).has = true → A j (S.ac j).vr ∧ (S.ac j).vn = S.nd (S.ac j).vr ∧ (S.ac j).val = S.val (S.ac j).vr ∧ ∀ r, A j r → r ≤ (S.ac j).vr
  a3 : ∀ j, j < S.N → (S.ac j).has = false → (∀ r, ¬ A j r) ∧ (S.ac j).vr = 0 ∧ (S.ac j).vn = 0 ∧ (S.ac j).val = ⟨#[]⟩
  p1 : ∀ (p : Nat) P y c, S.ps[p]? = some P → P.prom y = some c → PR S A y.toNat ((p : Int) + 1) c
  p2 : ∀ (p : Nat) P y, S.ps[p]? = some P → y ∈ P.aord → A y.toNat ((p : Int) + 1)
  l0 : ∀ k, k < S.N → (S.ln k).n = S.N
  l1 : ∀ k, k < S.N → ∀ x c, (S.ln k).f x = some c → (0 ≤ x ∧ x < S.N) ∧ A x.toNat c.1 ∧ c.2.1 = S.nd c.1 ∧ c.2.2 = S.val c.1
  l2 : ∀ k, k < S.N → (S.ln k).known = true → ∃ r, Chosen S A r ∧ (S.ln k).val = S.val r
section
variable {S : Sys} {A : Nat → Int → Prop}
theorem at_spec {r : Int} {P : Prp} (h : S.at r = some P) : 1 ≤ r ∧ S.ps[(r - 1).toNat]? = some P := by
  unfold Sys.at at h
  split at h
  · rename_i hr; exact ⟨hr, h⟩
  · cases h
theorem val_of {r : Int} {P : Prp} (h : S.at r = some P) : S.val r = (pValue P).1 := by unfold Sys.val; rw [h]
/-- The vote that a round's proposer goes by. -/
theorem Inv.vote_of (h : Inv S A) {r : Int} {P : Prp} (hP : S.at r = some P) {c : Vt} (hc : c ∈ votes P) : ∃ y ∈ P.order, P.prom y = some c ∧ PR S A y.toNat r c := by
  obtain ⟨hr, hP⟩ := at_spec hP
  have hok := (h.bal _ _ hP).2
  unfold votes at hc
  obtain ⟨y, hy, e⟩ := List.mem_map.1 hc
  obtain ⟨c', hc'⟩ := Option.isSome_iff_exists.1 ((hok.ord y).1 hy)
  rw [hc'] at e
  obtain rfl : c' = c := e
  have := h.p1 _ _ _ _ hP hc'
  rw [show (((r - 1).toNat : Nat) : Int) + 1 = r by omega] at this
  exact ⟨y, hy, hc', this⟩
/-- Once a value was chosen in round r', whoever proposes in a later round proposes it. -/
theorem Inv.chosen_lt (h : Inv S A) {r' : Int} (hch : Chosen S A r') : ∀ (k : Nat) (r : Int), r.toNat = k → S.En r → r' < r → S.val r' = S.val r := by
  intro k
  induction k using Nat.strongRecOn with
  | ind k ih =>
    intro r hk hen hlt
    obtain ⟨P, hP, hq⟩ := hen
    obtain ⟨hr, hPs⟩ := at_spec hP
    have hok := (h.bal _ _ hPs).2
    obtain ⟨l, hl1, hl2, hl3⟩ := hch
    obtain ⟨y, hy1, hy2⟩ := majors_meet hok.nd hl1 hok.keys (fun y hy => (hl2 y hy).1) hq hl3
    obtain ⟨c, hc⟩ := Option.isSome_iff_exists.1 ((hok.ord y).1 hy1)
    have hcv : c ∈ votes P := List.mem_map.2 ⟨y, hy1, by rw [hc]; rfl⟩
    have hpr := h.p1 _ _ _ _ hPs hc
    rw [show (((r - 1).toNat : Nat) : Int) + 1 = r by omega] at hpr
    have hc2 := hpr.all r' (hl2 y hy2).2 hlt
    have hne : votes P ≠ [] := fun e => by rw [e] at hcv; cases hcv
    obtain ⟨z, hz, hzc, hzp⟩ := h.vote_of hP (best_mem hne)
    have hle := cmp_le (best_max hcv)
    have hA0 := h.a1 _ _ (hl2 y hy2).2
    have hbh : (best (votes P)).has = true := by
      cases hb : (best (votes P)).has with
      | true => rfl
      | false =>
        have := hzp.no hb
        rw [this] at hle
        have h0 : Vt.zero.r = 0 := rfl
        omega
    have hbv := hzp.vote hbh
    have hv : S.val r = (best (votes P)).val := by
      rw [val_of hP]
      unfold pValue
      rw [hok.hN, if_pos hq, if_pos hbh]
    rw [hv, hbv.2.2.1]
    have hA := h.a1 _ _ hbv.1
    by_cases e : r' = (best (votes P)).r
    · rw [e]
    · exact ih _ (by omega) _ rfl hA.2.2.1 (by omega)
theorem Inv.en_chosen (h : Inv S A) {r : Int} (hc : Chosen S A r) : S.En r := by
  obtain ⟨l, _, h2, h3⟩ := hc
  cases l with
  | nil =>
    exfalso
    have := of_decide_eq_true h3
    have := h.pos
    simp at *
    omega
  | cons y t => exact (h.a1 _ _ (h2 y List.mem_cons_self).2).2.2.1
/-- All that is chosen is one value. -/
theorem Inv.agree (h : Inv S A) {r r' : Int} (hc : Chosen S A r) (hc' : Chosen S A r') : S.val r = S.val r' := by
  rcases Int.lt_trichotomy r r' with hlt | rfl | hlt
  · exact h.chosen_lt hc _ r' rfl (h.en_chosen hc') hlt
  · rfl
  · exact (h.chosen_lt hc' _ r rfl (h.en_chosen hc) hlt).symm
/-- What is proposed is short. -/
theorem Inv.val_size (h : Inv S A) : ∀ (k : Nat) (r : Int), r.toNat = k → S.En r → ((S.val r).size : Int) ≤ 8192 := by
  intro k
  induction k using Nat.strongRecOn with
  | ind k ih =>
    intro r hk hen
    obtain ⟨P, hP, hq⟩ := hen
    obtain ⟨hr, hPs⟩ := at_spec hP
    have hok := (h.bal _ _ hPs).2
    rw [val_of hP]
    unfold pValue
    rw [hok.hN, if_pos hq]
    show (((if (best (votes P)).has = true then (best (votes P)).val else P.own).size : Nat) : Int) ≤ 8192
    split
    · rename_i hb
      have hne : votes P ≠ [] := fun e => by rw [e] at hb; cases hb
      obtain ⟨z, hz, hzc, hzp⟩ := h.vote_of hP (best_mem hne)
      have hbv := hzp.vote hb
      rw [hbv.2.2.1]
      have hA := h.a1 _ _ hbv.1
      exact ih _ (by omega) _ rfl hA.2.2.1
    · exact hok.own
/-- All learners and proposers that know, know one value. -/
theorem Inv.prop_chosen (h : Inv S A) {p : Nat} {P : Prp} (hP : S.ps[p]? = some P) (hc : (pChosen P).2 = true) : Chosen S A ((p : Int) + 1) ∧ (pChosen P).1 = S.val ((p : Int) + 1) := by
  have hok := (h.bal _ _ hP).2
  have hat : S.at ((p : Int) + 1) = some P := by
    unfold Sys.at
    rw [if_pos (by omega), show ((p : Int) + 1 - 1).toNat = p by omega]
    exact hP
  unfold pChosen at hc ⊢
  rw [hok.hN] at hc ⊢
  split at hc
  · rename_i hen
    rw [if_pos hen, val_of hat]
    exact ⟨⟨P.aord, hok.and, fun y hy => ⟨hok.akeys y hy, h.p2 _ _ _ hP hy⟩, hen⟩, rfl⟩
  · cases hc
end

end Go.Proofs.Ytlgljcfkoakogaa

namespace Go.Proofs.Ytlgljcfkoakogaa
open Go.RowKit
set_option linter.unusedSimpArgs false
set_option linter.unusedVariables false


/-- A message. -/
structure Nt where
  kind : Nat
  p : Nat
  tn : Nat
  r : Int
  n : Int
  vote : Vt
  value : ByteArray
structure OfProp (S : Sys) (m : Nt) : Prop where
  p : m.p < S.ps.length
  r : m.r = (m.p : Int) + 1
  n : m.n = S.nd m.r
structure MsgOk (S : Sys) (A : Nat → Int → Prop) (m : Nt) : Prop where
  tn : m.tn < S.N
  size : (m.value.size : Int) ≤ 8192
  kinds : (m.kind = 0 ∧ OfProp S m) ∨ (m.kind = 1 ∧ OfProp S m ∧ PR S A m.tn m.r m.vote) ∨ (m.kind = 2 ∧ OfProp S m ∧ S.En m.r ∧ m.value = S.val m.r) ∨ (m.kind = 3 ∧ OfProp S m ∧ A m.tn m.r) ∨
    (m.kind = 4 ∧ m.p < S.N ∧ A m.tn m.r ∧ m.n = S.nd m.r ∧ m.value = S.val m.r)
/-- What is said of S is still so in S'. -/
structure Ext (S S' : Sys) (A A' : Nat → Int → Prop) : Prop where
  hN : S'.N = S.N
  len : S.ps.length ≤ S'.ps.length
  nd : ∀ r, S.at r ≠ none → S'.nd r = S.nd r
  en : ∀ r, S.En r → S'.En r ∧ S'.val r = S.val r
  more : ∀ y r, A y r → A' y r
  pr : ∀ y, (S.ac y).pr ≤ (S'.ac y).pr
  new : ∀ y r, A' y r → A y r ∨ (S.ac y).pr ≤ r
section
variable {S S' : Sys} {A A' : Nat → Int → Prop}
theorem Ext.refl (S : Sys) (A : Nat → Int → Prop) : Ext S S A A := ⟨rfl, Nat.le_refl _, fun _ _ => rfl, fun _ h => ⟨h, rfl⟩, fun _ _ h => h, fun _ => Int.le_refl _, fun _ _ h => .inl h⟩
theorem En.at {r : Int} (h : S.En r) : S.at r ≠ none := by
  obtain ⟨P, hP, _⟩ := h
  rw [hP]
  simp
theorem at_lt {p : Nat} (hp : p < S.ps.length) : S.at ((p : Int) + 1) ≠ none := by
  unfold Sys.at
  rw [if_pos (by omega), show ((p : Int) + 1 - 1).toNat = p by omega, List.getElem?_eq_getElem hp]
  simp
theorem at_get {p : Nat} {P : Prp} (hp : S.ps[p]? = some P) : S.at ((p : Int) + 1) = some P := by
  unfold Sys.at
  rw [if_pos (by omega), show ((p : Int) + 1 - 1).toNat = p by omega]
  exact hp
theorem PR.ext (hI : Inv S A) (e : Ext S S' A A') {y : Nat} {r : Int} {c : Vt} (h : PR S A y r c) : PR S' A' y r c := by
  refine ⟨by rw [e.hN]; exact h.lt, Int.le_trans h.pr (e.pr y), fun r' hA hlt => ?_, fun hc => ?_, h.no⟩
  · rcases e.new y r' hA with h1 | h1
    · exact h.all r' h1 hlt
    · have := h.pr
      omega
  · obtain ⟨h1, h2, h3, h4⟩ := h.vote hc
    have hen := (hI.a1 _ _ h1).2.2.1
    exact ⟨e.more _ _ h1, h2, by rw [(e.en _ hen).2]; exact h3, by rw [e.nd _ (En.at hen)]; exact h4⟩
theorem OfProp.ext (e : Ext S S' A A') {m : Nt} (h : OfProp S m) : OfProp S' m :=
  ⟨Nat.lt_of_lt_of_le h.p e.len, h.r, by rw [e.nd _ (by rw [h.r]; exact at_lt h.p)]; exact h.n⟩
theorem MsgOk.ext (hI : Inv S A) (e : Ext S S' A A') {m : Nt} (h : MsgOk S A m) : MsgOk S' A' m := by
  refine ⟨by rw [e.hN]; exact h.tn, h.size, ?_⟩
  rcases h.kinds with ⟨h0, h1⟩ | ⟨h0, h1, h2⟩ | ⟨h0, h1, h2, h3⟩ | ⟨h0, h1, h2⟩ | ⟨h0, h1, h2, h3, h4⟩
  · exact .inl ⟨h0, h1.ext e⟩
  · exact .inr (.inl ⟨h0, h1.ext e, h2.ext hI e⟩)
  · exact .inr (.inr (.inl ⟨h0, h1.ext e, (e.en _ h2).1, by rw [(e.en _ h2).2]; exact h3⟩))
  · exact .inr (.inr (.inr (.inl ⟨h0, h1.ext e, e.more _ _ h2⟩)))
  · have hen := (hI.a1 _ _ h2).2.2.1
    exact .inr (.inr (.inr (.inr ⟨h0, by rw [e.hN]; exact h1, e.more _ _ h2, by rw [e.nd _ (En.at hen)]; exact h3, by rw [(e.en _ hen).2]; exact h4⟩)))
theorem Chosen.ext (e : Ext S S' A A') {r : Int} (h : Chosen S A r) : Chosen S' A' r := by
  obtain ⟨l, h1, h2, h3⟩ := h
  exact ⟨l, h1, fun y hy => ⟨by rw [e.hN]; exact (h2 y hy).1, e.more _ _ (h2 y hy).2⟩, by rw [e.hN]; exact h3⟩
/-- What the learners have heard is still so. -/
theorem learn_ext (hI : Inv S A) (e : Ext S S' A A') (hl : S'.ln = S.ln) : (∀ k, k < S'.N → (S'.ln k).n = S'.N) ∧ (∀ k, k < S'.N → ∀ x c, (S'.ln k).f x = some c → (0 ≤ x ∧ x < S'.N) ∧ A' x.toNat c.1 ∧ c.2.1 = S'.nd c.1 ∧ c.2.2 = S'.val c.1) ∧
    (∀ k, k < S'.N → (S'.ln k).known = true → ∃ r, Chosen S' A' r ∧ (S'.ln k).val = S'.val r) := by
  rw [e.hN, hl]
  refine ⟨hI.l0, fun k hk x c hc => ?_, fun k hk hkn => ?_⟩
  · obtain ⟨h1, h2, h3, h4⟩ := hI.l1 k hk x c hc
    have hen := (hI.a1 _ _ h2).2.2.1
    exact ⟨h1, e.more _ _ h2, by rw [e.nd _ (En.at hen)]; exact h3, by rw [(e.en _ hen).2]; exact h4⟩
  · obtain ⟨r, h1, h2⟩ := hI.l2 k hk hkn
    exact ⟨r, h1.ext e, by rw [(e.en _ (hI.en_chosen h1)).2]; exact h2⟩
/-- The acceptors' part where only proposers turn. -/
theorem acc_ext (hI : Inv S A) (e : Ext S S' A A) (ha : S'.ac = S.ac) : (∀ j r, A j r → j < S'.N ∧ 1 ≤ r ∧ S'.En r ∧ r ≤ (S'.ac j).pr) ∧
    (∀ j, j < S'.N → (S'.ac j).has = true → A j (S'.ac j).vr ∧ (S'.ac j).vn = S'.nd (S'.ac j).vr ∧ (S'.ac j).val = S'.val (S'.ac j).vr ∧ ∀ r, A j r → r ≤ (S'.ac j).vr) ∧
    (∀ j, j < S'.N → (S'.ac j).has = false → (∀ r, ¬ A j r) ∧ (S'.ac j).vr = 0 ∧ (S'.ac j).vn = 0 ∧ (S'.ac j).val = ⟨#[]⟩) := by
  rw [e.hN, ha]
  refine ⟨fun j r hA => ?_, fun j hj hh => ?_, hI.a3⟩
  · obtain ⟨h1, h2, h3, h4⟩ := hI.a1 j r hA
    exact ⟨h1, h2, (e.en _ h3).1, h4⟩
  · obtain ⟨h1, h2, h3, h4⟩ := hI.a2 j hj hh
    have hen := (hI.a1 _ _ h1).2.2.1
    exact ⟨h1, by rw [e.nd _ (En.at hen)]; exact h2, by rw [(e.en _ hen).2]; exact h3, h4⟩
/-- At the start. -/
theorem inv_start (N : Nat) (h1 : 1 ≤ N) (h7 : N ≤ 7) : Inv ⟨N, fun _ => Acc.zero, fun _ => lrnNew N, []⟩ (fun _ _ => False) :=
  ⟨⟨h1, h7⟩, Nat.zero_le _, (fun p P h => by simp at h), (fun _ _ h => h.elim), (fun j _ h => by cases h), (fun j _ _ => ⟨fun _ h => h, rfl, rfl, rfl⟩), (fun p P y c h => by simp at h), (fun p P y h => by simp at h), (fun _ _ => rfl), (fun k _ x c h => by cases h), (fun k _ h => by cases h)⟩
/-- A new proposer. -/
def Sys.propose (S : Sys) (n0 : Int) (own : ByteArray) : Sys := { S with ps := S.ps ++ [prpNew ((S.ps.length : Int) + 1) n0 S.N own] }
theorem at_prop {n0 : Int} {own : ByteArray} {r : Int} (h : S.at r ≠ none) : (S.propose n0 own).at r = S.at r := by
  unfold Sys.at at h ⊢
  split at h
  · rename_i hr
    rw [if_pos hr, if_pos hr]
    unfold Sys.propose
    dsimp only
    rcases Nat.lt_or_ge (r - 1).toNat S.ps.length with h1 | h1
    · exact List.getElem?_append_left h1
    · rw [List.getElem?_eq_none h1] at h; exact absurd rfl h
  · exact absurd rfl h
theorem ext_prop (S : Sys) (A : Nat → Int → Prop) (n0 : Int) (own : ByteArray) : Ext S (S.propose n0 own) A A := by
  refine ⟨rfl, by unfold Sys.propose; simp, fun r hr => ?_, fun r hr => ?_, fun _ _ h => h, fun _ => Int.le_refl _, fun _ _ h => .inl h⟩
  · unfold Sys.nd; rw [at_prop hr]
  · have ha := at_prop (n0 := n0) (own := own) (En.at hr)
    obtain ⟨P, hP, hq⟩ := hr
    refine ⟨⟨P, by rw [ha]; exact hP, hq⟩, ?_⟩
    unfold Sys.val
    rw [ha]
theorem Inv.propose (h : Inv S A) (n0 : Int) (own : ByteArray) (hn : 0 ≤ n0 ∧ n0 < 7) (hown : (own.size : Int) ≤ 8192) (hl : S.ps.length < 1000) : Inv (S.propose n0 own) A := by
  have e := ext_prop S A n0 own
  obtain ⟨b1, b2, b3⟩ := acc_ext h e rfl
  obtain ⟨c1, c2, c3⟩ := learn_ext h e rfl
  have hget : ∀ (p : Nat) P, (S.propose n0 own).ps[p]? = some P → S.ps[p]? = some P ∨ (p = S.ps.length ∧ P = prpNew ((S.ps.length : Int) + 1) n0 S.N own) := by
    intro p P hP
    have hP' : (S.ps ++ [prpNew ((S.ps.length : Int) + 1) n0 S.N own])[p]? = some P := hP
    rcases Nat.lt_or_ge p S.ps.length with h1 | h1
    · rw [List.getElem?_append_left h1] at hP'; exact .inl hP'
    · rw [List.getElem?_append_right h1] at hP'
      rcases Nat.lt_or_ge (p - S.ps.length) 1 with h2 | h2
      · have : p = S.ps.length := by omega
        subst this
        simp at hP'
        exact .inr ⟨rfl, hP'.symm⟩
      · rw [List.getElem?_eq_none (by simpa using h2)] at hP'; cases hP'
  refine ⟨h.pos, by show (S.ps ++ [_]).length ≤ 1000; simp; omega, fun p P hP => ?_, b1, b2, b3, fun p P y c hP hc => ?_, fun p P y hP hy => ?_, c1, c2, c3⟩
  · rcases hget p P hP with h1 | ⟨rfl, rfl⟩
    · exact h.bal p P h1
    · exact ⟨rfl, ⟨rfl, hn, hown, (fun y hy => by cases hy), (fun y => ⟨(fun hy => by cases hy), (fun hy => by cases hy)⟩), List.nodup_nil, (fun y hy => by cases hy), List.nodup_nil⟩⟩
  · rcases hget p P hP with h1 | ⟨rfl, rfl⟩
    · exact (h.p1 p P y c h1 hc).ext h e
    · cases hc
  · rcases hget p P hP with h1 | ⟨rfl, rfl⟩
    · exact h.p2 p P y h1 hy
    · cases hy
end

end Go.Proofs.Ytlgljcfkoakogaa

namespace Go.Proofs.Ytlgljcfkoakogaa
open Go.RowKit
set_option linter.unusedSimpArgs false
set_option linter.unusedVariables false


section
variable {S : Sys} {A : Nat → Int → Prop}
/-- Acceptor j promises. -/
def Sys.prepare (S : Sys) (j : Nat) (r n : Int) : Sys := { S with ac := setA S.ac j ((S.ac j).promise r n) }
theorem prep_fields (S : Sys) (j : Nat) (r n : Int) (i : Nat) : ((S.prepare j r n).ac i).has = (S.ac i).has ∧ ((S.prepare j r n).ac i).vr = (S.ac i).vr ∧ ((S.prepare j r n).ac i).vn = (S.ac i).vn ∧ ((S.prepare j r n).ac i).val = (S.ac i).val := by
  unfold Sys.prepare setA Acc.promise
  dsimp only
  split
  · rename_i e; subst e; exact ⟨rfl, rfl, rfl, rfl⟩
  · exact ⟨rfl, rfl, rfl, rfl⟩
theorem prep_pr {j : Nat} {r n : Int} (hr : (S.ac j).pr ≤ r) (i : Nat) : (S.ac i).pr ≤ ((S.prepare j r n).ac i).pr := by
  unfold Sys.prepare setA Acc.promise
  dsimp only
  split
  · rename_i e; subst e; exact hr
  · exact Int.le_refl _
theorem ext_prep (A : Nat → Int → Prop) {j : Nat} {r n : Int} (hr : (S.ac j).pr ≤ r) : Ext S (S.prepare j r n) A A :=
  ⟨rfl, Nat.le_refl _, fun _ _ => rfl, fun _ h => ⟨h, rfl⟩, fun _ _ h => h, prep_pr hr, fun _ _ h => .inl h⟩
theorem Inv.prepare (h : Inv S A) {j : Nat} {r n : Int} (hr : (S.ac j).pr ≤ r) : Inv (S.prepare j r n) A := by
  have e := ext_prep (S := S) A (n := n) hr
  obtain ⟨c1, c2, c3⟩ := learn_ext h e rfl
  have hf := prep_fields S j r n
  refine ⟨h.pos, h.few, h.bal, fun i q hA => ?_, fun i hi hh => ?_, fun i hi hh => ?_, fun p P y c hP hc => (h.p1 p P y c hP hc).ext h e, h.p2, c1, c2, c3⟩
  · obtain ⟨h1, h2, h3, h4⟩ := h.a1 i q hA
    exact ⟨h1, h2, h3, Int.le_trans h4 (prep_pr hr i)⟩
  · rw [(hf i).1] at hh
    rw [(hf i).2.1, (hf i).2.2.1, (hf i).2.2.2]
    exact h.a2 i hi hh
  · rw [(hf i).1] at hh
    rw [(hf i).2.1, (hf i).2.2.1, (hf i).2.2.2]
    exact h.a3 i hi hh
/-- What is sent back may be sent. -/
theorem Inv.promised (h : Inv S A) {j : Nat} {r n : Int} (hj : j < S.N) (hr : (S.ac j).pr ≤ r) (hn : n = S.nd r) (hb : (S.ac j).has = false ∨ ¬ ((S.ac j).vr = r ∧ (S.ac j).vn = n)) : PR (S.prepare j r n) A j r (vtOf (S.ac j)) := by
  refine ⟨hj, ?_, fun r' hA hlt => ?_, fun hh => ?_, fun hh => ?_⟩
  · show r ≤ (setA S.ac j ((S.ac j).promise r n) j).pr
    unfold setA Acc.promise
    rw [if_pos rfl]
    exact Int.le_refl _
  · cases hh : (S.ac j).has with
    | true => exact ⟨hh, (h.a2 j hj hh).2.2.2 r' hA⟩
    | false => exact absurd hA ((h.a3 j hj hh).1 r')
  · have hh' : (S.ac j).has = true := hh
    obtain ⟨h1, h2, h3, h4⟩ := h.a2 j hj hh'
    have h5 := (h.a1 _ _ h1).2.2.2
    refine ⟨h1, ?_, h3, h2⟩
    show (S.ac j).vr < r
    rcases hb with hb | hb
    · rw [hb] at hh'; cases hh'
    · have : ¬ (S.ac j).vr = r := fun e => hb ⟨e, by rw [h2, e, hn]⟩
      omega
  · have hh' : (S.ac j).has = false := hh
    obtain ⟨_, h2, h3, h4⟩ := h.a3 j hj hh'
    unfold vtOf Vt.zero
    rw [hh', h2, h3, h4]
/-- Acceptor j accepts. -/
def Sys.accept (S : Sys) (j : Nat) (r n : Int) (u : ByteArray) : Sys := { S with ac := setA S.ac j (Acc.accept r n u) }
def more (A : Nat → Int → Prop) (j : Nat) (r : Int) : Nat → Int → Prop := fun y q => A y q ∨ (y = j ∧ q = r)
theorem acc_pr {j : Nat} {r n : Int} {u : ByteArray} (hr : (S.ac j).pr ≤ r) (i : Nat) : (S.ac i).pr ≤ ((S.accept j r n u).ac i).pr := by
  unfold Sys.accept setA Acc.accept
  dsimp only
  split
  · rename_i e; subst e; exact hr
  · exact Int.le_refl _
theorem ext_accept (A : Nat → Int → Prop) {j : Nat} {r n : Int} {u : ByteArray} (hr : (S.ac j).pr ≤ r) : Ext S (S.accept j r n u) A (more A j r) :=
  ⟨rfl, Nat.le_refl _, fun _ _ => rfl, fun _ h => ⟨h, rfl⟩, fun _ _ h => .inl h, acc_pr hr, fun y q h => by
    rcases h with h | ⟨rfl, rfl⟩
    · exact .inl h
    · exact .inr hr⟩
theorem Inv.accept (h : Inv S A) {j : Nat} {r n : Int} {u : ByteArray} (hj : j < S.N) (h1 : 1 ≤ r) (hen : S.En r) (hn : n = S.nd r) (hu : u = S.val r) (hr : (S.ac j).pr ≤ r) : Inv (S.accept j r n u) (more A j r) := by
  have e := ext_accept (S := S) A (n := n) (u := u) hr
  obtain ⟨c1, c2, c3⟩ := learn_ext h e rfl
  have hac : ∀ i, (S.accept j r n u).ac i = if i = j then Acc.accept r n u else S.ac i := fun i => rfl
  refine ⟨h.pos, h.few, h.bal, fun i q hA => ?_, fun i hi hh => ?_, fun i hi hh => ?_, fun p P y c hP hc => (h.p1 p P y c hP hc).ext h e, fun p P y hP hy => .inl (h.p2 p P y hP hy), c1, c2, c3⟩
  · rcases hA with hA | ⟨rfl, rfl⟩
    · obtain ⟨k1, k2, k3, k4⟩ := h.a1 i q hA
      exact ⟨k1, k2, k3, Int.le_trans k4 (acc_pr hr i)⟩
    · refine ⟨hj, h1, hen, ?_⟩
      rw [hac, if_pos rfl]
      exact Int.le_refl _
  · rw [hac] at hh ⊢
    by_cases ei : i = j
    · subst ei
      rw [if_pos rfl] at hh ⊢
      refine ⟨.inr ⟨rfl, rfl⟩, hn, hu, fun q hA => ?_⟩
      rcases hA with hA | ⟨_, rfl⟩
      · exact Int.le_trans (h.a1 _ _ hA).2.2.2 hr
      · exact Int.le_refl _
    · rw [if_neg ei] at hh ⊢
      obtain ⟨k1, k2, k3, k4⟩ := h.a2 i hi hh
      refine ⟨.inl k1, k2, k3, fun q hA => ?_⟩
      rcases hA with hA | ⟨e1, _⟩
      · exact k4 q hA
      · exact absurd e1 ei
  · rw [hac] at hh ⊢
    by_cases ei : i = j
    · rw [if_pos ei] at hh; cases hh
    · rw [if_neg ei] at hh ⊢
      obtain ⟨k1, k2⟩ := h.a3 i hi hh
      refine ⟨fun q hA => ?_, k2⟩
      rcases hA with hA | ⟨e1, _⟩
      · exact k1 q hA
      · exact ei e1
/-- A proposer turns. -/
def Sys.turn (S : Sys) (p : Nat) (P' : Prp) : Sys := { S with ps := S.ps.set p P' }
theorem turn_get {p : Nat} {P P' : Prp} (hP : S.ps[p]? = some P) (q : Nat) : (S.turn p P').ps[q]? = if q = p then some P' else S.ps[q]? := by
  show (S.ps.set p P')[q]? = _
  have hp : p < S.ps.length := by
    rcases Nat.lt_or_ge p S.ps.length with h1 | h1
    · exact h1
    · rw [List.getElem?_eq_none h1] at hP; cases hP
  rw [List.getElem?_set]
  by_cases e : p = q
  · rw [if_pos e, if_pos (by omega), if_pos e.symm]
  · rw [if_neg e, if_neg (fun h => e h.symm)]
theorem turn_at {p : Nat} {P P' : Prp} (hP : S.ps[p]? = some P) (r : Int) : (S.turn p P').at r = if r = (p : Int) + 1 then some P' else S.at r := by
  unfold Sys.at
  by_cases h1 : 1 ≤ r
  · rw [if_pos h1, if_pos h1, turn_get hP]
    by_cases e : (r - 1).toNat = p
    · rw [if_pos e, if_pos (by omega)]
    · rw [if_neg e, if_neg (by omega)]
  · rw [if_neg h1, if_neg h1, if_neg (by omega)]
theorem ext_turn (A : Nat → Int → Prop) {p : Nat} {P P' : Prp} (hP : S.ps[p]? = some P) (hn : P'.n = P.n) (hen : enB S.N P.order.length = true → enB S.N P'.order.length = true ∧ pValue P' = pValue P) : Ext S (S.turn p P') A A := by
  have hat := at_get hP
  refine ⟨rfl, by show S.ps.length ≤ (S.ps.set p P').length; rw [List.length_set]; exact Nat.le_refl _, fun r hr => ?_, fun r hr => ?_, fun _ _ h => h, fun _ => Int.le_refl _, fun _ _ h => .inl h⟩
  · unfold Sys.nd
    rw [turn_at hP]
    by_cases e : r = (p : Int) + 1
    · rw [if_pos e, e, hat]; exact hn
    · rw [if_neg e]
  · obtain ⟨Q, hQ, hq⟩ := hr
    unfold Sys.En Sys.val
    rw [turn_at hP]
    by_cases e : r = (p : Int) + 1
    · rw [if_pos e]
      rw [e, hat] at hQ
      injection hQ with hQ
      subst hQ
      obtain ⟨k1, k2⟩ := hen hq
      refine ⟨⟨P', rfl, k1⟩, ?_⟩
      rw [e, hat]
      exact congrArg Prod.fst k2
    · rw [if_neg e]
      exact ⟨⟨Q, hQ, hq⟩, rfl⟩
theorem Inv.turn (h : Inv S A) {p : Nat} {P P' : Prp} (hP : S.ps[p]? = some P) (hr : P'.r = P.r) (hn : P'.n = P.n) (hok : POk S.N P') (hen : enB S.N P.order.length = true → enB S.N P'.order.length = true ∧ pValue P' = pValue P)
    (hp1 : ∀ y c, P'.prom y = some c → PR S A y.toNat ((p : Int) + 1) c) (hp2 : ∀ y, y ∈ P'.aord → A y.toNat ((p : Int) + 1)) : Inv (S.turn p P') A := by
  have e := ext_turn A hP hn hen
  obtain ⟨b1, b2, b3⟩ := acc_ext h e rfl
  obtain ⟨c1, c2, c3⟩ := learn_ext h e rfl
  refine ⟨h.pos, by show (S.ps.set p P').length ≤ 1000; rw [List.length_set]; exact h.few, fun q Q hQ => ?_, b1, b2, b3, fun q Q y c hQ hc => ?_, fun q Q y hQ hy => ?_, c1, c2, c3⟩
  · rw [turn_get hP] at hQ
    split at hQ
    · rename_i eq; injection hQ with hQ; subst hQ eq; exact ⟨hr.trans (h.bal _ _ hP).1, hok⟩
    · exact h.bal q Q hQ
  · rw [turn_get hP] at hQ
    split at hQ
    · rename_i eq; injection hQ with hQ; subst hQ eq; exact (hp1 y c hc).ext h e
    · exact (h.p1 q Q y c hQ hc).ext h e
  · rw [turn_get hP] at hQ
    split at hQ
    · rename_i eq; injection hQ with hQ; subst hQ eq; exact hp2 y hy
    · exact h.p2 q Q y hQ hy
/-- A promise is heard. -/
theorem prom_cases (P : Prp) (x : Int) (v : Vt) : ((pProm P x v).2 = P ∧ (pProm P x v).1 = false) ∨ (P.prom x = none ∧ enB P.N P.order.length = false ∧ pProm P x v = (enB P.N (P.order.length + 1 : Nat), { P with prom := fun y => if y = x then some v else P.prom y, order := P.order ++ [x], nn := P.nn + 1 })) := by
  unfold pProm
  cases hp : P.prom x with
  | some c => rw [if_pos (by simp)]; exact .inl ⟨rfl, rfl⟩
  | none =>
    rw [if_neg (by simp)]
    cases he : enB P.N P.order.length with
    | true => rw [if_pos rfl]; exact .inl ⟨rfl, rfl⟩
    | false => rw [if_neg (by simp)]; exact .inr ⟨rfl, rfl, rfl⟩
theorem prom_turn (h : Inv S A) {p : Nat} {P : Prp} (hP : S.ps[p]? = some P) {x : Int} {v : Vt} (hx : 0 ≤ x ∧ x < S.N) (hv : PR S A x.toNat ((p : Int) + 1) v) :
    Inv (S.turn p (pProm P x v).2) A ∧ Ext S (S.turn p (pProm P x v).2) A A ∧ ((pProm P x v).1 = true → (S.turn p (pProm P x v).2).En ((p : Int) + 1) ∧ (S.turn p (pProm P x v).2).val ((p : Int) + 1) = (pValue (pProm P x v).2).1) := by
  have hok := (h.bal _ _ hP).2
  have hkeep : ∀ Q, Q = P → Inv (S.turn p Q) A ∧ Ext S (S.turn p Q) A A := fun Q e => by
    subst e
    exact ⟨h.turn hP rfl rfl hok (fun k => ⟨k, rfl⟩) (fun y c hc => h.p1 _ _ _ _ hP hc) (fun y hy => h.p2 _ _ _ hP hy), ext_turn A hP rfl (fun k => ⟨k, rfl⟩)⟩
  rcases prom_cases P x v with ⟨h1, h2⟩ | ⟨h1, h2, h3⟩
  · obtain ⟨k1, k2⟩ := hkeep _ h1
    exact ⟨k1, k2, fun e => by rw [h2] at e; cases e⟩
  · rw [h3]
    dsimp only
    rw [hok.hN] at h2
    have hno : ∀ {Q : Prop}, enB S.N P.order.length = true → Q := fun k => by rw [h2] at k; cases k
    have hx' : ¬ x ∈ P.order := fun e => by rw [hok.ord x, h1] at e; cases e
    refine ⟨h.turn hP rfl rfl ⟨hok.hN, hok.node, hok.own, fun y hy => ?_, fun y => ?_, ?_, hok.akeys, hok.and⟩ hno (fun y c hc => ?_) (fun y hy => h.p2 _ _ _ hP hy), ext_turn A hP rfl hno, fun e => ⟨⟨_, by rw [turn_at hP, if_pos rfl], ?_⟩, ?_⟩⟩
    · rcases List.mem_append.1 hy with hy | hy
      · exact hok.keys y hy
      · simp at hy; subst hy; exact hx
    · dsimp only
      rw [List.mem_append, hok.ord y]
      by_cases e : y = x
      · subst e; simp
      · simp [e]
    · dsimp only
      rw [List.nodup_append]
      refine ⟨hok.nd, by simp, fun a ha b hb => ?_⟩
      simp at hb
      subst hb
      rintro rfl
      exact hx' ha
    · dsimp only at hc
      split at hc
      · rename_i e; subst e; injection hc with hc; subst hc; exact hv
      · exact h.p1 _ _ _ _ hP hc
    · rw [hok.hN] at e
      show enB S.N (P.order ++ [x]).length = true
      rw [List.length_append]
      exact e
    · unfold Sys.val
      rw [turn_at hP, if_pos rfl]
/-- That something was accepted is heard. -/
theorem acc_turn (h : Inv S A) {p : Nat} {P : Prp} (hP : S.ps[p]? = some P) {x : Int} (hx : 0 ≤ x ∧ x < S.N) (hA : A x.toNat ((p : Int) + 1)) (haor : ∀ y, y ∈ P.aord ↔ (P.acc y).isSome = true) :
    Inv (S.turn p (pAcc P x).2) A ∧ Ext S (S.turn p (pAcc P x).2) A A := by
  have hok := (h.bal _ _ hP).2
  have hmem : ∀ y, y ∈ (pAcc P x).2.aord → y ∈ P.aord ∨ y = x := fun y hy => by
    have hy' : y ∈ (if (P.acc x).isSome = true then P.aord else P.aord ++ [x]) := hy
    split at hy'
    · exact .inl hy'
    · rcases List.mem_append.1 hy' with k | k
      · exact .inl k
      · simp at k; exact .inr k
  have hnd : (pAcc P x).2.aord.Nodup := by
    show (if (P.acc x).isSome = true then P.aord else P.aord ++ [x]).Nodup
    split
    · exact hok.and
    · rename_i hs
      rw [List.nodup_append]
      refine ⟨hok.and, by simp, fun a ha b hb => ?_⟩
      simp at hb
      subst hb
      rintro rfl
      exact hs ((haor a).1 ha)
  refine ⟨h.turn hP rfl rfl ⟨hok.hN, hok.node, hok.own, hok.keys, hok.ord, hok.nd, fun y hy => ?_, hnd⟩ (fun k => ⟨k, rfl⟩) (fun y c hc => h.p1 _ _ _ _ hP hc) (fun y hy => ?_), ext_turn A hP rfl (fun k => ⟨k, rfl⟩)⟩
  · rcases hmem y hy with k | rfl
    · exact hok.akeys y k
    · exact hx
  · rcases hmem y hy with k | rfl
    · exact h.p2 _ _ _ hP k
    · exact hA
end

end Go.Proofs.Ytlgljcfkoakogaa

namespace Go.Proofs.Ytlgljcfkoakogaa
open Go.RowKit
set_option linter.unusedSimpArgs false
set_option linter.unusedVariables false


section
variable {S : Sys} {A : Nat → Int → Prop}
theorem quo_en {l : List Int} {N : Nat} (hnd : l.Nodup) (hr : ∀ y ∈ l, 0 ≤ y ∧ y < N) : quoB l N = enB N l.length := by
  unfold quoB enB
  rw [Int.toNat_natCast, cnt_nodup hnd hr]
theorem voters_nodup (f : Int → Option Sd) (r n : Int) : (voters f r n).Nodup := by
  unfold voters
  exact List.Pairwise.filter _ (by decide)
/-- Learner k hears that node x has accepted. -/
def Sys.hear (S : Sys) (k : Nat) (L : Lrn) : Sys := { S with ln := fun i => if i = k then L else S.ln i }
theorem ext_hear (S : Sys) (A : Nat → Int → Prop) (k : Nat) (L : Lrn) : Ext S (S.hear k L) A A := ⟨rfl, Nat.le_refl _, fun _ _ => rfl, fun _ h => ⟨h, rfl⟩, fun _ _ h => h, fun _ => Int.le_refl _, fun _ _ h => .inl h⟩
theorem Inv.hear (h : Inv S A) (k : Nat) (L : Lrn) (h0 : L.n = S.N) (h1 : ∀ x c, L.f x = some c → (0 ≤ x ∧ x < S.N) ∧ A x.toNat c.1 ∧ c.2.1 = S.nd c.1 ∧ c.2.2 = S.val c.1) (h2 : L.known = true → ∃ r, Chosen S A r ∧ L.val = S.val r) : Inv (S.hear k L) A := by
  have hl : ∀ i, (S.hear k L).ln i = if i = k then L else S.ln i := fun _ => rfl
  refine ⟨h.pos, h.few, h.bal, h.a1, h.a2, h.a3, fun p P y c hP hc => (h.p1 p P y c hP hc).ext h (ext_hear S A k L), h.p2, fun i hi => ?_, fun i hi x c hc => ?_, fun i hi hk => ?_⟩
  · rw [hl]; split
    · exact h0
    · exact h.l0 i hi
  · rw [hl] at hc; split at hc
    · exact h1 x c hc
    · exact h.l1 i hi x c hc
  · rw [hl] at hk ⊢
    by_cases e : i = k
    · rw [if_pos e] at hk ⊢; exact h2 hk
    · rw [if_neg e] at hk ⊢; exact h.l2 i hi hk
theorem nd_range (h : Inv S A) {r : Int} (hr : S.at r ≠ none) : 0 ≤ S.nd r ∧ S.nd r < 7 := by
  cases ha : S.at r with
  | none => exact absurd ha hr
  | some P =>
    unfold Sys.nd
    rw [ha]
    exact (h.bal _ _ (at_spec ha).2).2.node
theorem at_range (h : Inv S A) {r : Int} (hr : S.at r ≠ none) : 1 ≤ r ∧ r ≤ 1000 := by
  cases ha : S.at r with
  | none => exact absurd ha hr
  | some P =>
    obtain ⟨h1, h2⟩ := at_spec ha
    have h3 : (r - 1).toNat < S.ps.length := by
      rcases Nat.lt_or_ge (r - 1).toNat S.ps.length with k | k
      · exact k
      · rw [List.getElem?_eq_none k] at h2; cases h2
    have := h.few
    omega
theorem named_all (h : Inv S A) {r : Int} (hr : S.at r ≠ none) : namedB r (S.nd r) = true := by
  have h1 := at_range h hr
  have h2 := nd_range h hr
  unfold namedB mayB
  rw [decide_eq_true h2.1, decide_eq_true h2.2, decide_eq_true (show r ≤ 281474976710656 by omega)]
  have : (r == 0) = false := by simp; omega
  rw [this]
  rfl
/-- What a learner answers to a message, and what it then knows. -/
theorem learn_step (h : Inv S A) {k : Nat} (hk : k < S.N) {x r n : Int} {v : ByteArray} (hx : 0 ≤ x ∧ x < S.N) (hA : A x.toNat r) (hn : n = S.nd r) (hv : v = S.val r) :
    (lAcc (S.ln k) x r n v).2.1 = 0 ∧ Inv (S.hear k (lAcc (S.ln k) x r n v).2.2) A ∧ Ext S (S.hear k (lAcc (S.ln k) x r n v).2.2) A A := by
  have hen := (h.a1 _ _ hA).2.2.1
  have hsz := h.val_size _ r rfl hen
  have hl0 := h.l0 k hk
  have hl1 := h.l1 k hk
  have hl2 := h.l2 k hk
  have hnm := named_all h (En.at hen)
  subst hn hv
  refine ⟨?_, ?_, ext_hear _ _ _ _⟩
  all_goals unfold lAcc
  all_goals rw [if_neg (show ¬ ¬ (0 ≤ x ∧ x < ((S.ln k).n : Int) ∧ namedB r (S.nd r) = true) by rw [Decidable.not_not, hl0]; exact ⟨hx.1, hx.2, hnm⟩), if_neg (show ¬ 8192 < (S.val r).size by omega)]
  all_goals by_cases hkn : (S.ln k).known = true
  all_goals first | rw [if_pos hkn] | rw [if_neg hkn]
  · by_cases ho : oldB ((S.ln k).f x) r (S.nd r) = true
    · rw [if_pos ho]
    · rw [if_neg ho]
      unfold lNew
      rw [if_neg]
      rw [otherB_iff]
      rintro ⟨y, u, _, hy, hu⟩
      exact hu (hl1 y _ hy).2.2.2
  · exact h.hear k _ hl0 hl1 hl2
  · by_cases ho : oldB ((S.ln k).f x) r (S.nd r) = true
    · rw [if_pos ho]; exact h.hear k _ hl0 hl1 hl2
    · rw [if_neg ho]
      have hoth : ¬ otherB (S.ln k).f r (S.nd r) (S.val r) = true := by
        rw [otherB_iff]
        rintro ⟨y, u, _, hy, hu⟩
        exact hu (hl1 y _ hy).2.2.2
      rw [lNew_eq hoth rfl]
      have hf : ∀ y c, putF (S.ln k).f x (r, S.nd r, S.val r) y = some c → (0 ≤ y ∧ y < S.N) ∧ A y.toNat c.1 ∧ c.2.1 = S.nd c.1 ∧ c.2.2 = S.val c.1 := fun y c hc => by
        unfold putF at hc
        split at hc
        · rename_i e; injection hc with hc; subst hc e; exact ⟨hx, hA, rfl, rfl⟩
        · exact hl1 y c hc
      refine h.hear k _ hl0 hf (fun hq => ?_)
      have hq' : quoB (voters (putF (S.ln k).f x (r, S.nd r, S.val r)) r (S.nd r)) ((S.ln k).n : Int) = true := hq
      refine ⟨r, ⟨voters (putF (S.ln k).f x (r, S.nd r, S.val r)) r (S.nd r), voters_nodup _ _ _, fun y hy => ?_, ?_⟩, ?_⟩
      · obtain ⟨u, hu⟩ := (voters_mem.1 hy).2
        have := hf y _ hu
        exact ⟨this.1, this.2.1⟩
      · rw [hl0, quo_en (voters_nodup _ _ _) (fun y hy => by
          obtain ⟨u, hu⟩ := (voters_mem.1 hy).2
          exact (hf y _ hu).1)] at hq'
        exact hq'
      · show (if quoB (voters (putF (S.ln k).f x (r, S.nd r, S.val r)) r (S.nd r)) ((S.ln k).n : Int) = true then S.val r else (S.ln k).val) = S.val r
        rw [if_pos hq']
/-- A promise that was sent may be heard. -/
theorem pmay_ok (h : Inv S A) {p : Nat} {P : Prp} (hP : S.ps[p]? = some P) {y : Nat} {c : Vt} (hc : PR S A y ((p : Int) + 1) c) : pMayB P.r P.n c = true := by
  have hb := h.bal _ _ hP
  unfold pMayB
  cases hh : c.has with
  | true =>
    rw [if_pos rfl]
    obtain ⟨h1, h2, h3, h4⟩ := hc.vote hh
    have hen := (h.a1 _ _ h1).2.2.1
    have hnm := named_all h (En.at hen)
    have hsz := h.val_size _ c.r rfl hen
    have hcv := cmpB_vals c.r c.n P.r P.n
    have hr := hb.1
    rw [h4, hnm, h3, decide_eq_true hsz, ← h4, decide_eq_true (show cmpB c.r c.n P.r P.n < 0 by rcases hcv with ⟨h0, _⟩ | ⟨_, k, _⟩ | ⟨_, k⟩ <;> omega)]
    rfl
  | false =>
    rw [if_neg (by simp), hc.no hh]
    decide
theorem prep_le {a : Acc} {r n : Int} (h : ¬ cmpB r n a.pr a.pn < 0) : a.pr ≤ r := by
  rcases cmpB_vals r n a.pr a.pn with ⟨h0, _⟩ | ⟨_, h1⟩ | ⟨_, h1⟩ <;> omega
end

end Go.Proofs.Ytlgljcfkoakogaa
