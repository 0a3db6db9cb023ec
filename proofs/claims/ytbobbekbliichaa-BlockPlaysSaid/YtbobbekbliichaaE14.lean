import Derived.Test.YtbobbekbliichaaE13
namespace Go.Proofs.Ytbobbekbliichaa
open Go.RowKit
set_option linter.unusedSimpArgs false
set_option linter.unusedVariables false


open Go.Lib (byteCells byteCells_length byteCells_one)
def wOf (n : Nat) (s : Stp) : Int × List UInt8 := (s.b % 65536 % (n : Int), oneByte s.c)
theorem syncS_len : ∀ (L : List (Int × List UInt8)) (S : List (List UInt8)), (syncS L S).length = S.length
  | [], _ => rfl
  | x :: L, S => (syncS_len L _).trans (tear_len _ _ _)
theorem crashS_len : ∀ (L : List (Int × List UInt8)) (ps : List Int) (S : List (List UInt8)), (crashS L ps S).length = S.length
  | [], _, _ => rfl
  | x :: L, ps, S => (crashS_len L _ _).trans (tear_len _ _ _)
theorem own_sync {W Wi : World} {g : Nat} {d : Dsk} (h : Own W Wi g d) (hm : d.may = 0) (hL : d.L.length ≤ 1000000) : Calls Try.prog 18 #[.pointer (some ⟨g, 0, none⟩)] Wi fun e W' => e = .returned (.int .i64 0) ∧ Own W W' g d.sync := by
  obtain ⟨⟨s, lv, hd⟩, hB⟩ := h
  refine (sync_good hd hm hL).mono ?_
  rintro e W' ⟨h1, h2, h3⟩
  exact ⟨h1, ⟨s, _, h2.mono (fun k hk => ⟨hk.1, Nat.lt_of_lt_of_le hk.2 h3.size⟩) (fun k hk => hk)⟩, h3.below hB (fun k hk => hk.1) hB.size⟩
theorem own_sure {W Wi : World} {g : Nat} {d : Dsk} (str : ByteArray) (hstr : (⟨d.sure.toArray⟩ : ByteArray) = str) (h : Own W Wi g d) : Calls Try.prog 13 #[.pointer (some ⟨g, 0, none⟩)] Wi fun e W' => e = .returned (.string str) ∧ Own W W' g d := by
  have h' := h
  obtain ⟨⟨s, lv, hd⟩, hB⟩ := h
  exact (sure_disk str hstr hd).mono fun e W' ⟨h1, h2⟩ => ⟨h1, h'.keep h2⟩
theorem aw_meetw {ops : Array Oper} {Q' : Exit → Act → World → Prop} {a : Act} {w : World} (m : Nat) (L : Array Bool) (F : Act) {C : World → Prop} {n : Nat} {L0 : Array Bool} (h1 : (∀ W, C W → AW Try.prog ops Q' m L F W) → AW Try.prog ops Q' n L0 a w) (h2 : ∀ W, C W → AW Try.prog ops Q' m L F W) : AW Try.prog ops Q' n L0 a w := h1 h2
theorem mod_norm (n : Nat) (hn : 1 ≤ n) (s : Stp) : ∃ bN : Nat, (wOf n s).1 = bN ∧ bN < n ∧ (IntKind.i64.wrap (IntKind.u16.wrap s.b)).tmod (n : Int) = bN := by
  have h1 : IntKind.u16.wrap s.b = s.b % 65536 := by simp [IntKind.wrap, IntKind.bits, IntKind.signed]
  have h2 : IntKind.i64.wrap (s.b % 65536) = s.b % 65536 := by
    simp [IntKind.wrap, IntKind.bits, IntKind.signed]
    omega
  have h3 : 0 ≤ s.b % 65536 := Int.emod_nonneg _ (by omega)
  have h4 : 0 ≤ s.b % 65536 % (n : Int) := Int.emod_nonneg _ (by omega)
  have h5 : s.b % 65536 % (n : Int) < n := Int.emod_lt_of_pos _ (by omega)
  refine ⟨(s.b % 65536 % (n : Int)).toNat, ?_, by omega, ?_⟩
  · show s.b % 65536 % (n : Int) = _
    omega
  · rw [h1, h2, Int.tmod_eq_emod_of_nonneg h3]
    omega
def dOf (S : List (List UInt8)) (L : List (Int × List UInt8)) : Dsk := ⟨S, L, false, 0⟩
theorem dOf_done (S : List (List UInt8)) (L : List (Int × List UInt8)) : (dOf S L).done = dOf S L := rfl
theorem dOf_may (S : List (List UInt8)) (L : List (Int × List UInt8)) : (dOf S L).may = 0 := rfl
theorem dOf_there (S : List (List UInt8)) (L : List (Int × List UInt8)) (b : Int) (h0 : 0 ≤ b) (h1 : b < S.length) : (dOf S L).there b = 0 := by
  unfold Dsk.there
  rw [dOf_may, if_pos rfl, if_neg]
  show ¬ (b < 0 ∨ (S.length : Int) ≤ b)
  omega
theorem wOf_range (n : Nat) (hn : 1 ≤ n) (s : Stp) : 0 ≤ (wOf n s).1 ∧ (wOf n s).1 < (n : Int) := by
  unfold wOf
  exact ⟨Int.emod_nonneg _ (by omega), Int.emod_lt_of_pos _ (by omega)⟩
theorem dOf_len (S : List (List UInt8)) (l : List Stp) (n : Nat) (h : l.length ≤ 1000000) : (dOf S (l.map (wOf n))).L.length ≤ 1000000 := by
  show (l.map (wOf n)).length ≤ _
  rw [List.length_map]
  exact h
/-- 'append([]int{}, ps...)'. -/
theorem app_empty {W : World} {B h : Nat} (ty : TypeId) (hown : W.ownsRow B 3 1 (.slice (some ⟨h, 0, none⟩) 0 0) 0 []) (A : Option Addr) (c : Nat) (ps : List Int) (hI : IntsAt W A ps) (hA : A = none → c = 0) (hl : ps.length ≤ 1000000) (hB : B ≤ W.heap.size) :
    ∃ A' c' W', (Builtin.append_ #[33, 33] ty #[.slice (some ⟨h, 0, none⟩) 0 0, .slice A ps.length c]).run Try.prog W = .ok (.slice A' ps.length c') W' ∧ W'.ownsRow B 3 1 (.slice A' ps.length c') ps.length (ps.map (Value.int .i64)) ∧ W.grownBy W' (some h) := by
  obtain ⟨i, hi, hz, hsz, hb⟩ := info_of info3
  cases A with
  | none =>
    obtain rfl := hA rfl
    have hxs : ps = [] := by
      rcases hI with h0 | ⟨b, o, e, _⟩
      · exact h0
      · cases e
    subst hxs
    exact ⟨some ⟨h, 0, none⟩, 0, W, run_append_owned_none (P := Try.prog) (w := W) B 33 ty 3 i 1 Try.underlying33 hi _ 0 [] hown, hown, ⟨rfl, rfl, rfl, Nat.le_refl _, fun _ _ _ => rfl⟩⟩
  | some ad =>
    obtain ⟨v', W', hr, h2, h3, h4⟩ := run_append_own (P := Try.prog) W B 33 ty 3 i _ 1 8 Try.underlying33 hi hz hsz hb rfl (by omega) _ 0 [] hown ad ps.length c (ps.map (Value.int .i64)) (by simp) (fun j u hu => by
      rcases hI with h0 | ⟨b, o, e, hc⟩
      · rw [h0] at hu; simp at hu
      · obtain rfl : ad = ⟨b, o, none⟩ := Option.some.inj e
        rw [Addr.add_mid]
        rw [List.getElem?_map] at hu
        cases hp : ps[j]? with
        | none => rw [hp] at hu; simp at hu
        | some p => rw [hp] at hu; simp at hu; subst hu; exact hc j p hp) (by intro u hu; obtain ⟨p, _, rfl⟩ := List.mem_map.1 hu; rfl) (by simp [maxLen]; omega) (by omega) hB
    rw [Nat.zero_add, List.nil_append] at h2
    obtain ⟨A', c', rfl⟩ := ownsRow_form h2
    exact ⟨A', c', W', hr, h2, h3⟩
/-- A row of ints of one's own, as Crash asks it. -/
theorem picks_own {W : World} {B : Nat} {A : Option Addr} {c : Nat} {ps : List Int} (h : W.ownsRow B 3 1 (.slice A ps.length c) ps.length (ps.map (Value.int .i64))) : ps = [] ∨ ∃ b o, A = some ⟨b, o, none⟩ ∧ B ≤ b ∧ b < W.heap.size ∧ ∀ i p, ps[i]? = some p → W.cell? ⟨b, o + i, none⟩ = some (.int .i64 p) := by
  rcases h.2 with ⟨_, h0⟩ | ⟨q, cap, cur, e, hB, hq, hc, _, hs, ht⟩
  · exact .inl (List.eq_nil_of_length_eq_zero h0)
  · injection e with e1 e2 e3
    refine .inr ⟨q, 0, e1, hB, (Array.getElem?_eq_some_iff.1 hq).1, fun i p hp => ?_⟩
    have hi : i < ps.length := (List.getElem?_eq_some_iff.1 hp).1
    rw [Nat.zero_add, cell_of_row W q i _ _ _ hq, ← Array.getElem?_toList]
    have h1 : (cur.toList.take (ps.length * 1))[i]? = (ps.map (Value.int .i64))[i]? := by rw [ht]
    rw [List.getElem?_take_of_lt (by omega)] at h1
    rw [h1, List.getElem?_map, hp]
    rfl
theorem sure_size {d : Dsk} (h : d.ok) : (⟨d.sure.toArray⟩ : ByteArray).size = d.S.length * 256 := by
  have e := flatS_len h.all
  rw [flatS_bytes, byteCells_length] at e
  show d.sure.toArray.size = _
  rw [List.size_toArray]
  exact e
theorem tear_at (S : List (List UInt8)) (x : Int × List UInt8) (m b j : Nat) (v : UInt8) (hx : x.2.length = 256) (hm : m ≤ 256) (hv : ((tear S x m)[b]?.getD [])[j]? = some v) : (S[b]?.getD [])[j]? = some v ∨ (x.1.toNat = b ∧ x.2[j]? = some v) := by
  unfold tear at hv
  rw [List.getElem?_set] at hv
  by_cases hb : x.1.toNat = b
  · rw [if_pos hb] at hv
    by_cases hl : x.1.toNat < S.length
    · rw [if_pos hl] at hv
      simp only [Option.getD_some] at hv
      have hlen : (x.2.take m).length = m := by rw [List.length_take, hx]; omega
      by_cases hj : j < m
      · rw [List.getElem?_append_left (by omega), List.getElem?_take_of_lt hj] at hv
        exact .inr ⟨hb, hv⟩
      · rw [List.getElem?_append_right (by omega), List.getElem?_drop, hlen, show m + (j - m) = j by omega, List.getD_eq_getElem?_getD, hb] at hv
        exact .inl hv
    · rw [if_neg hl] at hv
      simp at hv
  · rw [if_neg hb] at hv
    exact .inl hv
theorem crash_at (b j : Nat) (v : UInt8) : ∀ (L : List (Int × List UInt8)) (ps : List Int) (S : List (List UInt8)), (∀ x ∈ L, x.2.length = 256) → ((crashS L ps S)[b]?.getD [])[j]? = some v → (S[b]?.getD [])[j]? = some v ∨ ∃ x ∈ L, x.1.toNat = b ∧ x.2[j]? = some v
  | [], _, _, _, hv => .inl hv
  | x :: L, ps, S, hL, hv => by
    rcases crash_at b j v L ps.tail (tear S x (part ps)) (fun y hy => hL y (by simp [hy])) hv with h | ⟨y, hy, h1, h2⟩
    · rcases tear_at S x (part ps) b j v (hL x (by simp)) (part_le ps) h with h | ⟨h1, h2⟩
      · exact .inl h
      · exact .inr ⟨x, by simp, h1, h2⟩
    · exact .inr ⟨y, by simp [hy], h1, h2⟩
theorem flat_byte {S : List (List UInt8)} (h : ∀ x ∈ S, x.length = 256) (k : Nat) : S.flatten[k]? = (S[k / 256]?.getD [])[k % 256]? := by
  have hj : k % 256 < 256 := Nat.mod_lt _ (by omega)
  have hk : k / 256 * 256 + k % 256 = k := by omega
  have hlen : S.flatten.length = S.length * 256 := by
    have e := flatS_len h
    rw [flatS_bytes, byteCells_length] at e
    exact e
  cases hx : S[k / 256]? with
  | none =>
    have h1 : S.length ≤ k / 256 := by rw [List.getElem?_eq_none_iff] at hx; exact hx
    rw [List.getElem?_eq_none (by rw [hlen]; have := Nat.mul_le_mul_right 256 h1; omega)]
    rfl
  | some x =>
    have := flat_at 256 S h (k / 256) x hx (k % 256) hj
    rw [hk] at this
    exact this
theorem crash_all : ∀ (L : List (Int × List UInt8)) (ps : List Int) (S : List (List UInt8)), (∀ x ∈ L, x.2.length = 256 ∧ x.1.toNat < S.length) → (∀ y ∈ S, y.length = 256) → ∀ y ∈ crashS L ps S, y.length = 256
  | [], _, _, _, h => h
  | x :: L, ps, S, hL, h => crash_all L ps.tail _ (fun y hy => ⟨(hL y (by simp [hy])).1, by rw [tear_len]; exact (hL y (by simp [hy])).2⟩) (tear_all h (hL x (by simp)).1 (hL x (by simp)).2 (part_le ps))
theorem keeps_pure (n : Nat) (hn : 1 ≤ n) (l2 : List Stp) (ps : List Int) (S1 : List (List UInt8)) (ha : ∀ x ∈ S1, x.length = 256) (hl : S1.length = n) (was now : ByteArray) (h1 : (⟨(dOf S1 []).sure.toArray⟩ : ByteArray) = was) (h2 : (⟨(dOf (crashS (l2.map (wOf n)) ps S1) []).sure.toArray⟩ : ByteArray) = now) :
    ∀ (k : Nat) (v : UInt8), now.data[k]? = some v → was.data[k]? = some v ∨ ∃ (i : Nat) (s : Stp), l2[i]? = some s ∧ (wOf n s).1 = ((k / 256 : Nat) : Int) ∧ UInt8.ofNat s.c.toNat = v := by
  intro k v hv
  subst h1 h2
  have hv' : (crashS (l2.map (wOf n)) ps S1).flatten[k]? = some v := by simpa [Dsk.sure, dOf] using hv
  have hok : ∀ x ∈ l2.map (wOf n), x.2.length = 256 ∧ x.1.toNat < S1.length := by
    intro x hx
    obtain ⟨s, _, rfl⟩ := List.mem_map.1 hx
    have := wOf_range n hn s
    exact ⟨oneByte_len _, by omega⟩
  rw [flat_byte (crash_all _ _ _ hok ha)] at hv'
  rcases crash_at _ _ v _ _ _ (fun x hx => (hok x hx).1) hv' with h | ⟨x, hx, h3, h4⟩
  · left
    have : S1.flatten[k]? = some v := by rw [flat_byte ha]; exact h
    simpa [Dsk.sure, dOf] using this
  · right
    obtain ⟨s, hs, rfl⟩ := List.mem_map.1 hx
    obtain ⟨i, hi⟩ := List.mem_iff_getElem?.1 hs
    have hr := wOf_range n hn s
    refine ⟨i, s, hi, by omega, ?_⟩
    have h5 : (oneByte s.c)[k % 256]? = some v := h4
    unfold oneByte at h5
    rw [List.getElem?_replicate] at h5
    split at h5
    · exact Option.some.inj h5
    · cases h5
theorem u16_wrap (b : Int) : IntKind.u16.wrap b = b % 65536 := by simp [IntKind.wrap, IntKind.bits, IntKind.signed]


end Go.Proofs.Ytbobbekbliichaa
