import Derived.Test.YtlgljcfkoakogaaL7
namespace Go.Proofs.Ytlgljcfkoakogaa
open Go.RowKit
set_option linter.unusedSimpArgs false
set_option linter.unusedVariables false


/-- What is heard in LearnerOrder: who has spoken, and the learner. -/
structure OrdAt (N : Nat) (r n : Int) (v : ByteArray) (hs : List Bool) (L : Lrn) : Prop where
  len : hs.length = N
  hn : L.n = N
  known : L.known = decide ((N : Int) < 2 * (hs.count true : Int))
  val : L.known = true → L.val = v
  f : L.known = false → ∀ y : Int, L.f y = if 0 ≤ y ∧ y < N ∧ hs.getD y.toNat false = true then some (r, n, v) else none
theorem ord_start (N : Nat) (r n : Int) (v : ByteArray) : OrdAt N r n v (List.replicate N false) (lrnNew N) := by
  have h0 : (List.replicate N false).count true = 0 := List.count_replicate.trans (by simp)
  refine ⟨by simp, rfl, ?_, (fun h => by cases h), (fun _ y => ?_)⟩
  · rw [h0]
    show false = _
    simp
  · show none = _
    rw [if_neg]
    rintro ⟨_, _, h⟩
    simp [List.getD_eq_getElem?_getD, List.getElem?_replicate] at h
    split at h <;> simp at h
theorem cnt_bools {xs : List Int} {hs : List Bool} (h : ∀ k, k < hs.length → ((k : Int) ∈ xs ↔ hs.getD k false = true)) : ∀ m, m ≤ hs.length → cnt xs m = ((hs.take m).count true : Int) := by
  intro m
  induction m with
  | zero => intro _; simp [cnt]
  | succ m ih =>
    intro hm
    have hm' : m < hs.length := by omega
    rw [List.take_add_one, List.count_append]
    simp only [cnt]
    rw [ih (by omega)]
    have hg : hs[m]? = some (hs.getD m false) := by simp [List.getD_eq_getElem?_getD, List.getElem?_eq_getElem hm']
    rw [hg]
    by_cases hx : (m : Int) ∈ xs
    · rw [if_pos hx, (h m hm').1 hx]
      simp
    · have : hs.getD m false = false := by
        cases hb : hs.getD m false with
        | true => exact absurd ((h m hm').2 hb) hx
        | false => rfl
      rw [if_neg hx, this]
      simp
theorem count_put {hs : List Bool} {k : Nat} (hk : k < hs.length) : (hs.set k true).count true = hs.count true + (if hs.getD k false = true then 0 else 1) := by
  rw [List.count_set hk]
  have hg : hs.getD k false = hs[k] := by simp [List.getD_eq_getElem?_getD, List.getElem?_eq_getElem hk]
  rw [hg]
  cases hb : hs[k] with
  | true =>
    have : 0 < hs.count true := List.count_pos_iff.2 (by rw [← hb]; exact List.getElem_mem hk)
    simp
    omega
  | false => simp
theorem getD_put {hs : List Bool} {k j : Nat} (hk : k < hs.length) : (hs.set k true).getD j false = if j = k then true else hs.getD j false := by
  rw [List.getD_eq_getElem?_getD, List.getD_eq_getElem?_getD, List.getElem?_set]
  by_cases e : k = j
  · subst e
    simp [hk]
  · simp [e, Ne.symm e]
theorem ord_step {N : Nat} {r n x : Int} {v : ByteArray} {hs : List Bool} {L : Lrn} (h : OrdAt N r n v hs L) (h1 : 1 ≤ N) (h7 : N ≤ 7) (x0 : 0 ≤ x) (xN : x < N) (hn : namedB r n = true) (hv : ¬ 8192 < v.size) :
    (lAcc L x r n v).2.1 = 0 ∧ (lAcc L x r n v).1 = ((lAcc L x r n v).2.2.known && !L.known) ∧ OrdAt N r n v (hs.set x.toNat true) (lAcc L x r n v).2.2 ∧ (lAcc L x r n v).2.2.nn ≤ L.nn + 1 := by
  have hk : x.toNat < hs.length := by rw [h.len]; omega
  have hcp := count_put hk
  have hlen : (hs.set x.toNat true).length = N := by rw [List.length_set]; exact h.len
  have hLn := h.hn
  unfold lAcc
  rw [if_neg (by simp only [Decidable.not_not]; exact ⟨x0, by omega, hn⟩), if_neg hv]
  by_cases hkn : L.known = true
  · rw [if_pos hkn]
    refine ⟨rfl, by simp [hkn], ⟨hlen, h.hn, ?_, h.val, fun e => by rw [hkn] at e; cases e⟩, Nat.le_succ _⟩
    have := h.known
    rw [hkn] at this ⊢
    have h2 := of_decide_eq_true this.symm
    symm
    rw [decide_eq_true_eq, hcp]
    omega
  · have hkf : L.known = false := by simpa using hkn
    rw [if_neg hkn]
    have hf := h.f hkf
    by_cases hb : hs.getD x.toNat false = true
    · have hfx : L.f x = some (r, n, v) := by rw [hf x, if_pos ⟨x0, xN, hb⟩]
      have hold : oldB (L.f x) r n = true := by
        rw [hfx]
        unfold oldB
        have := cmpB_sym r n r n
        simp
        omega
      have hset : hs.set x.toNat true = hs := by
        apply List.ext_getElem?
        intro j
        rw [List.getElem?_set]
        by_cases e : x.toNat = j
        · subst e
          rw [if_pos rfl, if_pos hk, List.getElem?_eq_getElem hk]
          rw [List.getD_eq_getElem?_getD, List.getElem?_eq_getElem hk] at hb
          simp at hb
          rw [hb]
        · rw [if_neg e]
      rw [if_pos hold, hset]
      exact ⟨rfl, by simp [hkf], h, Nat.le_succ _⟩
    · have hbf : hs.getD x.toNat false = false := by simpa using hb
      have hfx : L.f x = none := by rw [hf x, if_neg (fun e => hb e.2.2)]
      rw [if_neg (by rw [hfx]; simp [oldB])]
      have hoth : ¬ otherB L.f r n v = true := by
        rw [otherB_iff]
        rintro ⟨y, u, _, hy, hu⟩
        rw [hf y] at hy
        split at hy
        · simp at hy; exact hu hy.symm
        · cases hy
      have hmem : ∀ k, k < (hs.set x.toNat true).length → ((k : Int) ∈ voters (putF L.f x (r, n, v)) r n ↔ (hs.set x.toNat true).getD k false = true) := by
        intro k hkl
        rw [hlen] at hkl
        rw [voters_mem, getD_put hk]
        unfold putF
        by_cases e : k = x.toNat
        · have e' : (k : Int) = x := by omega
          rw [if_pos e, if_pos e']
          simp
          omega
        · have e' : ¬ (k : Int) = x := by omega
          rw [if_neg e, if_neg e', hf (k : Int)]
          constructor
          · rintro ⟨_, u, hu⟩
            split at hu
            · rename_i hh; simpa using hh.2.2
            · cases hu
          · intro hh
            exact ⟨by omega, v, if_pos ⟨by omega, by omega, by simpa using hh⟩⟩
      have hcnt : cnt (voters (putF L.f x (r, n, v)) r n) N = ((hs.set x.toNat true).count true : Int) := by
        have := cnt_bools hmem N (by omega)
        rw [List.take_of_length_le (by omega)] at this
        exact this
      have hq : quoB (voters (putF L.f x (r, n, v)) r n) L.n = decide ((N : Int) < 2 * ((hs.set x.toNat true).count true : Int)) := by
        unfold quoB
        rw [hLn, Int.toNat_natCast, hcnt]
        apply decide_eq_decide.2
        omega
      rw [lNew_eq hoth hq]
      refine ⟨rfl, by simp [hkf], ⟨hlen, hLn, rfl, fun e => by dsimp only at e ⊢; rw [if_pos e], fun _ y => ?_⟩, by simp⟩
      show putF L.f x (r, n, v) y = _
      unfold putF
      by_cases e : y = x
      · subst e
        rw [if_pos rfl, if_pos ⟨x0, xN, by rw [getD_put hk, if_pos rfl]⟩]
      · rw [if_neg e, hf y]
        by_cases hy : 0 ≤ y
        · have e' : ¬ y.toNat = x.toNat := by omega
          rw [getD_put hk, if_neg e']
        · rw [if_neg (by omega), if_neg (by omega)]

end Go.Proofs.Ytlgljcfkoakogaa
