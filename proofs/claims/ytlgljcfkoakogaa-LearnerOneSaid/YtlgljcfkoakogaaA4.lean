import Derived.Test.YtlgljcfkoakogaaA3
namespace Go.Proofs.Ytlgljcfkoakogaa
open Go.RowKit
set_option linter.unusedSimpArgs false
set_option linter.unusedVariables false

theorem cmpB_above (r n r' n' : Int) : cmpB r n r' n' ≤ 0 ↔ aboveB r n r' n' = false := by
  unfold cmpB orI cmpI aboveB
  by_cases h1 : r < r'
  · simp [h1]; omega
  · by_cases h2 : r' < r
    · simp [h1, h2]
    · have : r = r' := by omega
      subst this
      by_cases h3 : n < n'
      · simp [h3]; omega
      · by_cases h4 : n' < n
        · simp [h3, h4]
        · simp [h3, h4]

/-- A slice that reads as a list of whole numbers. -/
def IntsAt (w : World) (A : Option Addr) (xs : List Int) : Prop :=
  xs = [] ∨ ∃ b o, A = some ⟨b, o, none⟩ ∧ ∀ j, j < xs.length → w.cell? ⟨b, o + j, none⟩ = some (.int .i64 (xs.getD j 0))
theorem IntsAt.below {w w' : World} {A : Option Addr} {xs : List Int} (h : IntsAt w A xs) (hb : Below w.heap.size w w') : IntsAt w' A xs := by
  rcases h with h | ⟨b, o, rfl, h⟩
  · exact .inl h
  · refine .inr ⟨b, o, rfl, fun j hj => ?_⟩
    have h1 := h j hj
    rw [hb.cell (p := ⟨b, o + j, none⟩) (World.block_lt_of_cell? w _ h1)]; exact h1

/-- How many of 0 .. m - 1 are in the list. -/
def cnt (xs : List Int) : Nat → Int
  | 0 => 0
  | m + 1 => cnt xs m + (if (m : Int) ∈ xs then 1 else 0)
theorem cnt_range (xs : List Int) (m : Nat) : 0 ≤ cnt xs m ∧ cnt xs m ≤ m := by
  induction m with
  | zero => simp [cnt]
  | succ m ih => simp only [cnt]; split <;> omega
theorem cnt_stop {xs : List Int} {n : Nat} (h : ∀ v ∈ xs, v < (n : Int)) (d : Nat) : cnt xs (n + d) = cnt xs n := by
  induction d with
  | zero => rfl
  | succ d ih =>
    show cnt xs (n + d) + (if ((n + d : Nat) : Int) ∈ xs then 1 else 0) = _
    rw [if_neg (fun hm => by have := h _ hm; omega), ih]; omega
/-- Is it in the list? -/
def inB (xs : List Int) (i : Int) : Bool := decide (i ∈ xs)
theorem inB_nil (i : Int) : inB [] i = false := by simp [inB]
theorem inB_snoc (xs : List Int) (k : Nat) (hk : k < xs.length) (i : Int) : inB (xs.take (k + 1)) i = (inB (xs.take k) i || (xs.getD k 0 == i)) := by
  unfold inB
  rw [List.take_succ_eq_append_getElem hk]
  have e : xs.getD k 0 = xs[k] := by simp [List.getD_eq_getElem?_getD, hk]
  rw [e, Bool.eq_iff_iff]
  simp only [List.mem_append, List.mem_singleton, decide_eq_true_eq, Bool.or_eq_true, beq_iff_eq]
  constructor <;> (rintro (h | h); exact .inl h; exact .inr h.symm)
theorem inB_all (xs : List Int) (k : Nat) (h : xs.length ≤ k) (i : Int) : inB (xs.take k) i = inB xs i := by rw [List.take_of_length_le h]
theorem cnt_succ (xs : List Int) (m : Nat) : cnt xs (m + 1) = cnt xs m + (if inB xs m = true then 1 else 0) := by simp [cnt, inB]

set_option maxHeartbeats 400000 in
theorem refMajority_any (n : Int) (w : World) (h1 : 1 ≤ n) (h7 : n ≤ 7) : Calls Try.prog 26 #[.int .i64 n] w fun e w' => e = .returned (.int .i64 (n / 2 + 1)) ∧ w = w' := by
  go_enter Try.func26, Try.ntmps26
  go_wp2
  go_loop [3] (fun i => ∃ k : Int, 0 ≤ k ∧ k ≤ n / 2 + 1 ∧ i = .int .i64 k) (fun i => (10 - intOf i).toNat)
  case atStart => exact ⟨0, by omega, by omega, rfl⟩
  case round =>
    obtain ⟨k, hk0, hk, rfl⟩ := hrel
    have hk7 : k ≤ 4 := by omega
    by_cases hlt : 2 * k ≤ n
    · have hk2 : k + 1 ≤ n / 2 + 1 := by omega
      clear hk
      have HK := Lib.hid hk2
      clear hk2
      go_wp2
      go_round
      case rel => exact ⟨k + 1, by omega, HK.out, by go_num⟩
      case measure => simp [intOf]; omega
    · have hk2 : k = n / 2 + 1 := by omega
      have HK := Lib.hid hk2
      clear hk2 hk
      go_wp2
      go_ret
      exact ⟨by rw [← HK.out]; rfl, rfl⟩

/-- The document's quorum. -/
def quoB (xs : List Int) (n : Int) : Bool := decide (n / 2 + 1 ≤ cnt xs n.toNat)

set_option maxHeartbeats 1600000 in
theorem refQuorum_any (A : Option Addr) (cap : Nat) (xs : List Int) (n : Int) (w : World) (h1 : 1 ≤ n) (h7 : n ≤ 7) (hx : IntsAt w A xs) (hl : xs.length ≤ 140737488351232) :
    Calls Try.prog 27 #[.slice A xs.length cap, .int .i64 n] w fun e w' => e = .returned (.bool (quoB xs n)) ∧ w = w' := by
  have HX := Lib.hid hx
  clear hx
  go_enter Try.func27, Try.ntmps27
  go_wp2
  go_loop [5, 6, 7, 8] (fun c i _ _ => ∃ k : Nat, (k : Int) ≤ n ∧ i = .int .i64 k ∧ c = .int .i64 (cnt xs k)) (fun _ i _ _ => (10 - intOf i).toNat)
  case atStart => exact ⟨0, by omega, rfl, rfl⟩
  case round =>
    obtain ⟨k, hk, rfl, rfl⟩ := hrel
    have hc := cnt_range xs k
    have hc0 := hc.1
    have hc7 : cnt xs k ≤ 7 := by have := hc.2; omega
    have hk7 : k ≤ 7 := by omega
    clear hc
    by_cases hlt : (k : Int) < n
    · go_wp2
      go_loop [7, 8] (fun h j => ∃ q : Nat, q ≤ xs.length ∧ j = .int .i64 q ∧ h = .bool (inB (xs.take q) k)) (fun _ j => xs.length - (intOf j).toNat)
      case atStart => exact ⟨0, by omega, rfl, by rw [List.take_zero, inB_nil]⟩
      case round =>
        obtain ⟨q, hq, rfl, rfl⟩ := hrel
        by_cases hlq : q < xs.length
        · have HS := Lib.hid (inB_snoc xs q hlq k)
          rcases HX.out with h0 | ⟨b, o, rfl, hcell⟩
          · rw [h0] at hlq; simp at hlq
          · have hcq := hcell q hlq
            clear hcell
            cases hb : inB (xs.take q) k
            · go_wp2
              go_round
              case rel => exact ⟨q + 1, by omega, by go_num, by rw [HS.out, hb]; simp [List.getD_eq_getElem?_getD, hlq]⟩
              case measure => simp [intOf]; omega
            · go_wp2
              go_round
              case rel => exact ⟨q + 1, by omega, by go_num, by rw [HS.out, hb]; simp [List.getD_eq_getElem?_getD, hlq]⟩
              case measure => simp [intOf]; omega
        · have HA := Lib.hid (inB_all xs q (by omega) k)
          have HC := Lib.hid (cnt_succ xs k)
          cases hb : inB (xs.take q) k
          · go_wp2
            go_round
            case rel => exact ⟨k + 1, by omega, by go_num, by rw [HC.out, ← HA.out, hb]; simp⟩
            case measure => simp [intOf]; omega
          · go_wp2
            go_round
            case rel => exact ⟨k + 1, by omega, by go_num, by rw [HC.out, ← HA.out, hb]; simp⟩
            case measure => simp [intOf]; omega
    · have HK := Lib.hid (show n.toNat = k by omega)
      go_wp2_with (go_at_call 26; refine (refMajority_any _ _ (by omega) (by omega)).mono ?_; rintro e w' ⟨rfl, rfl⟩)
      go_ret
      exact ⟨by unfold quoB; rw [HK.out]; simp, rfl⟩

end Go.Proofs.Ytlgljcfkoakogaa
