import Derived.Test.YtbobbekbliichaaE16
namespace Go.Proofs.Ytbobbekbliichaa
open Go.RowKit
set_option linter.unusedSimpArgs false
set_option linter.unusedVariables false


/-- Some disks apart from each other, and a row of ints of the law's own, apart from them. -/
structure FleetBy (B : Nat) (Fs : Nat → Nat → Prop) (W : World) (G : List (Nat × Dsk)) (v : Value) (n : Nat) (xs : List Value) : Prop where
  disk : ∀ i g d, G[i]? = some (g, d) → DiskHas B (Fs i) W g d
  apart : ∀ i j, i < G.length → j < G.length → i ≠ j → ∀ k, Fs i k → ¬ Fs j k
  row : W.ownsRow B 3 1 v n xs
  off : ∀ k, v.ownBlock = some k → ∀ i, i < G.length → ¬ Fs i k
  base : B ≤ W.heap.size
def Fleet (B : Nat) (W : World) (G : List (Nat × Dsk)) (v : Value) (n : Nat) (xs : List Value) : Prop := ∃ Fs, FleetBy B Fs W G v n xs
theorem ownsRow_lt {W : World} {B : Nat} {e : TypeId} {size : Nat} {v : Value} {n : Nat} {xs : List Value} (h : W.ownsRow B e size v n xs) {k : Nat} (hk : v.ownBlock = some k) : k < W.heap.size ∧ B ≤ k := by
  rcases h.2 with ⟨rfl, rfl⟩ | ⟨g, cap, cur, rfl, hB, hg, _⟩
  · simp [Value.ownBlock] at hk
  · simp [Value.ownBlock] at hk
    subst hk
    exact ⟨(Array.getElem?_eq_some_iff.1 hg).1, hB⟩
section
variable {B : Nat} {W W' : World} {G : List (Nat × Dsk)} {v : Value} {n : Nat} {xs : List Value}
theorem DiskHas.low {F : Nat → Prop} {g : Nat} {d : Dsk} (h : DiskHas B F W g d) : ∀ k, F k → B ≤ k ∧ k < W.heap.size := by
  obtain ⟨s, lv, h⟩ := h
  exact h.low
theorem DiskHas.kept {F F' : Nat → Prop} {g : Nat} {d : Dsk} (h : DiskHas B F W g d) (hk : Kept F' W W') (hd : ∀ k, F k → ¬ F' k) : DiskHas B F W' g d := by
  obtain ⟨s, lv, h⟩ := h
  exact ⟨s, lv, h.kept hk hd⟩
theorem DiskHas.bel {F : Nat → Prop} {g : Nat} {d : Dsk} (h : DiskHas B F W g d) (hb : Below W.heap.size W W') : DiskHas B F W' g d := by
  obtain ⟨s, lv, h⟩ := h
  exact ⟨s, lv, h.bel hb⟩
theorem FleetBy.low {Fs : Nat → Nat → Prop} (h : FleetBy B Fs W G v n xs) : ∀ j, j < G.length → ∀ k, Fs j k → B ≤ k ∧ k < W.heap.size := fun j hj => by
  obtain ⟨⟨gj, dj⟩, hG⟩ : ∃ x, G[j]? = some x := ⟨_, List.getElem?_eq_getElem hj⟩
  exact (h.disk j gj dj hG).low
theorem Fleet.keep (h : Fleet B W G v n xs) (hb : Below W.heap.size W W') : Fleet B W' G v n xs := by
  obtain ⟨Fs, h⟩ := h
  exact ⟨Fs, fun i g d hi => (h.disk i g d hi).bel hb, h.apart, ownsRow_bel h.row hb, h.off, Nat.le_trans h.base hb.size⟩
/-- What one disk does leaves the others. -/
theorem FleetBy.step {Fs : Nat → Nat → Prop} (h : FleetBy B Fs W G v n xs) {i g : Nat} {d d' : Dsk} (hi : G[i]? = some (g, d)) (hd : DiskHas B (Grow (Fs i) W W') W' g d') (hk : Kept (Fs i) W W') :
    Fleet B W' (G.set i (g, d')) v n xs ∧ Below B W W' := by
  have hil : i < G.length := (List.getElem?_eq_some_iff.1 hi).1
  have hlow : ∀ j, j < G.length → ∀ k, Fs j k → B ≤ k ∧ k < W.heap.size := h.low
  refine ⟨⟨fun j => if j = i then Grow (Fs i) W W' else Fs j, ?_, ?_, ?_, ?_, Nat.le_trans h.base hk.size⟩, hk.below (Below.refl B W) (fun k hf => (hlow i hil k hf).1) h.base⟩
  · intro j gj dj hj
    by_cases e : j = i
    · subst e
      rw [List.getElem?_set_self hil] at hj
      injection hj with hj
      injection hj with h1 h2
      subst h1 h2
      simp only [if_pos]
      exact hd
    · rw [List.getElem?_set_ne (Ne.symm e)] at hj
      simp only [if_neg e]
      have hjl : j < G.length := (List.getElem?_eq_some_iff.1 hj).1
      exact (h.disk j gj dj hj).kept hk (h.apart j i hjl hil e)
  · intro j m hj hm hjm k hf
    rw [List.length_set] at hj hm
    by_cases e : j = i
    · subst e
      simp only [if_pos] at hf
      simp only [if_neg (Ne.symm hjm)]
      rcases hf with hf | hf
      · exact h.apart j m hj hm hjm k hf
      · intro h2; have := (hlow m hm k h2).2; have := hf.1; omega
    · simp only [if_neg e] at hf
      by_cases e2 : m = i
      · subst e2
        simp only [if_pos]
        intro h2
        rcases h2 with h2 | h2
        · exact h.apart j m hj hm hjm k hf h2
        · have := (hlow j hj k hf).2; have := h2.1; omega
      · simp only [if_neg e2]
        exact h.apart j m hj hm hjm k hf
  · exact ownsRow_kept h.row fun k hk' hlt => hk.block k hlt (h.off k hk' i hil)
  · intro k hk' j hj
    rw [List.length_set] at hj
    by_cases e : j = i
    · subst e
      simp only [if_pos]
      intro h2
      rcases h2 with h2 | h2
      · exact h.off k hk' j hj h2
      · have := (ownsRow_lt h.row hk').1; have := h2.1; omega
    · simp only [if_neg e]
      exact h.off k hk' j hj
theorem fleet_new (m : Nat) (h1 : 1 ≤ m) (h2 : m ≤ 4096) (h : Fleet B W G v n xs) : Calls Try.prog 9 #[.int .i64 m] W fun e W' => e = .returned (.tuple #[.pointer (some ⟨W.heap.size + 1, 0, none⟩), .int .i64 0]) ∧ Fleet B W' (G ++ [(W.heap.size + 1, newDsk m)]) v n xs ∧ Below W.heap.size W W' := by
  refine (new_good m h1 h2 W).mono ?_
  rintro e W' ⟨h1, hb, hD⟩
  obtain ⟨Fs, h⟩ := h
  have hlow : ∀ j, j < G.length → ∀ k, Fs j k → B ≤ k ∧ k < W.heap.size := h.low
  refine ⟨h1, ⟨fun j => if j < G.length then Fs j else Fresh W W', ?_, ?_, ownsRow_bel h.row hb, ?_, Nat.le_trans h.base hb.size⟩, hb⟩
  · intro j gj dj hj
    by_cases e : j < G.length
    · rw [List.getElem?_append_left e] at hj
      simp only [if_pos e]
      exact (h.disk j gj dj hj).bel hb
    · rw [List.getElem?_append_right (by omega)] at hj
      simp only [if_neg e]
      have e2 : j - G.length = 0 := by
        have := (List.getElem?_eq_some_iff.1 hj).1
        simp at this
        exact this
      rw [e2] at hj
      simp at hj
      obtain ⟨rfl, rfl⟩ := hj
      exact ⟨_, _, ⟨hD.ok, hD.hg, hD.hs, hD.hl, hD.sg, hD.lg, hD.ls, fun k hk => ⟨Nat.le_trans h.base hk.1, hk.2⟩, hD.at_g, hD.at_s, by
        obtain ⟨h4, h5⟩ := hD.at_l
        rcases h5 with h5 | ⟨g, cap, cur, e, hB, h6⟩
        · exact ⟨h4, .inl h5⟩
        · exact ⟨h4, .inr ⟨g, cap, cur, e, Nat.le_trans h.base hB, h6⟩⟩⟩⟩
  · intro j m hj hm hjm k hf
    rw [List.length_append, List.length_singleton] at hj hm
    by_cases e : j < G.length
    · simp only [if_pos e] at hf
      by_cases e2 : m < G.length
      · simp only [if_pos e2]; exact h.apart j m e e2 hjm k hf
      · simp only [if_neg e2]
        intro h2
        have := (hlow j e k hf).2; have := h2.1; omega
    · simp only [if_neg e] at hf
      by_cases e2 : m < G.length
      · simp only [if_pos e2]
        intro h2
        have := (hlow m e2 k h2).2; have := hf.1; omega
      · omega
  · intro k hk j hj
    rw [List.length_append, List.length_singleton] at hj
    by_cases e : j < G.length
    · simp only [if_pos e]; exact h.off k hk j e
    · simp only [if_neg e]
      intro h2
      have := (ownsRow_lt h.row hk).1; have := h2.1; omega
theorem fleet_write (i g : Nat) {d : Dsk} (b : Int) (str : ByteArray) (bs : List UInt8) (h : Fleet B W G v n xs) (hi : G[i]? = some (g, d)) (hb : d.there b = 0) (hs : bs.length = 256) (hbs : str.data.toList = bs) (hL : d.L.length ≤ 1000000) :
    Calls Try.prog 16 #[.pointer (some ⟨g, 0, none⟩), .int .i64 b, .string str] W fun e W' => e = .returned (.int .i64 0) ∧ Fleet B W' (G.set i (g, d.done.add b bs)) v n xs ∧ Below B W W' := by
  obtain ⟨Fs, h⟩ := h
  obtain ⟨s, lv, hd⟩ := h.disk i g d hi
  refine (write_good b str bs hd hb (by rw [← hs, ← hbs]; rfl) hbs hL).mono ?_
  rintro e W' ⟨h1, h2, h3⟩
  exact ⟨h1, h.step hi h2 h3⟩
theorem grow_of {F : Nat → Prop} {g s : Nat} {lv : Value} {d : Dsk} (h : DiskIn B F W' g s lv d) (hb : B ≤ W.heap.size) : DiskHas B (Grow F W W') W' g d :=
  ⟨s, lv, h.mono (fun k hk => .inl hk) (fun k hk => by
    rcases hk with hk | hk
    · exact h.low k hk
    · exact ⟨Nat.le_trans hb hk.1, hk.2⟩)⟩
theorem fleet_sync (i g : Nat) {d : Dsk} (h : Fleet B W G v n xs) (hi : G[i]? = some (g, d)) (hm : d.may = 0) (hL : d.L.length ≤ 1000000) :
    Calls Try.prog 18 #[.pointer (some ⟨g, 0, none⟩)] W fun e W' => e = .returned (.int .i64 0) ∧ Fleet B W' (G.set i (g, d.sync)) v n xs ∧ Below B W W' := by
  obtain ⟨Fs, h⟩ := h
  obtain ⟨s, lv, hd⟩ := h.disk i g d hi
  refine (sync_good hd hm hL).mono ?_
  rintro e W' ⟨h1, h2, h3⟩
  exact ⟨h1, h.step hi (grow_of h2 h.base) h3⟩
theorem fleet_sure (i g : Nat) {d : Dsk} (str : ByteArray) (hstr : (⟨d.sure.toArray⟩ : ByteArray) = str) (h : Fleet B W G v n xs) (hi : G[i]? = some (g, d)) :
    Calls Try.prog 13 #[.pointer (some ⟨g, 0, none⟩)] W fun e W' => e = .returned (.string str) ∧ Below W.heap.size W W' := by
  obtain ⟨Fs, h⟩ := h
  obtain ⟨s, lv, hd⟩ := h.disk i g d hi
  exact sure_disk str hstr hd
/-- A crash without picks. -/
theorem fleet_crash0 (i g : Nat) {d : Dsk} (h : Fleet B W G v n xs) (hi : G[i]? = some (g, d)) (hL : d.L.length ≤ 1000000) :
    Calls Try.prog 19 #[.pointer (some ⟨g, 0, none⟩), .slice none 0 0] W fun e W' => e = .returned (.int .i64 0) ∧ Fleet B W' (G.set i (g, d.crash [])) v n xs ∧ Below B W W' := by
  obtain ⟨Fs, h⟩ := h
  obtain ⟨s, lv, hd⟩ := h.disk i g d hi
  refine (crash_disk (F := Fs i) none 0 [] hd hL (.inl rfl) (by simp)).mono ?_
  rintro e W' ⟨h1, h2, h3⟩
  exact ⟨h1, h.step hi (grow_of h2 h.base) h3⟩
/-- A crash by the row. -/
theorem fleet_crash (i g : Nat) {d : Dsk} {A : Option Addr} {c : Nat} {ps : List Int} (h : Fleet B W G (.slice A ps.length c) ps.length (ps.map (Value.int .i64))) (hi : G[i]? = some (g, d)) (hL : d.L.length ≤ 1000000) (hpl : ps.length ≤ 1000000) :
    Calls Try.prog 19 #[.pointer (some ⟨g, 0, none⟩), .slice A ps.length c] W fun e W' => e = .returned (.int .i64 0) ∧ Fleet B W' (G.set i (g, d.crash ps)) (.slice A ps.length c) ps.length (ps.map (Value.int .i64)) ∧ Below B W W' := by
  obtain ⟨Fs, h⟩ := h
  obtain ⟨s, lv, hd⟩ := h.disk i g d hi
  have hil : i < G.length := (List.getElem?_eq_some_iff.1 hi).1
  have hp : PicksAt (Fs i) W A ps := by
    rcases picks_own h.row with h0 | ⟨b, o, e, h1, h2, h3⟩
    · exact .inl h0
    · exact .inr ⟨b, o, e, h.off b (by rw [e]; rfl) i hil, h2, h3⟩
  refine (crash_disk (F := Fs i) A c ps hd hL hp hpl).mono ?_
  rintro e W' ⟨h1, h2, h3⟩
  exact ⟨h1, h.step hi (grow_of h2 h.base) h3⟩
/-- The row grows by one int; the disks stand. -/
theorem fleet_append {Wi : World} (ty : TypeId) (ad : Addr) (p : Int) (hn : n ≤ 1000000) (h : Fleet B Wi G v n xs) (hc : Wi.cell? ad = some (.int .i64 p)) :
    ∃ v' W', (Builtin.append_ #[33, 33] ty #[v, .slice (some ad) 1 1]).run Try.prog Wi = .ok v' W' ∧ Fleet B W' G v' (n + 1) (xs ++ [.int .i64 p]) ∧ Below B Wi W' := by
  obtain ⟨Fs, h⟩ := h
  have hlow : ∀ j, j < G.length → ∀ k, Fs j k → B ≤ k ∧ k < Wi.heap.size := h.low
  obtain ⟨v', W', hr, ho, hg⟩ := app33 ty ad p hn h.row hc h.base
  obtain ⟨i, hi, hz, hsz, hb⟩ := info_of info3
  obtain ⟨q, cap, rfl, hwh⟩ := append_where (P := Try.prog) Wi B 33 ty 3 i _ Try.underlying33 hi hz v n xs (by rw [hsz]; exact h.row) ad 1 1 [.int .i64 p] (by rw [hsz]; rfl) (fun j u hu => by
    cases j with
    | zero =>
      simp at hu
      subst hu
      have : ad.add 0 = ad := by unfold Addr.add; split <;> simp_all
      rw [this]; exact hc
    | succ j => simp at hu) (by simp [Value.oneCell']) (by omega) (by simp [maxLen]; omega) (by rw [hb]; omega) v' W' hr
  have hk : Kept (fun k => v.ownBlock = some k) Wi W' := .of_grown hg (fun k hk => hk)
  refine ⟨_, W', hr, ⟨Fs, fun j g d hj => ?_, h.apart, ho, fun k hk' j hj => ?_, Nat.le_trans h.base hg.size⟩, hk.below (Below.refl B Wi) (fun k hf => (ownsRow_lt h.row hf).2) h.base⟩
  · exact (h.disk j g d hj).kept hk (fun k hf e => h.off k e j (List.getElem?_eq_some_iff.1 hj).1 hf)
  · have hkq : q = k := by simpa [Value.ownBlock] using hk'
    subst hkq
    rcases hwh with e | e
    · exact h.off q e j hj
    · intro h2
      have := (hlow j hj q h2).2
      omega
end

end Go.Proofs.Ytbobbekbliichaa
