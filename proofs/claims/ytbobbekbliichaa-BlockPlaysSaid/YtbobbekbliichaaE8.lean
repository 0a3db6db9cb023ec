import Derived.Test.YtbobbekbliichaaE7
namespace Go.Proofs.Ytbobbekbliichaa
open Go.RowKit
set_option linter.unusedSimpArgs false
set_option linter.unusedVariables false


open Go.Lib (byteCells byteCells_length byteCells_one)
theorem flat_splice {α : Type} (n : Nat) : ∀ (L : List (List α)), (∀ x ∈ L, x.length = n) → ∀ (i : Nat) (x a : List α), L[i]? = some x → a.length ≤ n →
    L.flatten.take (i * n) ++ a ++ L.flatten.drop (i * n + a.length) = (L.set i (a ++ x.drop a.length)).flatten
  | [], _, i, x, _, hx, _ => by simp at hx
  | y :: L, h, 0, x, a, hx, ha => by
    simp at hx
    subst hx
    rw [List.set_cons_zero, List.flatten_cons, List.flatten_cons, Nat.zero_mul, Nat.zero_add, List.take_zero, List.nil_append, List.drop_append_of_le_length (show a.length ≤ y.length by rw [h y (by simp)]; exact ha), List.append_assoc]
  | y :: L, h, i + 1, x, a, hx, ha => by
    have hy := h y (by simp)
    have ih := flat_splice n L (fun z hz => h z (by simp [hz])) i x a (by simpa using hx) ha
    rw [List.set_cons_succ, List.flatten_cons, List.flatten_cons, ← ih, show (i + 1) * n = y.length + i * n by rw [hy, Nat.add_mul]; omega, List.take_length_add_append, show y.length + i * n + a.length = y.length + (i * n + a.length) by omega, List.drop_length_add_append]
    simp
/-- A write comes through in part. -/
def tear (S : List (List UInt8)) (x : Int × List UInt8) (n : Nat) : List (List UInt8) := S.set x.1.toNat (x.2.take n ++ (S.getD x.1.toNat []).drop n)
theorem tear_len (S : List (List UInt8)) (x : Int × List UInt8) (n : Nat) : (tear S x n).length = S.length := by unfold tear; simp
theorem tear_all {S : List (List UInt8)} (h : ∀ y ∈ S, y.length = 256) {x : Int × List UInt8} (hx : x.2.length = 256) (hb : x.1.toNat < S.length) {n : Nat} (hn : n ≤ 256) : ∀ y ∈ tear S x n, y.length = 256 := by
  intro y hy
  unfold tear at hy
  rcases List.mem_or_eq_of_mem_set hy with h1 | rfl
  · exact h y h1
  · have h2 : (S.getD x.1.toNat []).length = 256 := by
      rw [List.getD_eq_getElem?_getD, List.getElem?_eq_getElem hb]
      exact h _ (List.getElem_mem hb)
    rw [List.length_append, List.length_take, List.length_drop, hx, h2]
    omega
theorem flatS_tear {S : List (List UInt8)} (h : ∀ y ∈ S, y.length = 256) {x : Int × List UInt8} (hx : x.2.length = 256) (hb : x.1.toNat < S.length) {n : Nat} (hn : n ≤ 256) :
    (flatS S).take (x.1.toNat * 256) ++ byteCells (x.2.take n) ++ (flatS S).drop (x.1.toNat * 256 + n) = flatS (tear S x n) := by
  obtain ⟨y, hy⟩ : ∃ y, S[x.1.toNat]? = some y := ⟨_, List.getElem?_eq_getElem hb⟩
  have hl : (byteCells (x.2.take n)).length = n := by rw [byteCells_length, List.length_take, hx]; omega
  have := flat_splice 256 (S.map byteCells) (fun z hz => by obtain ⟨q, hq, rfl⟩ := List.mem_map.1 hz; rw [byteCells_length, h q hq]) x.1.toNat (byteCells y) (byteCells (x.2.take n)) (by simp [hy]) (by rw [hl]; exact hn)
  rw [hl] at this
  unfold flatS
  rw [this]
  unfold tear
  rw [List.map_set, List.getD_eq_getElem?_getD, hy]
  simp [byteCells]
/-- How much of a write comes through. -/
def part (ps : List Int) : Nat := match ps with
  | [] => 0
  | p :: _ => (max (min p 256) 0).toNat
theorem part_le (ps : List Int) : part ps ≤ 256 := by
  unfold part
  cases ps with
  | nil => simp
  | cons p ps => simp only []; omega
def crashS : List (Int × List UInt8) → List Int → List (List UInt8) → List (List UInt8)
  | [], _, S => S
  | x :: L, ps, S => crashS L ps.tail (tear S x (part ps))
theorem tear_zero (S : List (List UInt8)) (x : Int × List UInt8) : tear S x 0 = S := by
  unfold tear
  simp
  apply List.ext_getElem?
  intro i
  rw [List.getElem?_set]
  split
  · split
    · rename_i h1 h2
      subst h1
      rw [List.getElem?_eq_getElem h2]; simp
    · rename_i h1 h2
      subst h1
      rw [List.getElem?_eq_none (by omega)]
  · rfl
/-- A list of ints in memory that is not of F. -/
def PicksAt (F : Nat → Prop) (W : World) (A : Option Addr) (ps : List Int) : Prop :=
  ps = [] ∨ ∃ b o, A = some ⟨b, o, none⟩ ∧ ¬ F b ∧ b < W.heap.size ∧ ∀ i p, ps[i]? = some p → W.cell? ⟨b, o + i, none⟩ = some (.int .i64 p)
section
variable {B : Nat} {F : Nat → Prop} {W W' : World} {g s : Nat} {lv : Value} {d : Dsk}
theorem DiskIn.setS (h : DiskIn B F W g s lv d) (hk : Kept (fun k => k = s) W W') (S : List (List UInt8)) (hl : S.length = d.S.length) (ha : ∀ x ∈ S, x.length = 256) (hs : Bk W' s (flatS S).toArray 69) : DiskIn B F W' g s lv { d with S := S } :=
  ⟨⟨by simpa [hl] using h.ok.pos, by simpa [hl] using h.ok.few, ha, by simpa [hl] using h.ok.loose, h.ok.fuse, h.ok.big⟩, h.hg, h.hs, h.hl, h.sg, h.lg, h.ls, fun k hf => ⟨(h.low k hf).1, Nat.lt_of_lt_of_le (h.low k hf).2 hk.size⟩,
   by show Bk W' g #[.slice (some ⟨s, 0, none⟩) S.length S.length, lv, .bool d.fused, .int .i64 d.left] 60; rw [hl]; exact (hk.block g (h.low g h.hg).2 (fun e => h.sg e.symm)).trans h.at_g, hs, ownsRow_kept h.at_l fun k hb hlt => hk.block k hlt (fun e => h.ls (by rw [hb, e]))⟩
theorem DiskIn.dropL (h : DiskIn B F W g s lv d) (f : Bool) (hf : f = true → d.fused = true) : DiskIn B F ((W.setCell ⟨g, 1, none⟩ (.slice none 0 0)).setCell ⟨g, 2, none⟩ (.bool f)) g s (.slice none 0 0) { d with L := [], fused := f } := by
  have hk : Kept (fun k => k = g) W ((W.setCell ⟨g, 1, none⟩ (.slice none 0 0)).setCell ⟨g, 2, none⟩ (.bool f)) := ((Kept.refl (fun k => k = g) W).set (F := fun k => k = g) (g := g) rfl _).set (F := fun k => k = g) (g := g) rfl _
  refine ⟨⟨h.ok.pos, h.ok.few, h.ok.all, fun x hx => by simp at hx, fun e => h.ok.fuse (hf e), h.ok.big⟩, h.hg, h.hs, by simp [Value.ownBlock], h.sg, by simp [Value.ownBlock], by simp [Value.ownBlock], fun k hf => ⟨(h.low k hf).1, Nat.lt_of_lt_of_le (h.low k hf).2 hk.size⟩, ?_, (hk.block s (h.low s h.hs).2 h.sg).trans h.at_s,
    ⟨by show (flatL []).length = 0 * 257; rw [Nat.zero_mul]; rfl, .inl ⟨rfl, rfl⟩⟩⟩
  have := (h.at_g.set 1 (.slice none 0 0)).set 2 (.bool f)
  simpa using this
theorem crash_nil (A : Option Addr) (n c : Nat) (W : World) : Calls Try.prog 19 #[.pointer none, .slice A n c] W fun e W' => e = .returned (.int .i64 1) ∧ W = W' := by
  go_enter Try.func19, Try.ntmps19
  go_wp2_with (go_at_call 28; refine (none_nil _).mono ?_; rintro e w' ⟨rfl, rfl⟩)
  go_ret
  exact ⟨rfl, rfl⟩
end
theorem kept_setRow (w : World) (s : Nat) (cs : Array Value) : Kept (fun k => k = s) w (w.setRow s cs) :=
  ⟨rfl, rfl, rfl, by simp [World.setRow], fun k _ hn => setRow_other w s k cs hn⟩
theorem flatS_len {S : List (List UInt8)} (h : ∀ x ∈ S, x.length = 256) : (flatS S).length = S.length * 256 := by
  unfold flatS
  induction S with
  | nil => simp
  | cons y S ih =>
    have := ih (fun x hx => h x (by simp [hx]))
    rw [List.map_cons, List.flatten_cons, List.length_append, this, byteCells_length, h y (by simp), List.length_cons, Nat.add_mul]
    omega
theorem crash_step {L : List (Int × List UInt8)} {ps : List Int} {S : List (List UInt8)} {k : Nat} {x : Int × List UInt8} (hx : L[k]? = some x) : crashS (L.drop k) (ps.drop k) S = crashS (L.drop (k + 1)) (ps.drop (k + 1)) (tear S x (part (ps.drop k))) := by
  have hk := (List.getElem?_eq_some_iff.1 hx).1
  rw [List.drop_eq_getElem_cons hk, (List.getElem?_eq_some_iff.1 hx).2]
  show crashS (L.drop (k + 1)) (ps.drop k).tail _ = _
  rw [List.tail_drop]
theorem part_some {ps : List Int} {k : Nat} {p : Int} (h : ps[k]? = some p) : part (ps.drop k) = (max (min p 256) 0).toNat := by
  have hk := (List.getElem?_eq_some_iff.1 h).1
  rw [List.drop_eq_getElem_cons hk, (List.getElem?_eq_some_iff.1 h).2]
  rfl
theorem part_none {ps : List Int} {k : Nat} (h : ps.length ≤ k) : part (ps.drop k) = 0 := by
  rw [List.drop_of_length_le h]
  rfl
def Dsk.crash (d : Dsk) (ps : List Int) : Dsk := { d with S := crashS d.L ps d.S, L := [], fused := false }
set_option maxRecDepth 100000 in
set_option maxHeartbeats 6400000 in
theorem crash_disk {B : Nat} {F : Nat → Prop} {W : World} {g s : Nat} {lv : Value} {d : Dsk} (A : Option Addr) (c : Nat) (ps : List Int) (h : DiskIn B F W g s lv d) (hL : d.L.length ≤ 1000000) (hp : PicksAt F W A ps) (hpl : ps.length ≤ 1000000) :
    Calls Try.prog 19 #[.pointer (some ⟨g, 0, none⟩), .slice A ps.length c] W fun e W' => e = .returned (.int .i64 0) ∧ DiskIn B F W' g s (.slice none 0 0) (d.crash ps) ∧ Kept F W W' := by
  have H := Lib.hid (fun w' (e : W = w') => e ▸ none_any h)
  obtain ⟨AL, cap, hlv, hA⟩ := h.lvs
  have c1 : W.cell? ⟨g, 1, none⟩ = some (.slice AL d.L.length cap) := hlv ▸ h.cells.2.1
  have X := Lib.hid (And.intro h (And.intro hL (And.intro hp (And.intro hpl (And.intro hA hlv)))))
  clear h hL hp hpl hlv hA
  go_enter Try.func19, Try.ntmps19
  go_wp2_with fail
  refine (H.out _ rfl).mono ?_
  rintro e w' ⟨rfl, rfl⟩
  go_wp2_with fail
  clear c1 H
  go_loopw [15] (fun i wr => ∃ (k : Nat) (S : List (List UInt8)), k ≤ d.L.length ∧ i = .int .i64 k ∧ crashS (d.L.drop k) (ps.drop k) S = crashS d.L ps d.S ∧ S.length = d.S.length ∧ DiskIn B F wr g s lv { d with S := S } ∧ Kept F W wr) (fun i _ => d.L.length - (intOf i).toNat)
  case atStart => exact ⟨0, d.S, Nat.zero_le _, rfl, rfl, rfl, X.out.1, Kept.refl _ _⟩
  case round =>
    obtain ⟨k, S, hk, rfl, hS, hSl, hD, hK⟩ := hrel
    by_cases hlt : k < d.L.length
    · have hki : (k : Int) < (d.L.length : Int) := by omega
      have hkb : (k : Int) ≤ 1000000 := by have := X.out.2.1; omega
      have Y := Lib.hid (And.intro hk (And.intro hS (And.intro hSl (And.intro hD (And.intro hK hlt)))))
      clear hk hS hSl hD hK
      obtain ⟨gl, rfl, hgl, hr⟩ : ∃ gl, AL = some ⟨gl, 0, none⟩ ∧ gl < wr.heap.size ∧ ∀ i x, d.L[i]? = some x → wr.rangeAt gl (i * 257) (wcells x) := by
        obtain ⟨AL', cap', e, hh⟩ := Y.out.2.2.2.1.lvs
        rw [X.out.2.2.2.2.2] at e
        injection e with e1 e2 e3
        rcases hh with h | ⟨gl, h1, h2, h3⟩
        · exact absurd h (by have := Y.out.2.2.2.2.2; show ¬ d.L.length = 0; omega)
        · exact ⟨gl, by rw [e1, h1], h2, h3⟩
      obtain ⟨x, hx⟩ : ∃ x, d.L[k]? = some x := ⟨_, List.getElem?_eq_getElem hlt⟩
      have hxo := X.out.1.ok.loose x (List.mem_of_getElem? hx)
      have hxl := wcells_len x.1 x.2 hxo.1
      have RX := Lib.hid (And.intro (hr k x hx) hxl)
      have HX := Lib.hid (And.intro hx hxo)
      clear hr hx hxo hxl hgl hlt
      go_wp2_with (with_reducible refine wpList_pl 18 rfl ?_)
      refine plv2 13 15 (v := ?_) (W' := ?_) (by rfl) (by rfl) (by rfl) (fun ev hc hf h0 h1 => ?_) ?_; rotate_left 2; (focus (go_simp; constructor <;> with_reducible rfl)); simp only [Act.put, List.setIfInBounds_toArray, List.set_cons_zero, List.set_cons_succ]
      refine plv1 18 _ (by rfl) (by rfl) (fun ev hc hf h0 => ex_load 71 _ _ gl (k * 257) (wcells x) rfl h0 RX.out.1 Try.underlying71 rfl (by rw [RX.out.2]; kernel_rfl)) ?_
      simp only [Act.put, List.setIfInBounds_toArray, List.set_cons_zero, List.set_cons_succ]
      refine plv0 _ (by rfl) (fun ev hc hf => ex_alloc71 rfl) ?_
      simp only [Act.put, List.setIfInBounds_toArray, List.set_cons_zero, List.set_cons_succ]
      refine plv1 17 (v := ?_) (W' := ?_) (by rfl) (by rfl) (fun ev hc hf h0 => ?_) ?_; rotate_left 2; (focus (go_simp; constructor <;> with_reducible rfl)); simp only [Act.put, List.setIfInBounds_toArray, List.set_cons_zero, List.set_cons_succ]
      refine pls2 6 19 (by rfl) (by rfl) (by rfl) (fun ev hc hf h0 h1 => ex_store_new 71 _ _ wzero (wcells x).toArray rfl h0 h1 (by rw [List.size_toArray, RX.out.2]; kernel_rfl) (by rw [wzero_size, List.size_toArray, RX.out.2]) (all_oneCell_toArray (wcells_one x.1 x.2))) ?_
      simp only [Act.put, List.setIfInBounds_toArray, List.set_cons_zero, List.set_cons_succ]
      refine pl_nil ?_
      obtain ⟨w2, hw2⟩ : ∃ w2, w2 = wr.alloc (.cells (wcells x).toArray 71) := ⟨_, rfl⟩
      rw [← hw2]
      have b2 : Below wr.heap.size wr w2 := hw2 ▸ (Below.refl _ _).alloc (Nat.le_refl _) _
      have n2 : Bk w2 wr.heap.size (wcells x).toArray 71 := hw2 ▸ Bk.new wr _ _
      have d2 := Y.out.2.2.2.1.bel b2
      have Z := Lib.hid (And.intro b2 (And.intro n2 d2))
      clear b2 n2 d2 hw2
      by_cases hpk : k < ps.length
      · have hpi : (k : Int) < (ps.length : Int) := by omega
        obtain ⟨p, hpp⟩ : ∃ p, ps[k]? = some p := ⟨_, List.getElem?_eq_getElem hpk⟩
        obtain ⟨pb, po, rfl, hpF, hpb, hpc⟩ : ∃ b o, A = some ⟨b, o, none⟩ ∧ ¬ F b ∧ b < W.heap.size ∧ ∀ i p, ps[i]? = some p → W.cell? ⟨b, o + i, none⟩ = some (.int .i64 p) := by
          rcases X.out.2.2.1 with h | h
          · rw [h] at hpk; simp at hpk
          · exact h
        have cp : w2.cell? ⟨pb, po + k, none⟩ = some (.int .i64 p) := by
          have h1 : wr.heap[pb]? = W.heap[pb]? := Y.out.2.2.2.2.1.block pb hpb hpF
          have h2 : wr.cell? ⟨pb, po + k, none⟩ = some (.int .i64 p) := by
            rw [← hpc k p hpp]
            simp [World.cell?, h1]
          exact Bel.cell (show Bel wr w2 from Z.out.1) h2
        obtain ⟨n, hn, hn1, hn2⟩ : ∃ n : Nat, (if (if (256 : Int) < p then 256 else p) < 0 then 0 else if (256 : Int) < p then 256 else p) = (n : Int) ∧ (max (min p 256) 0).toNat = n ∧ n ≤ 256 :=
          ⟨(max (min p 256) 0).toNat, by split <;> (try split) <;> omega, rfl, by omega⟩
        obtain ⟨bN, hbN⟩ : ∃ bN : Nat, x.1 = bN := ⟨x.1.toNat, by have := HX.out.2.2.1; omega⟩
        have hbS : (bN : Int) < (S.length : Int) := by have := HX.out.2.2.2; have := Y.out.2.2.1; omega
        have C0 := Lib.hid (show w2.drew.cell? ⟨g, 0, none⟩ = some (.slice (some ⟨s, 0, none⟩) S.length S.length) from Z.out.2.2.cells.1)
        have C5 := Lib.hid (show w2.drew.cell? ⟨wr.heap.size, 0, none⟩ = some (.int .i64 (bN : Int)) by rw [← hbN]; exact Z.out.2.1.cell 0)
        have HN := Lib.hid hn2
        have HP := Lib.hid (And.intro hpp (And.intro hn1 (And.intro hpk (And.intro hn hbN))))
        clear hpp hpF hpb hpc hn2 hpk hn1 hn hbN
        go_upto_region 8 with fail
        rw [HP.out.2.2.2.1]
        refine wp_aw 13 #[false, false, false, false, false, false, false, false, false, false, false, false, false] rfl rfl ?_
        refine awt1 0 0 (o := ({ dst := some 30, op := Go.Op.move (Go.Operand.tmp 0), type := 25, pos := "block.go:134", after := #[], guard := none })) (v := ?_) rfl (by kernel_rfl) (by kernel_rfl) (by kernel_rfl) (fun _ _ _ h => h) (by rfl) (by rfl) (fun ev hc hf h0 W => ?_) ?_; rotate_left; (focus (first | (go_simp; done) | (go_simp; with_reducible rfl))); rotate_left; simp only [Act.put, List.setIfInBounds_toArray, List.set_cons_zero, List.set_cons_succ]
        refine awt1 1 30 (o := ({ dst := some 31, op := Go.Op.nilCheck (Go.Operand.tmp 30), type := 0, pos := "block.go:134", after := #[{ on := 0, ground := Go.Ground.data }], guard := none })) (v := ?_) rfl (by kernel_rfl) (by kernel_rfl) (by kernel_rfl) (fun _ _ _ h => h) (by rfl) (by rfl) (fun ev hc hf h0 W => ?_) ?_; rotate_left; (focus (first | (go_simp; done) | (go_simp; with_reducible rfl))); rotate_left; simp only [Act.put, List.setIfInBounds_toArray, List.set_cons_zero, List.set_cons_succ]
        refine awt1 2 31 (o := ({ dst := some 32, op := Go.Op.fieldAddr 60 (Go.Operand.tmp 31) 0, type := 0, pos := "block.go:134", after := #[{ on := 1, ground := Go.Ground.data }], guard := none })) (v := ?_) rfl (by kernel_rfl) (by kernel_rfl) (by kernel_rfl) (fun _ _ _ h => h) (by rfl) (by rfl) (fun ev hc hf h0 W => ?_) ?_; rotate_left; (focus (first | (go_simp; done) | (go_simp; with_reducible rfl))); rotate_left; simp only [Act.put, List.setIfInBounds_toArray, List.set_cons_zero, List.set_cons_succ]
        refine awt1 4 6 (o := ({ dst := some 34, op := Go.Op.fieldAddr 71 (Go.Operand.tmp 6) 0, type := 0, pos := "block.go:134", after := #[], guard := none })) (v := ?_) rfl (by kernel_rfl) (by kernel_rfl) (by kernel_rfl) (fun _ _ _ h => h) (by rfl) (by rfl) (fun ev hc hf h0 W => ?_) ?_; rotate_left; (focus (first | (go_simp; done) | (go_simp; with_reducible rfl))); rotate_left; simp only [Act.put, List.setIfInBounds_toArray, List.set_cons_zero, List.set_cons_succ]
        refine awt1 7 7 (o := ({ dst := some 37, op := Go.Op.move (Go.Operand.tmp 7), type := 3, pos := "block.go:134", after := #[], guard := none })) (v := ?_) rfl (by kernel_rfl) (by kernel_rfl) (by kernel_rfl) (fun _ _ _ h => h) (by rfl) (by rfl) (fun ev hc hf h0 W => ?_) ?_; rotate_left; (focus (first | (go_simp; done) | (go_simp; with_reducible rfl))); rotate_left; simp only [Act.put, List.setIfInBounds_toArray, List.set_cons_zero, List.set_cons_succ]
        refine awt1 9 6 (o := ({ dst := some 39, op := Go.Op.fieldAddr 71 (Go.Operand.tmp 6) 1, type := 0, pos := "block.go:134", after := #[], guard := none })) (v := ?_) rfl (by kernel_rfl) (by kernel_rfl) (by kernel_rfl) (fun _ _ _ h => h) (by rfl) (by rfl) (fun ev hc hf h0 W => ?_) ?_; rotate_left; (focus (first | (go_simp; done) | (go_simp; with_reducible rfl))); rotate_left; simp only [Act.put, List.setIfInBounds_toArray, List.set_cons_zero, List.set_cons_succ]
        refine awt1 10 7 (o := ({ dst := some 40, op := Go.Op.move (Go.Operand.tmp 7), type := 3, pos := "block.go:134", after := #[], guard := none })) (v := ?_) rfl (by kernel_rfl) (by kernel_rfl) (by kernel_rfl) (fun _ _ _ h => h) (by rfl) (by rfl) (fun ev hc hf h0 W => ?_) ?_; rotate_left; (focus (first | (go_simp; done) | (go_simp; with_reducible rfl))); rotate_left; simp only [Act.put, List.setIfInBounds_toArray, List.set_cons_zero, List.set_cons_succ]
        refine awt2 11 39 40 (o := ({ dst := some 41, op := Go.Op.slice 69 (Go.Operand.tmp 39) none (some (Go.Operand.tmp 40)) none, type := 61, pos := "block.go:134", after := #[{ on := 9, ground := Go.Ground.data }, { on := 10, ground := Go.Ground.data }], guard := none })) _ rfl (by kernel_rfl) (by kernel_rfl) (by kernel_rfl) (fun _ _ _ h => h) (by rfl) (by rfl) (by rfl) (fun ev hc hf h0 h1 W => ex_slice_to _ _ _ _ n HN.out rfl h0 h1) ?_; simp only [Act.put, List.setIfInBounds_toArray, List.set_cons_zero, List.set_cons_succ]
        refine aw_join 3 ?L8 ?F8 w2.drew (fun END => ?_) ?_
        case refine_1 =>
          refine aw_all [3, 5] (by kernel_rfl) (by simp) ?_
          refine arv1 (o := ({ dst := some 33, op := Go.Op.load 57 (Go.Operand.tmp 32), type := 57, pos := "block.go:134", after := #[{ on := 2, ground := Go.Ground.data }], guard := none })) 32 (v := ?_) (W' := ?_) rfl (by rfl) (by rfl) (fun ev hc hf h0 => ?_) ?_ ?_; rotate_left 2; (focus (have c0 := C0.out; go_simp; constructor <;> with_reducible rfl))
          · simp only [Act.put, List.setIfInBounds_toArray, List.set_cons_zero, List.set_cons_succ]
            refine aw_all [5] (by kernel_rfl) (by simp) ?_
            refine arv1 (o := ({ dst := some 35, op := Go.Op.load 3 (Go.Operand.tmp 34), type := 3, pos := "block.go:134", after := #[{ on := 4, ground := Go.Ground.data }], guard := none })) 34 (v := ?_) (W' := ?_) rfl (by rfl) (by rfl) (fun ev hc hf h0 => ?_) ?_ ?_; rotate_left 2; (focus (have c5 := C5.out; go_simp; constructor <;> with_reducible rfl))
            · simp only [Act.put, List.setIfInBounds_toArray, List.set_cons_zero, List.set_cons_succ]
              exact END
            exact ar_nil
          refine arv1 (o := ({ dst := some 35, op := Go.Op.load 3 (Go.Operand.tmp 34), type := 3, pos := "block.go:134", after := #[{ on := 4, ground := Go.Ground.data }], guard := none })) 34 (v := ?_) (W' := ?_) rfl (by rfl) (by rfl) (fun ev hc hf h0 => ?_) ?_ ?_; rotate_left 2; (focus (have c5 := C5.out; go_simp; constructor <;> with_reducible rfl))
          · simp only [Act.put, List.setIfInBounds_toArray, List.set_cons_zero, List.set_cons_succ]
            refine aw_all [3] (by kernel_rfl) (by simp) ?_
            refine arv1 (o := ({ dst := some 33, op := Go.Op.load 57 (Go.Operand.tmp 32), type := 57, pos := "block.go:134", after := #[{ on := 2, ground := Go.Ground.data }], guard := none })) 32 (v := ?_) (W' := ?_) rfl (by rfl) (by rfl) (fun ev hc hf h0 => ?_) ?_ ?_; rotate_left 2; (focus (have c0 := C0.out; go_simp; constructor <;> with_reducible rfl))
            · simp only [Act.put, List.setIfInBounds_toArray, List.set_cons_zero, List.set_cons_succ]
              exact END
            exact ar_nil
          exact ar_nil
        refine awt2 6 33 35 (o := ({ dst := some 36, op := Go.Op.indexAddr 57 (Go.Operand.tmp 33) (Go.Operand.tmp 35), type := 0, pos := "block.go:134", after := #[{ on := 3, ground := Go.Ground.data }, { on := 5, ground := Go.Ground.data }], guard := none })) (v := ?_) rfl (by kernel_rfl) (by kernel_rfl) (by kernel_rfl) (fun _ _ _ h => h) (by rfl) (by rfl) (by rfl) (fun ev hc hf h0 h1 W => ?_) ?_; rotate_left; (focus (first | (go_simp; done) | (go_simp; with_reducible rfl))); rotate_left; simp only [Act.put, List.setIfInBounds_toArray, List.set_cons_zero, List.set_cons_succ]
        refine awt2 8 36 37 (o := ({ dst := some 38, op := Go.Op.slice 69 (Go.Operand.tmp 36) none (some (Go.Operand.tmp 37)) none, type := 61, pos := "block.go:134", after := #[{ on := 6, ground := Go.Ground.data }, { on := 7, ground := Go.Ground.data }], guard := none })) _ rfl (by kernel_rfl) (by kernel_rfl) (by kernel_rfl) (fun _ _ _ h => h) (by rfl) (by rfl) (by rfl) (fun ev hc hf h0 h1 W => ex_slice_to _ _ _ _ n HN.out rfl h0 h1) ?_; simp only [Act.put, List.setIfInBounds_toArray, List.set_cons_zero, List.set_cons_succ]
        refine aw_all [12] (by kernel_rfl) (by simp) ?_
        have hcl : (byteCells (x.2.take n)).length = n := by rw [byteCells_length, List.length_take, HX.out.2.1]; exact Nat.min_eq_left HN.out
        have hfl : (flatS S).length = S.length * 256 := flatS_len Y.out.2.2.2.1.ok.all
        have hbs : bN < S.length := by omega
        refine arv2 (o := ({ dst := some 42, op := Go.Op.call { callee := Go.Callee.builtin Go.Builtin.copy, args := #[Go.Operand.tmp 38, Go.Operand.tmp 41], argTypes := #[61, 61] }, type := 3, pos := "block.go:134", after := #[{ on := 8, ground := Go.Ground.data }, { on := 11, ground := Go.Ground.data }], guard := none })) 38 41 _ rfl (by rfl) (by rfl) (by rfl) (fun ev hc hf h0 h1 => ex_copy_row _ _ s (bN * 256) n ⟨wr.heap.size, 1, none⟩ (byteCells (x.2.take n)) (flatS S).toArray 69 rfl h0 h1 Z.out.2.2.drew.at_s hcl ?_ ?_ (byteCells_one _)) ?_ ?_
        · intro j v hv
          have hj : j < n := by rw [← hcl]; exact (List.getElem?_eq_some_iff.1 hv).1
          rw [Addr.add_mid]
          have h1 := Z.out.2.1.cell (1 + j)
          refine (show w2.drew.cell? _ = _ from h1).trans ?_
          rw [List.getElem?_toArray]
          show (Value.int .i64 x.1 :: byteCells x.2)[1 + j]? = some v
          rw [show 1 + j = j + 1 by omega, List.getElem?_cons_succ, ← hv]
          unfold byteCells
          rw [List.getElem?_map, List.getElem?_map, List.getElem?_take_of_lt hj]
        · rw [List.size_toArray, hfl]
          have : (bN + 1) * 256 ≤ S.length * 256 := Nat.mul_le_mul_right _ hbs
          have := HN.out
          omega
        · simp only [Act.put, List.setIfInBounds_toArray, List.set_cons_zero, List.set_cons_succ]
          refine aw_done (by kernel_rfl) ?_
          have hrow := flatS_tear Y.out.2.2.2.1.ok.all HX.out.2.1 (x := x) (by rw [HP.out.2.2.2.2, Int.toNat_natCast]; exact hbs) HN.out
          rw [HP.out.2.2.2.2, Int.toNat_natCast] at hrow
          (try simp only [List.toList_toArray])
          rw [hrow]
          have hd3 := Z.out.2.2.drew.setS (W' := w2.drew.setRow s (flatS (tear S x n)).toArray) (kept_setRow _ _ _) (tear S x n) (tear_len _ _ _) (tear_all Y.out.2.2.2.1.ok.all HX.out.2.1 (by rw [HP.out.2.2.2.2, Int.toNat_natCast]; exact hbs) HN.out) (setRow_heap _ s _ _ 69 _ Z.out.2.2.drew.at_s)
          have hk3 : Kept F W (w2.drew.setRow s (flatS (tear S x n)).toArray) := ((Y.out.2.2.2.2.1.trans (.of_below Z.out.1)).trans (show Kept F w2 w2.drew from ⟨rfl, rfl, rfl, Nat.le_refl _, fun _ _ _ => rfl⟩)).trans ((kept_setRow _ s _).mono (fun k _ e => by rw [e]; exact Z.out.2.2.hs))
          have Q3 := Lib.hid (And.intro hd3 hk3)
          clear hd3 hk3 hrow hcl hfl hbs cp
          generalize w2.drew.setRow s (flatS (tear S x n)).toArray = w5 at Q3 ⊢
          go_wp2_with fail
          refine ⟨⟨k + 1, tear S x n, by have := Y.out.2.2.2.2.2; omega, by simp, ?_, by rw [tear_len]; exact Y.out.2.2.1, Q3.out.1, Q3.out.2⟩, ?_⟩
          · rw [← Y.out.2.1, crash_step HX.out.1, part_some HP.out.1, HP.out.2.1]
          · simp [intOf]
            omega
        exact ar_nil
      · have hpi : ¬ ((k : Int) < (ps.length : Int)) := by omega
        have HP := Lib.hid hpk
        clear hpk
        go_wp2_with fail
        refine ⟨⟨k + 1, S, by have := Y.out.2.2.2.2.2; omega, by simp, ?_, Y.out.2.2.1, Z.out.2.2, Y.out.2.2.2.2.1.trans (.of_below Z.out.1)⟩, ?_⟩
        · rw [← Y.out.2.1, crash_step HX.out.1, part_none (by have := HP.out; omega), tear_zero]
        · simp [intOf]
          omega
    · obtain rfl : k = d.L.length := by omega
      rw [List.drop_length] at hS
      have hS' : S = crashS d.L ps d.S := hS
      subst hS'
      have f1 := hD.at_g.free 1
      have f2 := hD.at_g.free 2
      obtain ⟨c0, c1, c2, c3⟩ := hD.cells
      have Q := Lib.hid (And.intro hD hK)
      clear hD hK hS hSl hlt hk c0 c3
      go_wp2_with fail
      go_ret
      exact ⟨rfl, Q.out.1.dropL false (by simp), (Q.out.2.set Q.out.1.hg _).set Q.out.1.hg _⟩

end Go.Proofs.Ytbobbekbliichaa
