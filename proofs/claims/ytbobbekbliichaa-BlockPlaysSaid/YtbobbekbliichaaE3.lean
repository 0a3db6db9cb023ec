import Derived.Test.YtbobbekbliichaaE2
import Derived.Laws.MakeOwn
import Derived.Laws.BytesArg
namespace Go.Proofs.Ytbobbekbliichaa
open Go.RowKit
set_option linter.unusedSimpArgs false
set_option linter.unusedVariables false


open Go.Lib (byteCells)
theorem info69 : (Try.prog.info? 69).map (fun i => (i.zero, i.size, i.bytes)) = some (some (.agg (Array.replicate 256 (.int .u8 0))), 256, 256) := by kernel_rfl
theorem info5 : (Try.prog.info? 5).map (fun i => (i.zero, i.size, i.bytes)) = some (some (.int .u8 0), 1, 1) := by kernel_rfl
theorem info_of {t : TypeId} {z : Value} {n m : Nat} (h : (Try.prog.info? t).map (fun i => (i.zero, i.size, i.bytes)) = some (some z, n, m)) : ∃ i, Try.prog.info? t = some i ∧ i.zero = some z ∧ i.size = n ∧ i.bytes = m := by
  cases hq : Try.prog.info? t with
  | none => simp [hq] at h
  | some i => simp [hq] at h; exact ⟨i, rfl, h⟩
theorem made_zero (n : Nat) : madeCells (Array.replicate 256 (Value.int .u8 0)) n = Array.replicate n (Value.int .u8 0) := by
  apply Array.ext
  · simp [madeCells]
  · intro i h1 h2
    have h3 : i % 256 < 256 := Nat.mod_lt _ (by omega)
    simp [madeCells]
    rw [getElem!_pos _ _ (by simpa using h3)]
    simp
theorem made_zero1 (n : Nat) : madeCells #[Value.int .u8 0] n = Array.replicate n (Value.int .u8 0) := by
  apply Array.ext
  · simp [madeCells]
  · intro i h1 h2
    simp [madeCells]
    have : i % 1 = 0 := by omega
    simp [this]
/-- A disk whose blocks are all of zeros. -/
def zblock : List UInt8 := List.replicate 256 0
theorem zblock_len : zblock.length = 256 := List.length_replicate
def zeroS (n : Nat) : List (List UInt8) := List.replicate n zblock
theorem zeroS_len (n : Nat) : (zeroS n).length = n := List.length_replicate
theorem flat_zero (n : Nat) : (flatS (zeroS n)).toArray = Array.replicate (n * 256) (Value.int .u8 0) := by
  unfold flatS zeroS
  rw [List.map_replicate]
  have : byteCells zblock = List.replicate 256 (Value.int .u8 0) := by unfold byteCells zblock; rw [List.map_replicate]; rfl
  rw [this, List.flatten_replicate_replicate]
  simp
theorem make57 (n : Nat) (hn : n ≤ 4096) (W : World) : (Instr.makeSlice 57 (.int .i64 (n : Int)) (.int .i64 (n : Int))).run Try.prog W = .ok (.slice (some ⟨W.heap.size, 0, none⟩) n n) (W.alloc (.cells (flatS (zeroS n)).toArray 69)) := by
  obtain ⟨i, hi, hz, hs, hb⟩ := info_of info69
  have h := run_make (P := Try.prog) W 57 69 i _ Try.underlying57 hi hz .i64 .i64 n n (by omega) (by omega) (by rw [hb]; omega) (by omega)
  rw [hs, show (Value.agg (Array.replicate 256 (Value.int .u8 0))).cells = Array.replicate 256 (Value.int .u8 0) from rfl, made_zero, ← flat_zero] at h
  simpa using h
theorem make61 (n : Nat) (hn : n ≤ 4096) (W : World) : (Instr.makeSlice 61 (.int .i64 (n : Int)) (.int .i64 (n : Int))).run Try.prog W = .ok (.slice (some ⟨W.heap.size, 0, none⟩) n n) (W.alloc (.cells (Array.replicate n (.int .u8 0)) 5)) := by
  obtain ⟨i, hi, hz, hs, hb⟩ := info_of info5
  have h := run_make (P := Try.prog) W 61 5 i _ Try.underlying61 hi hz .i64 .i64 n n (by omega) (by omega) (by rw [hb]; omega) (by omega)
  rw [hs, show (Value.int .u8 0).cells = #[Value.int .u8 0] from rfl, made_zero1] at h
  simpa using h
/-- The blocks from a to b. -/
def Fresh (a b : World) (k : Nat) : Prop := a.heap.size ≤ k ∧ k < b.heap.size
def newDsk (n : Nat) : Dsk := ⟨zeroS n, [], false, 0⟩
theorem new_bad (n : Int) (h : n < 1 ∨ 4096 < n) (W : World) : Calls Try.prog 9 #[.int .i64 n] W fun e W' => e = .returned (.tuple #[.pointer none, .int .i64 2]) ∧ W = W' := by
  rcases h with h | h
  · go_enter Try.func9, Try.ntmps9
    go_wp2_with fail
    exact bodyPost_ret (v := .tuple #[.pointer none, .int .i64 2]) (by simp [results, Try.results9, go_sem]) rfl ⟨rfl, rfl⟩
  · have h2 : ¬ n < 1 := by omega
    go_enter Try.func9, Try.ntmps9
    go_wp2_with fail
    exact bodyPost_ret (v := .tuple #[.pointer none, .int .i64 2]) (by simp [results, Try.results9, go_sem]) rfl ⟨rfl, rfl⟩
theorem new_good (n : Nat) (h1 : 1 ≤ n) (h2 : n ≤ 4096) (W : World) : Calls Try.prog 9 #[.int .i64 n] W fun e W' =>
    e = .returned (.tuple #[.pointer (some ⟨W.heap.size + 1, 0, none⟩), .int .i64 0]) ∧ Below W.heap.size W W' ∧ DiskIn W.heap.size (Fresh W W') W' (W.heap.size + 1) W.heap.size (.slice none 0 0) (newDsk n) := by
  have hmk := make57 n h2 W
  have a1 : ¬ ((n : Int) < 1) := by omega
  have a2 : ¬ ((4096 : Int) < n) := by omega
  have H := Lib.hid (And.intro h1 h2)
  clear h1 h2
  go_enter Try.func9, Try.ntmps9
  go_wp2_with fail
  refine bodyPost_ret (v := .tuple #[.pointer (some ⟨W.heap.size + 1, 0, none⟩), .int .i64 0]) (by simp [results, Try.results9, go_sem]) rfl ?_
  refine ⟨rfl, ((Below.refl _ _).alloc (Nat.le_refl _) _).alloc (by simp) _, ?_⟩
  have hl : (newDsk n).S.length = n := zeroS_len n
  refine ⟨⟨by rw [hl]; have := H.out; omega, by rw [hl]; exact H.out.2, ?_, fun x hx => by simp [newDsk] at hx, by simp [newDsk], by simp [newDsk]⟩, by simp [Fresh], ⟨Nat.le_refl _, by simp; omega⟩, by simp [Value.ownBlock], by simp, by simp [Value.ownBlock], by simp [Value.ownBlock], fun k hk => hk, ?_, ?_, ?_⟩
  · intro x hx
    rw [List.eq_of_mem_replicate (show x ∈ List.replicate n zblock from hx)]
    exact zblock_len
  · have := Bk.new (W.alloc (.cells (flatS (zeroS n)).toArray 69)) #[.slice (some ⟨W.heap.size, 0, none⟩) n n, .slice none 0 0, .bool false, .int .i64 0] 60
    rw [World.size_alloc] at this
    rw [hl]
    exact this
  · exact (Bk.new W _ _).alloc _
  · exact ⟨by show (flatL []).length = 0 * 257; rw [Nat.zero_mul]; rfl, .inl ⟨rfl, rfl⟩⟩
/-- A block of one byte. -/
def oneByte (c : Int) : List UInt8 := List.replicate 256 (UInt8.ofNat c.toNat)
def fillArr (c : Int) (k : Nat) : Array Value := (List.replicate k (Value.int .u8 c) ++ List.replicate (256 - k) (Value.int .u8 0)).toArray
theorem fill_step (c : Int) (k : Nat) (hk : k < 256) : (fillArr c k).setIfInBounds k (.int .u8 c) = fillArr c (k + 1) := by
  unfold fillArr
  rw [List.setIfInBounds_toArray, List.set_append_right _ _ (by simp), List.length_replicate, Nat.sub_self, show 256 - k = (256 - (k + 1)) + 1 by omega, List.replicate_succ, List.set_cons_zero, List.replicate_succ', List.append_assoc]
  rfl
theorem fill_at (c : Int) (k : Nat) (hk : k < 256) : (fillArr c k)[k]? = some (.int .u8 0) := by
  unfold fillArr
  rw [List.getElem?_toArray, List.getElem?_append_right (by simp), List.length_replicate, Nat.sub_self, List.getElem?_replicate, if_pos (by omega)]
theorem rep_arr (n : Nat) (v : Value) : Array.replicate n v = (List.replicate n v).toArray := by simp
theorem fill_zero (c : Int) : Array.replicate 256 (Value.int .u8 0) = fillArr c 0 := by
  unfold fillArr
  rw [rep_arr, List.replicate_zero, List.nil_append]
theorem fill_full (c : Int) (i : Nat) (hi : i < 256) : (fillArr c 256)[i]? = some (.int .u8 c) := by
  unfold fillArr
  rw [List.getElem?_toArray, List.getElem?_append_left (by rw [List.length_replicate]; exact hi), List.getElem?_replicate, if_pos hi]
theorem getD_rep (n : Nat) (c : Int) (i : Nat) (hi : i < n) : (List.replicate n c).getD i 0 = c := by
  rw [List.getD_eq_getElem?_getD, List.getElem?_replicate, if_pos hi]
  rfl
theorem str_one (c : Int) : strOfNums (List.replicate 256 c) = ⟨(oneByte c).toArray⟩ := by
  unfold strOfNums oneByte
  rw [List.map_replicate]
set_option maxHeartbeats 1600000 in
theorem full_aux (c : Int) (W : World) (str : ByteArray) (hstr : (⟨(oneByte c).toArray⟩ : ByteArray) = str) : Calls Try.prog 17 #[.int .u8 c] W fun e W' => e = .returned (.string str) ∧ Below W.heap.size W W' := by
  have HSTR := Lib.hid hstr
  clear hstr
  have hmk := make61 256 (by omega) W
  simp only [Int.cast_ofNat_Int] at hmk
  go_enter Try.func17, Try.ntmps17
  go_wp2_with fail
  clear hmk
  go_loopw [4] (fun i wr => ∃ k : Nat, k ≤ 256 ∧ i = .int .i64 k ∧ Bk wr W.heap.size (fillArr c k) 5 ∧ Below W.heap.size W wr) (fun i _ => 256 - (intOf i).toNat)
  case atStart =>
    exact ⟨0, by omega, rfl, fill_zero c ▸ Bk.new W (Array.replicate 256 (Value.int .u8 0)) 5, (Below.refl _ _).alloc (Nat.le_refl _) _⟩
  case round =>
    obtain ⟨k, hk, rfl, hb, HB⟩ := hrel
    by_cases hlt : k < 256
    · have c0 : wr.cell? ⟨W.heap.size, k, none⟩ = some (.int .u8 0) := (hb.cell k).trans (fill_at c k hlt)
      have f0 := hb.free k
      have hki : (k : Int) < 256 := by omega
      have HH := Lib.hid hb
      have HBB := Lib.hid HB
      clear hb HB
      go_wp2_with fail
      have hb2 := HH.out.set k (.int .u8 c)
      rw [fill_step c k hlt] at hb2
      refine ⟨⟨k + 1, by omega, by simp, hb2, HBB.out.setCell (Nat.le_refl _) _⟩, ?_⟩
      simp [intOf]
      omega
    · obtain rfl : k = 256 := by omega
      have hcv : ∀ dst, Try.prog.underlying dst = some .string → (convert 61 dst (.slice (some ⟨W.heap.size, 0, none⟩) 256 256)).run Try.prog wr = .ok (.string (strOfNums (List.replicate 256 c))) wr :=
        run_convert_bytes_arg wr 61 5 Try.underlying61 Try.underlying5 W.heap.size 0 256 256 (List.replicate 256 c) List.length_replicate (fun i hi => by
          rw [Nat.zero_add, hb.cell, fill_full c i hi, getD_rep 256 c i hi])
      have hcv9 := hcv 9 Try.underlying9
      rw [str_one] at hcv9
      rw [HSTR.out] at hcv9
      have HBB := Lib.hid HB
      clear hb HB hcv
      go_wp2_with fail
      go_ret
      exact ⟨rfl, HBB.out⟩
theorem full_any (c : Int) (W : World) : Calls Try.prog 17 #[.int .u8 c] W fun e W' => e = .returned (.string ⟨(oneByte c).toArray⟩) ∧ Below W.heap.size W W' := full_aux c W _ rfl

end Go.Proofs.Ytbobbekbliichaa
