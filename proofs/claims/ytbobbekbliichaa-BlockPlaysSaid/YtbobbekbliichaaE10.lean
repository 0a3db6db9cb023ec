import Derived.Test.YtbobbekbliichaaE9
namespace Go.Proofs.Ytbobbekbliichaa
open Go.RowKit
set_option linter.unusedSimpArgs false
set_option linter.unusedVariables false


open Go.Lib (byteCells byteCells_length byteCells_one)
/-- A disk that a run made since world W. -/
def Own (W Wi : World) (g : Nat) (d : Dsk) : Prop := DiskHas W.heap.size (Fresh W Wi) Wi g d ∧ Below W.heap.size W Wi
section
variable {W Wi W' : World} {g : Nat} {d : Dsk}
theorem Own.keep (h : Own W Wi g d) (hb : Below Wi.heap.size Wi W') : Own W W' g d := by
  obtain ⟨⟨s, lv, hd⟩, hB⟩ := h
  exact ⟨⟨s, lv, (hd.bel hb).mono (fun k hk => ⟨hk.1, Nat.lt_of_lt_of_le hk.2 hb.size⟩) (fun k hk => hk)⟩, hB.trans (hb.mono hB.size)⟩
theorem Own.drew (h : Own W Wi g d) : Own W Wi.drew g d := h.keep ((Below.refl _ _).drew)
theorem Own.alloc (h : Own W Wi g d) (o : Obj) : Own W (Wi.alloc o) g d := h.keep ((Below.refl _ _).alloc (Nat.le_refl _) o)
theorem Own.ok (h : Own W Wi g d) : d.ok := by
  obtain ⟨⟨s, lv, hd⟩, hB⟩ := h
  exact hd.ok
theorem own_new (n : Nat) (h1 : 1 ≤ n) (h2 : n ≤ 4096) (W W1 : World) (hb : Below W.heap.size W W1) : Calls Try.prog 9 #[.int .i64 n] W1 fun e W' => e = .returned (.tuple #[.pointer (some ⟨W1.heap.size + 1, 0, none⟩), .int .i64 0]) ∧ Own W W' (W1.heap.size + 1) (newDsk n) ∧ Below W1.heap.size W1 W' :=
  (new_good n h1 h2 W1).mono fun e W' ⟨h1, h2, h3⟩ => ⟨h1, ⟨⟨_, _, ⟨h3.ok, ⟨Nat.le_trans hb.size h3.hg.1, h3.hg.2⟩, ⟨Nat.le_trans hb.size h3.hs.1, h3.hs.2⟩, fun k hk => ⟨Nat.le_trans hb.size (h3.hl k hk).1, (h3.hl k hk).2⟩, h3.sg, h3.lg, h3.ls, fun k hk => hk, h3.at_g, h3.at_s, by
    obtain ⟨h4, h5⟩ := h3.at_l
    rcases h5 with h5 | ⟨g, cap, cur, e, hB, h6⟩
    · exact ⟨h4, .inl h5⟩
    · exact ⟨h4, .inr ⟨g, cap, cur, e, Nat.le_trans hb.size hB, h6⟩⟩⟩⟩, hb.trans (h2.mono hb.size)⟩, h2⟩
theorem own_write (b : Int) (str : ByteArray) (bs : List UInt8) (h : Own W Wi g d) (hb : d.there b = 0) (hs : bs.length = 256) (hbs : str.data.toList = bs) (hL : d.L.length ≤ 1000000) :
    Calls Try.prog 16 #[.pointer (some ⟨g, 0, none⟩), .int .i64 b, .string str] Wi fun e W' => e = .returned (.int .i64 0) ∧ Own W W' g (d.done.add b bs) := by
  obtain ⟨⟨s, lv, hd⟩, hB⟩ := h
  refine (write_good b str bs hd hb (by rw [← hs, ← hbs]; rfl) hbs hL).mono ?_
  rintro e W' ⟨h1, ⟨s', lv', h2⟩, h3⟩
  refine ⟨h1, ⟨s', lv', h2.mono (fun k hk => ?_) (fun k hk => hk)⟩, h3.below hB (fun k hk => hk.1) hB.size⟩
  rcases hk with hk | hk
  · exact ⟨hk.1, Nat.lt_of_lt_of_le hk.2 h3.size⟩
  · exact ⟨Nat.le_trans hB.size hk.1, hk.2⟩
theorem own_write_bad (b : Int) (str : ByteArray) (h : Own W Wi g d) (hb : d.there b ≠ 0) : Calls Try.prog 16 #[.pointer (some ⟨g, 0, none⟩), .int .i64 b, .string str] Wi fun e W' => e = .returned (.int .i64 (d.there b)) ∧ Wi = W' := by
  obtain ⟨⟨s, lv, hd⟩, hB⟩ := h
  exact write_bad b str hd hb
theorem own_read (b : Nat) (str : ByteArray) (hstr : (⟨(d.get b).toArray⟩ : ByteArray) = str) (h : Own W Wi g d) (hb : d.there b = 0) (hL : d.L.length ≤ 1000000) :
    Calls Try.prog 20 #[.pointer (some ⟨g, 0, none⟩), .int .i64 b] Wi fun e W' => e = .returned (.tuple #[.string str, .int .i64 0]) ∧ Own W W' g d ∧ Below Wi.heap.size Wi W' := by
  have h' := h
  obtain ⟨⟨s, lv, hd⟩, hB⟩ := h
  exact (read_good b str hstr hd hb hL).mono fun e W' ⟨h1, h2⟩ => ⟨h1, h'.keep h2, h2⟩
theorem own_fuse (n : Int) (hn : n ≤ 9223372036854775807) (h : Own W Wi g d) : Calls Try.prog 21 #[.pointer (some ⟨g, 0, none⟩), .int .i64 n] Wi fun e W' => e = .returned (.int .i64 0) ∧ Own W W' g { d with fused := decide (0 ≤ n), left := n } := by
  obtain ⟨⟨s, lv, hd⟩, hB⟩ := h
  refine (fuse_disk n hn hd).mono ?_
  rintro e W' ⟨h1, h2, h3, h4⟩
  exact ⟨h1, ⟨s, lv, h2.mono (fun k hk => ⟨hk.1, Nat.lt_of_lt_of_le hk.2 h3.size⟩) (fun k hk => hk)⟩, h3.below hB (fun k hk => hk.1) hB.size⟩
theorem own_crash (A : Option Addr) (c : Nat) (ps : List Int) (h : Own W Wi g d) (hL : d.L.length ≤ 1000000) (hp : PicksAt (Fresh W Wi) Wi A ps) (hpl : ps.length ≤ 1000000) :
    Calls Try.prog 19 #[.pointer (some ⟨g, 0, none⟩), .slice A ps.length c] Wi fun e W' => e = .returned (.int .i64 0) ∧ Own W W' g (d.crash ps) := by
  obtain ⟨⟨s, lv, hd⟩, hB⟩ := h
  refine (crash_disk A c ps hd hL hp hpl).mono ?_
  rintro e W' ⟨h1, h2, h3⟩
  exact ⟨h1, ⟨s, _, h2.mono (fun k hk => ⟨hk.1, Nat.lt_of_lt_of_le hk.2 h3.size⟩) (fun k hk => hk)⟩, h3.below hB (fun k hk => hk.1) hB.size⟩
/-- A crash whose picks lie in a block that was made behind the disk. -/
theorem own_crash_new (ps : List Int) (h : Own W Wi g d) (hL : d.L.length ≤ 1000000) (hpl : ps.length ≤ 1000000) (W1 : World) (hb : Below Wi.heap.size Wi W1) (A : Option Addr) (c : Nat) (hp : ps = [] ∨ ∃ b o, A = some ⟨b, o, none⟩ ∧ Wi.heap.size ≤ b ∧ b < W1.heap.size ∧ ∀ i p, ps[i]? = some p → W1.cell? ⟨b, o + i, none⟩ = some (.int .i64 p)) :
    Calls Try.prog 19 #[.pointer (some ⟨g, 0, none⟩), .slice A ps.length c] W1 fun e W' => e = .returned (.int .i64 0) ∧ Own W W' g (d.crash ps) := by
  obtain ⟨⟨s, lv, hd⟩, hB⟩ := h
  refine (crash_disk (F := Fresh W Wi) A c ps (hd.bel hb) hL ?_ hpl).mono ?_
  · rcases hp with h | ⟨b, o, e, h1, h2, h3⟩
    · exact .inl h
    · exact .inr ⟨b, o, e, fun hf => by have := hf.2; omega, h2, h3⟩
  · rintro e W' ⟨h1, h2, h3⟩
    exact ⟨h1, ⟨s, _, h2.mono (fun k hk => ⟨hk.1, Nat.lt_of_lt_of_le hk.2 (Nat.le_trans hb.size h3.size)⟩) (fun k hk => hk)⟩, h3.below (hB.trans (hb.mono hB.size)) (fun k hk => hk.1) (Nat.le_trans hB.size hb.size)⟩
theorem own_size (h : Own W Wi g d) : Calls Try.prog 15 #[.pointer (some ⟨g, 0, none⟩)] Wi fun e W' => e = .returned (.int .i64 d.S.length) ∧ Wi = W' := by
  obtain ⟨⟨s, lv, hd⟩, hB⟩ := h
  exact size_disk hd
theorem own_loose (h : Own W Wi g d) (hL : d.L.length ≤ 1000000) : Calls Try.prog 12 #[.pointer (some ⟨g, 0, none⟩)] Wi (LooseIs Wi d.L) := by
  obtain ⟨⟨s, lv, hd⟩, hB⟩ := h
  exact loose_disk hd hL
end
theorem oneByte_len (c : Int) : (oneByte c).length = 256 := List.length_replicate
/-- The disks of the known run. -/
def al1 : Dsk := (newDsk 2).done.add 0 (oneByte 97)
def al2 : Dsk := al1.crash [3]
def al3 : Dsk := { al2 with fused := decide ((0 : Int) ≤ 1), left := 1 }
def al4 : Dsk := al3.done.add 1 (oneByte 98)
theorem al_str : (⟨(al2.get ((0 : Nat) : Int)).toArray⟩ : ByteArray).size = 256 ∧ (⟨(al2.get ((0 : Nat) : Int)).toArray⟩ : ByteArray).extract 0 4 = ⟨#[97, 97, 97, 0]⟩ := by
  constructor <;> kernel_rfl
theorem al_there : (newDsk 2).there 0 = 0 ∧ al2.there ((0 : Nat) : Int) = 0 ∧ al3.there 1 = 0 ∧ al4.there 1 = 50 ∧ al4.S.length = 2 ∧ al4.L.length = 1 ∧ al1.L.length = 1 ∧ al2.L.length = 0 ∧ al3.L.length = 0 ∧ (newDsk 2).L.length = 0 := by
  refine ⟨?_, ?_, ?_, ?_, ?_, ?_, ?_, ?_, ?_, ?_⟩ <;> kernel_rfl
set_option maxRecDepth 100000 in
set_option maxHeartbeats 6400000 in
theorem alive_any (W : World) : Calls Try.prog 8 #[] W fun e W' => e = .returned (.bool true) ∧ Below W.heap.size W W' := by
  obtain ⟨t0, t1, t2, t3, t4, t5, t6, t7, t8, t9⟩ := al_there
  obtain ⟨str, hstr⟩ : ∃ str, (⟨(al2.get ((0 : Nat) : Int)).toArray⟩ : ByteArray) = str := ⟨_, rfl⟩
  obtain ⟨hs1, hs2⟩ : str.size = 256 ∧ str.extract 0 4 = ⟨#[97, 97, 97, 0]⟩ := hstr ▸ al_str
  have T := Lib.hid (And.intro t0 (And.intro t1 (And.intro t2 (And.intro t3 (And.intro t4 (And.intro t5 (And.intro t6 (And.intro t7 (And.intro t8 t9)))))))))
  have ST := Lib.hid hstr
  have HS := Lib.hid (And.intro hs1 hs2)
  clear t0 t1 t2 t3 t4 t5 t6 t7 t8 t9 hstr hs1 hs2
  go_enter Try.func8, Try.ntmps8
  go_wp2_with fail
  refine (own_new 2 (by omega) (by omega) W W (Below.refl _ _)).mono ?_
  rintro e w1 ⟨rfl, hO, _⟩
  have O1 := Lib.hid hO
  clear hO
  go_wp2_with fail
  refine (full_any _ _).mono ?_
  rintro e w2 ⟨rfl, hb⟩
  have O2 := Lib.hid (O1.out.keep hb)
  obtain ⟨sa, hsa⟩ : ∃ sa, (⟨(oneByte 97).toArray⟩ : ByteArray) = sa := ⟨_, rfl⟩
  rw [hsa]
  have SA := Lib.hid (show sa.data.toList = oneByte 97 by rw [← hsa])
  clear O1 hb hsa
  go_wp2_with fail
  refine (own_write 0 sa (oneByte 97) O2.out T.out.1 (oneByte_len _) SA.out (by rw [T.out.2.2.2.2.2.2.2.2.2]; omega)).mono ?_
  rintro e w3 ⟨rfl, hO⟩
  have O3 := Lib.hid (show Own W w3 (W.heap.size + 1) al1 from hO)
  clear hO O2
  go_wp2_with fail
  refine (own_crash_new [3] O3.out (by rw [T.out.2.2.2.2.2.2.1]; omega) (by simp) (w3.alloc (.cells #[.int .i64 3] 3)) ((Below.refl _ _).alloc (Nat.le_refl _) _) (some ⟨w3.heap.size, 0, none⟩) 1 (.inr ⟨w3.heap.size, 0, rfl, Nat.le_refl _, by simp, fun i p hp => by
    have hb := Bk.new w3 #[.int .i64 3] 3
    rw [Nat.zero_add, hb.cell]
    cases i with
    | zero => simp at hp; subst hp; rfl
    | succ i => simp at hp⟩)).mono ?_
  rintro e w4 ⟨rfl, hO⟩
  have O4 := Lib.hid (show Own W w4 (W.heap.size + 1) al2 from hO)
  clear hO O3 SA
  go_wp2_with fail
  refine (own_read 0 str ST.out O4.out T.out.2.1 (by rw [T.out.2.2.2.2.2.2.2.1]; omega)).mono ?_
  rintro e w5 ⟨rfl, hO, _⟩
  have O5 := Lib.hid hO
  clear hO O4 ST
  go_wp2_with fail
  refine (own_fuse 1 (by omega) O5.out).mono ?_
  rintro e w6 ⟨rfl, hO⟩
  have O6 := Lib.hid (show Own W w6 (W.heap.size + 1) al3 from hO)
  clear hO O5
  go_wp2_with fail
  refine (full_any _ _).mono ?_
  rintro e w7 ⟨rfl, hb⟩
  have O7 := Lib.hid (O6.out.keep hb)
  obtain ⟨sb, hsb⟩ : ∃ sb, (⟨(oneByte 98).toArray⟩ : ByteArray) = sb := ⟨_, rfl⟩
  rw [hsb]
  have SB := Lib.hid (show sb.data.toList = oneByte 98 by rw [← hsb])
  clear O6 hb hsb
  go_wp2_with fail
  refine (own_write 1 sb (oneByte 98) O7.out T.out.2.2.1 (oneByte_len _) SB.out (by rw [T.out.2.2.2.2.2.2.2.2.1]; omega)).mono ?_
  rintro e w8 ⟨rfl, hO⟩
  have O8 := Lib.hid (show Own W w8 (W.heap.size + 1) al4 from hO)
  clear hO O7 SB
  go_wp2_with fail
  refine (full_any _ _).mono ?_
  rintro e w9 ⟨rfl, hb⟩
  have O9 := Lib.hid (O8.out.keep hb)
  obtain ⟨sc, hsc⟩ : ∃ sc, (⟨(oneByte 99).toArray⟩ : ByteArray) = sc := ⟨_, rfl⟩
  rw [hsc]
  clear O8 hb hsc
  go_wp2_with fail
  refine (own_write_bad 1 sc O9.out (by rw [T.out.2.2.2.1]; omega)).mono ?_
  rintro e w10 ⟨rfl, rfl⟩
  rw [T.out.2.2.2.1]
  have hs1 : (str.size : Int) = 256 := by have := HS.out.1; omega
  have hs2 := HS.out.2
  have hs3 : 4 ≤ str.size := by have := HS.out.1; omega
  go_wp2_with fail
  refine (own_size O9.out).mono ?_
  rintro e w11 ⟨rfl, rfl⟩
  rw [T.out.2.2.2.2.1]
  clear hs1 hs2 hs3
  go_wp2_with fail
  refine (own_loose O9.out (by rw [T.out.2.2.2.2.2.1]; omega)).mono ?_
  rintro e w12 ⟨A, c, rfl, _, hb⟩
  have HB := Lib.hid (O9.out.2.trans (hb.mono O9.out.2.size))
  rw [T.out.2.2.2.2.2.1]
  clear hb O9
  go_wp2_with fail
  go_ret
  exact ⟨rfl, HB.out⟩

end Go.Proofs.Ytbobbekbliichaa
