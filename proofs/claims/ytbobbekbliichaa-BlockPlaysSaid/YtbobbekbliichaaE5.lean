import Derived.Test.YtbobbekbliichaaE4
import Derived.Great.BuildSlice
import Derived.Laws.CopyRow
import Derived.Deep.WholeRow
namespace Go.Proofs.Ytbobbekbliichaa
open Go.RowKit
set_option linter.unusedSimpArgs false
set_option linter.unusedVariables false


open Go.Lib (byteCells byteCells_length byteCells_one)
section
variable {ev : Operand → Value} {o : Oper} {W : World}
theorem ex_slice_all (x : Operand) (b p : Nat) (ho : o.op = .slice 69 x none none none) (hx : ev x = .pointer (some ⟨b, p, none⟩)) : (execOp ev o).run Try.prog W = .ok (.value (.slice (some ⟨b, p, none⟩) 256 256)) W := by
  unfold execOp
  simp only [ho, hx]
  simp [go_sem]
theorem ex_slice_to (x y : Operand) (b p k : Nat) (hk : k ≤ 256) (ho : o.op = .slice 69 x none (some y) none) (hx : ev x = .pointer (some ⟨b, p, none⟩)) (hy : ev y = .int .i64 k) : (execOp ev o).run Try.prog W = .ok (.value (.slice (some ⟨b, p, none⟩) k 256)) W := by
  have h1 : (k : Int) ≤ 256 := by omega
  unfold execOp
  simp only [ho, hx, Option.map_some, Option.map_none, hy]
  simp [go_sem, h1]
theorem ex_buildSlice58 (x : Operand) (C : Array Value) (hC : C.size = 257) (ho : o.op = .buildSlice 58 1 #[(0, x)]) (hx : ev x = .agg C) : (execOp ev o).run Try.prog W = .ok (.value (.slice (some ⟨W.heap.size, 0, none⟩) 1 1)) (W.alloc (.cells C 71)) := by
  obtain ⟨i, hi, hz, hs, hb⟩ := info_of info71
  have hf : Instr.fill (fun j => some (j * i.size, i.size)) ((Array.range (1 * i.size)).map ((Value.agg (#[Value.int .i64 0] ++ Array.replicate 256 (Value.int .u8 0))).cells[· % (Value.agg (#[Value.int .i64 0] ++ Array.replicate 256 (Value.int .u8 0))).cells.size]!)) (#[(0, Value.agg C)] : Array (Nat × Value)).toList = some C := by
    have := Go.Great.fill_whole (s := i.size) (by rw [hs]; omega) [Value.agg C] ((Array.range (1 * i.size)).map ((Value.agg (#[Value.int .i64 0] ++ Array.replicate 256 (Value.int .u8 0))).cells[· % (Value.agg (#[Value.int .i64 0] ++ Array.replicate 256 (Value.int .u8 0))).cells.size]!))
      (fun v hv => by simp at hv; subst hv; rw [hs]; exact hC) (by simp)
    simpa [Value.cells] using this
  have h := run_buildSlice (P := Try.prog) W 58 71 1 #[(0, .agg C)] C i _ Try.underlying58 hi hz (by rw [hs]; omega) (by rw [hs]; omega) hf
  unfold execOp
  simp only [ho, List.map_toArray, List.map_cons, List.map_nil, hx, Sem.run_bind, h, Result.andThen_ok, Sem.run_pure]
/-- Where the row lies behind an append of some elements: where it lay, or in the newest block. -/
theorem append_where {P : Program} (w : World) (base : Nat) (t ty e : TypeId) (i : TypeInfo) (z : Value) (ht : P.underlying t = some (.slice e)) (hi : P.info? e = some i) (hz : i.zero = some z)
    (v : Value) (n : Nat) (xs : List Value) (hown : w.ownsRow base e i.size v n xs)
    (a : Addr) (m c : Nat) (news : List Value) (hl : news.length = m * i.size) (hnews : ∀ j u, news[j]? = some u → w.cell? (a.add j) = some u) (h1 : ∀ u ∈ news, u.oneCell' = true) (hm : 0 < m)
    (h63 : n + m ≤ maxLen) (hbytes : (n + m) * i.bytes ≤ 140737488355328) (v' : Value) (w' : World) (hr : (Builtin.append_ #[t, t] ty #[v, .slice (some a) m c]).run P w = .ok v' w') :
    ∃ g cap, v' = .slice (some ⟨g, 0, none⟩) (n + m) cap ∧ (v.ownBlock = some g ∨ g = w.heap.size) := by
  have hsmall : n + m ≤ 9223372036854775807 := by simp only [maxLen] at h63; omega
  rcases hown.2 with ⟨rfl, rfl⟩ | ⟨g, cap, cur, rfl, hbg, hg, hnc, hcm, hcs, htake⟩
  · rw [run_append_nil (P := P) w t ty e i z ht hi hz a m c news hl hnews hm (by omega) (by have hb := hbytes; simp only [Nat.zero_add] at hb; omega)] at hr
    injection hr with hr _
    exact ⟨_, _, by rw [← hr, Nat.zero_add], .inr rfl⟩
  · by_cases hroom : n + m ≤ cap
    · have hfit : n * i.size + news.length ≤ cur.size := by rw [hl, hcs, ← Nat.add_mul]; exact Nat.mul_le_mul_right _ hroom
      rw [run_append_room (P := P) w t ty e i ht hi g n cap cur hg a m c news hl hnews h1 hroom hfit] at hr
      injection hr with hr _
      exact ⟨_, _, hr.symm, .inl rfl⟩
    · have holds : ∀ j u, xs[j]? = some u → w.cell? ((⟨g, 0, none⟩ : Addr).add j) = some u := hown.cells (g := g) rfl
      rw [run_append_grow (P := P) w t ty e i z ht hi hz ⟨g, 0, none⟩ n cap xs hown.1 holds a m c news hl hnews (by omega) (by omega) (growslice_fits (by omega) hbytes)] at hr
      injection hr with hr _
      exact ⟨_, _, hr.symm, .inr rfl⟩
/-- One loose write goes onto the row. -/
theorem app58 {B n : Nat} {v : Value} {xs : List Value} (ty : TypeId) (ad : Addr) (news : List Value) (hn : n ≤ 1000000) (hown : W.ownsRow B 71 257 v n xs) (hl : news.length = 257) (hnews : ∀ j u, news[j]? = some u → W.cell? (ad.add j) = some u) (h1 : ∀ u ∈ news, u.oneCell' = true) (hB : B ≤ W.heap.size) :
    ∃ g' cap' W', (Builtin.append_ #[58, 58] ty #[v, .slice (some ad) 1 1]).run Try.prog W = .ok (.slice (some ⟨g', 0, none⟩) (n + 1) cap') W' ∧ W'.ownsRow B 71 257 (.slice (some ⟨g', 0, none⟩) (n + 1) cap') (n + 1) (xs ++ news) ∧ W.grownBy W' v.ownBlock ∧ (v.ownBlock = some g' ∨ g' = W.heap.size) := by
  obtain ⟨i, hi, hz, hsz, hb⟩ := info_of info71
  obtain ⟨v', W', hr, h2, h3, h4⟩ := run_append_own (P := Try.prog) W B 58 ty 71 i _ 257 264 Try.underlying58 hi hz hsz hb (by show (#[Value.int .i64 0] ++ Array.replicate 256 (Value.int .u8 0)).size = 257; rw [Array.size_append, Array.size_replicate]; rfl) (by omega) v n xs hown ad 1 1 news (by rw [hl]) hnews h1 (by simp [maxLen]; omega) (by omega) hB
  obtain ⟨g', cap', rfl, hwh⟩ := append_where (P := Try.prog) W B 58 ty 71 i _ Try.underlying58 hi hz v n xs (by rw [hsz]; exact hown) ad 1 1 news (by rw [hl, hsz]) hnews h1 (by omega) (by simp [maxLen]; omega) (by rw [hb]; omega) v' W' hr
  exact ⟨g', cap', W', hr, h2, h3, hwh⟩
theorem ex_app (s x : Operand) (t : TypeId) {vs vx r : Value} {W' : World} (ho : o.op = .call { callee := .builtin .append, args := #[s, x], argTypes := #[t, t] }) (hs : ev s = vs) (hx : ev x = vx) (hr : (Builtin.append_ #[t, t] o.type #[vs, vx]).run Try.prog W = .ok r W') :
    (execOp ev o).run Try.prog W = .ok (.value r) W' := by
  unfold execOp
  simp only [ho, resolve, invoke, builtin, Sem.run_bind, Sem.run_pure, Result.andThen_ok, List.map_toArray, List.map_cons, List.map_nil, hs, hx, hr]
theorem ex_store_new (ty : TypeId) (x y : Operand) (c c' : Array Value) (ho : o.op = .store ty x y) (hx : ev x = .pointer (some ⟨W.heap.size, 0, none⟩)) (hy : ev y = .agg c') (hi : (Try.prog.info? ty).map (·.size) = some c'.size) (hc : c.size = c'.size) (h1 : c'.all (·.oneCell') = true) :
    (execOp ev o).run Try.prog (W.alloc (.cells c ty)) = .ok .skip (W.alloc (.cells c' ty)) := by
  unfold execOp
  simp only [ho, hx, hy, Sem.run_bind, Sem.run_pure, Result.andThen_ok, run_storeAt_new W ty c c' hi hc h1]
theorem ex_copy_str (d s : Operand) (g p : Nat) (str : ByteArray) (cur : Array Value) (t : TypeId) (ho : o.op = .call { callee := .builtin .copy, args := #[d, s], argTypes := #[61, 9] }) (hd : ev d = .slice (some ⟨g, p, none⟩) 256 256) (hs : ev s = .string str)
    (hg : W.heap[g]? = some (.cells cur t (0, 0))) (hle : str.size = 256) (hfit : p + 256 ≤ cur.size) :
    (execOp ev o).run Try.prog W = .ok (.value (goInt 256)) (W.setRow g (cur.toList.take p ++ byteCells str.data.toList ++ cur.toList.drop (p + 256)).toArray) := by
  obtain ⟨i, hi, hz, hsz, hb⟩ := info_of info5
  have hr := Go.Lib.run_copy_row_string (P := Try.prog) W 61 9 o.type 5 g p 256 256 str cur t Try.underlying61 (by rw [hi]; simp [hsz]) hg (by omega) (by rw [hle]; exact hfit)
  unfold execOp
  simp only [ho, resolve, invoke, builtin, Sem.run_bind, Sem.run_pure, Result.andThen_ok, List.map_toArray, List.map_cons, List.map_nil, hd, hs, hr, hle]
  rfl
/-- Bytes go over from one array to another. -/
theorem ex_copy_row (d s : Operand) (g p k : Nat) (ad : Addr) (cs : List Value) (cur : Array Value) (t : TypeId) (ho : o.op = .call { callee := .builtin .copy, args := #[d, s], argTypes := #[61, 61] }) (hd : ev d = .slice (some ⟨g, p, none⟩) k 256) (hs : ev s = .slice (some ad) k 256)
    (hg : W.heap[g]? = some (.cells cur t (0, 0))) (hl : cs.length = k) (hsrc : ∀ j v, cs[j]? = some v → W.cell? (ad.add j) = some v) (hfit : p + k ≤ cur.size) (h1 : ∀ v ∈ cs, v.oneCell' = true) :
    (execOp ev o).run Try.prog W = .ok (.value (goInt k)) (W.setRow g (cur.toList.take p ++ cs ++ cur.toList.drop (p + k)).toArray) := by
  obtain ⟨i, hi, hz, hsz, hb⟩ := info_of info5
  have hr := run_copy_row (P := Try.prog) W 61 61 o.type 5 g p k 256 ad k 256 cur t cs Try.underlying61 (by rw [hi]; simp [hsz]) hg (by rw [hl]; simp) hsrc (by rw [hl]; exact hfit) h1
  rw [hl] at hr
  unfold execOp
  simp only [ho, resolve, invoke, builtin, Sem.run_bind, Sem.run_pure, Result.andThen_ok, List.map_toArray, List.map_cons, List.map_nil, hd, hs, hr]
end

end Go.Proofs.Ytbobbekbliichaa
