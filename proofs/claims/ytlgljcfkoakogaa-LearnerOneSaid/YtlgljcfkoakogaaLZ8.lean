import Derived.Test.YtlgljcfkoakogaaLZ7
import Derived.Test.YtlgljcfkoakogaaLP1
import Derived.Deep.DeepCutAuto
namespace Go.Proofs.Ytlgljcfkoakogaa
open Go.RowKit
set_option linter.unusedSimpArgs false
set_option linter.unusedVariables false


open Go.Maps Go.Shelf
/-- 'append(s, xs..)' of a row: where the new row lies. -/
theorem app_where {w : World} (t ty e : TypeId) (i : TypeInfo) (z : Value) (size bytes : Nat) (ht : Try.prog.underlying t = some (.slice e)) (hi : Try.prog.info? e = some i) (hz : i.zero = some z)
    (hsize : i.size = size) (hby : i.bytes = bytes) (hzs : z.cells.size = size) (hsz : 0 < size)
    {v : Value} {n : Nat} {xs : List Value} (hown : w.ownsRow 0 e size v n xs) (a : Addr) (m c : Nat) (news : List Value) (hl : news.length = m * size) (hnews : ∀ j u, news[j]? = some u → w.cell? (a.add j) = some u) (h1 : ∀ u ∈ news, u.oneCell' = true)
    (h63 : n + m ≤ maxLen) (hbytes : (n + m) * bytes ≤ 140737488355328) :
    ∃ v' w', (Builtin.append_ #[t, t] ty #[v, .slice (some a) m c]).run Try.prog w = .ok v' w' ∧ w'.ownsRow 0 e size v' (n + m) (xs ++ news) ∧ w.grownBy w' v.ownBlock ∧ (∀ j, v'.ownBlock = some j → v.ownBlock = some j ∨ w.heap.size ≤ j) := by
  obtain ⟨v', w', hr, ho, hg, _⟩ := run_append_own (P := Try.prog) w 0 t ty e i z size bytes ht hi hz hsize hby hzs hsz v n xs hown a m c news hl hnews h1 h63 hbytes (Nat.zero_le _)
  refine ⟨v', w', hr, ho, hg, ?_⟩
  rcases hown.2 with ⟨rfl, rfl⟩ | ⟨g, cap, cur, rfl, _, hgb, hnc, hcm, hcs, htake⟩
  · have hn : w.ownsRow w.heap.size e size (.slice none 0 0) 0 xs := ⟨hown.1, .inl ⟨rfl, rfl⟩⟩
    obtain ⟨v2, w2, hr2, ho2, _, _⟩ := run_append_own (P := Try.prog) w w.heap.size t ty e i z size bytes ht hi hz hsize hby hzs hsz _ 0 xs hn a m c news hl hnews h1 h63 hbytes (Nat.le_refl _)
    rw [hr] at hr2
    injection hr2 with e1 e2
    subst e1 e2
    intro j hj
    exact .inr (ho2.lt j hj).1
  · by_cases hroom : n + m ≤ cap
    · have hr2 := run_append_room (P := Try.prog) w t ty e i ht hi g n cap cur hgb a m c news (by rw [hsize]; exact hl) hnews h1 hroom (by
        rw [hsize, hcs, hl, ← Nat.add_mul]
        exact Nat.mul_le_mul_right _ hroom)
      rw [hr] at hr2
      injection hr2 with e1 e2
      subst e1
      intro j hj
      exact .inl hj
    · have holds : ∀ j u, xs[j]? = some u → w.cell? ((⟨g, 0, none⟩ : Addr).add j) = some u := hown.cells rfl
      have hr2 := run_append_grow (P := Try.prog) w t ty e i z ht hi hz ⟨g, 0, none⟩ n cap xs (by rw [hsize]; exact hown.1) holds a m c news (by rw [hsize]; exact hl) hnews (by omega) (by unfold maxLen at h63; omega) (by
        rw [hby]
        exact Go.growslice_fits (by omega) hbytes)
      rw [hr] at hr2
      injection hr2 with e1 e2
      subst e1
      intro j hj
      simp [Value.ownBlock] at hj
      exact .inr (by omega)
theorem wp_app_where {ops : Array Oper} {rest : List Oper} {o : Oper} {a : Act} {Q : Exit → Act → World → Prop} {w : World} (hg : o.guard = none) (s x : Operand) (t : TypeId) (hop : o.op = Op.call { callee := Callee.builtin Builtin.append, args := #[s, x], argTypes := #[t, t] })
    (e : TypeId) (i : TypeInfo) (z : Value) (size bytes : Nat) (ht : Try.prog.underlying t = some (.slice e)) (hi : Try.prog.info? e = some i) (hz : i.zero = some z)
    (hsize : i.size = size) (hby : i.bytes = bytes) (hzs : z.cells.size = size) (hsz : 0 < size)
    (v : Value) (n : Nat) (xs : List Value) (hs : a.eval s = v) (hown : w.ownsRow 0 e size v n xs) (ad : Addr) (m c : Nat) (news : List Value) (hx : a.eval x = .slice (some ad) m c) (hl : news.length = m * size) (hnews : ∀ j u, news[j]? = some u → w.cell? (ad.add j) = some u) (h1 : ∀ u ∈ news, u.oneCell' = true)
    (h63 : n + m ≤ maxLen) (hbytes : (n + m) * bytes ≤ 140737488355328)
    (hK : ∀ v' w', w'.ownsRow 0 e size v' (n + m) (xs ++ news) → w.grownBy w' v.ownBlock → (∀ j, v'.ownBlock = some j → v.ownBlock = some j ∨ w.heap.size ≤ j) → wpList Try.prog ops Q rest (a.put o.dst v') w') :
    wpList Try.prog ops Q (o :: rest) a w := by
  refine wpList_plain hg fun K hK' => ?_
  obtain ⟨v', w', hrun, r1, r2, r3⟩ := app_where t o.type e i z size bytes ht hi hz hsize hby hzs hsz hown ad m c news hl hnews h1 h63 hbytes
  unfold Oper.wp execOp
  simp only [hop, resolve, invoke, builtin, Sem.run_bind, Sem.run_pure, Result.andThen_ok, List.map_toArray, List.map_cons, List.map_nil, hs, hx, hrun]
  exact hK' _ _ (hK v' w' r1 r2 r3)
/-- What a message brings forth, whatever it is. -/
theorem taken_any {W : World} {col : Nat → Col} {S : Sys} {A : Nat → Int → Prop} {gA gL mL : Nat → Nat} {pp : Nat → PAt} {sn sh sa : Value} {M : Nat} (h : Mem W col S gA gL mL pp sn sh sa) (hI : Inv S A) (hS : Small S M) (hM : M < 999999) (m : Nt) (hm : MsgOk S A m) :
    Calls Try.prog 55 #[.agg m.cells.toArray, sn, sh, sa, .int .i64 S.N] W (TakenPost W col S A gA gL mL sn sh sa M) := by
  obtain ⟨kind, p, tn, r, n, c, u⟩ := m
  have hk : kind = 0 ∨ kind = 1 ∨ kind = 2 ∨ kind = 3 ∨ kind = 4 := by
    rcases hm.kinds with ⟨h0, _⟩ | ⟨h0, _⟩ | ⟨h0, _⟩ | ⟨h0, _⟩ | ⟨h0, _⟩
    · exact .inl h0
    · exact .inr (.inl h0)
    · exact .inr (.inr (.inl h0))
    · exact .inr (.inr (.inr (.inl h0)))
    · exact .inr (.inr (.inr (.inr h0)))
  rcases hk with rfl | rfl | rfl | rfl | rfl
  · exact taken0 h hI hS p tn r n c u hm
  · exact taken1 h hI hS hM p tn r n c u hm
  · exact taken2 h hI hS p tn r n c u hm
  · exact taken3 h hI hS hM p tn r n c u hm
  · exact taken4 h hI hS hM p tn r n c u hm

end Go.Proofs.Ytlgljcfkoakogaa

namespace Go.Proofs.Ytlgljcfkoakogaa
open Go.RowKit
set_option linter.unusedSimpArgs false
set_option linter.unusedVariables false


open Go.Maps Go.Shelf
section
variable {W W' : World} {col : Nat → Col} {S : Sys} {gA gL mL : Nat → Nat} {pp : Nat → PAt} {sn sh sa : Value}
theorem Mem.fresh (h : Mem W col S gA gL mL pp sn sh sa) (c : Col) : Mem W (fresh col W.heap.size c) S gA gL mL pp sn sh sa := by
  refine ⟨fun j hj => ?_, fun j hj => ?_, fun p P hP => ?_, ⟨h.nodes.1, h.nodes.2.fresh (fun b hb => (h.nodes.1.lt b hb).2)⟩, ⟨h.hear.1, h.hear.2.fresh (fun b hb => (h.hear.1.lt b hb).2)⟩, ⟨h.all.1, h.all.2.fresh (fun b hb => (h.all.1.lt b hb).2)⟩⟩
  · obtain ⟨h1, h2⟩ := h.acc j hj
    exact ⟨h1, by rw [fresh_old h1.lt]; exact h2⟩
  · obtain ⟨h1, h2, h3⟩ := h.lrn j hj
    exact ⟨h1, by rw [fresh_old h1.bk.lt]; exact h2, by rw [fresh_old h1.said.lt]; exact h3⟩
  · obtain ⟨h1, h2, h3, h4, h5⟩ := h.prp p P hP
    exact ⟨h1, by rw [fresh_old h1.bk.lt]; exact h2, by rw [fresh_old h1.pr.lt]; exact h3, by rw [fresh_old h1.ac.lt]; exact h4, h5.fresh (fun b hb => (h1.row.lt b hb).2)⟩
theorem Mem.pool (h : Mem W col S gA gL mL pp sn sh sa) (k : Only col .pool W W') : Mem W' col S gA gL mL pp sn sh sa := by
  refine ⟨fun j hj => ?_, fun j hj => ?_, fun p P hP => ?_, ⟨row_only h.nodes.1 h.nodes.2 k (by simp), h.nodes.2⟩, ⟨row_only h.hear.1 h.hear.2 k (by simp), h.hear.2⟩, ⟨row_only h.all.1 h.all.2 k (by simp), h.all.2⟩⟩
  · obtain ⟨h1, h2⟩ := h.acc j hj
    exact ⟨acc_only h1 h2 k (by simp), h2⟩
  · obtain ⟨h1, h2, h3⟩ := h.lrn j hj
    exact ⟨lrn_only h1 h2 h3 k (by simp), h2, h3⟩
  · obtain ⟨h1, h2, h3, h4, h5⟩ := h.prp p P hP
    exact ⟨prp_only h1 h2 h3 h4 h5 k (by simp), h2, h3, h4, h5⟩
theorem RowOf.app {c : Col} {v v' : Value} (h : RowOf col c v) (hlt : ∀ b, v.ownBlock = some b → b < W.heap.size) (foot : ∀ j, v'.ownBlock = some j → v.ownBlock = some j ∨ W.heap.size ≤ j) : RowOf (Go.Proofs.Ytlgljcfkoakogaa.fresh col W.heap.size c) c v' := fun k hk => by
  rcases foot k hk with h1 | h1
  · rw [fresh_old (hlt k h1)]; exact h k h1
  · exact fresh_new h1
theorem grown_only {c : Col} {v : Value} (hg : W.grownBy W' v.ownBlock) (hr : RowOf col c v) : Only col c W W' := (show Kept (fun k => col k = c) W W from Kept.refl _ _).grownF hg (fun k e => .inl (hr k e))
theorem Only.fresh {c c' : Col} {B : Nat} (k : Only col c W W') (hB : W.heap.size ≤ B) : Only (Go.Proofs.Ytlgljcfkoakogaa.fresh col B c') c W W' :=
  ⟨k.os, k.tape, k.output, k.size, fun b hb hn => k.block b hb (fun e => hn (by
    show Go.Proofs.Ytlgljcfkoakogaa.fresh col B c' b = c
    rw [fresh_old (Nat.lt_of_lt_of_le hb hB)]
    exact e))⟩
theorem grown_step {W0 : World} {row row' : Option Nat} (h : W0.grownBy W row) (hg : W.grownBy W' row') (hf : ∀ b, row' = some b → row = some b ∨ W0.heap.size ≤ b) : W0.grownBy W' row :=
  ⟨hg.os.trans h.os, hg.tape.trans h.tape, hg.output.trans h.output, Nat.le_trans h.size hg.size, fun k hk hne => (hg.block k (Nat.lt_of_lt_of_le hk h.size) (fun e => by
    rcases hf k e.symm with h1 | h1
    · exact hne h1.symm
    · omega)).trans (h.block k hk hne)⟩
def setN (f : Nat → Nat) (k a : Nat) : Nat → Nat := fun j => if j = k then a else f j
theorem ptrs_snoc (f : Nat → Nat) (k a : Nat) : ptrs (k + 1) (setN f k a) = ptrs k f ++ [.pointer (some ⟨a, 0, none⟩)] := by
  unfold ptrs
  rw [List.range_succ, List.map_append]
  congr 1
  · apply List.map_congr_left
    intro j hj
    have := List.mem_range.1 hj
    unfold setN
    rw [if_neg (by omega)]
  · unfold setN
    simp
theorem ptrs_snocP (pp : Nat → PAt) (k : Nat) (a : PAt) : ptrs (k + 1) (fun p => (setP pp k a p).g) = ptrs k (fun p => (pp p).g) ++ [.pointer (some ⟨a.g, 0, none⟩)] := by
  unfold ptrs
  rw [List.range_succ, List.map_append]
  congr 1
  · apply List.map_congr_left
    intro j hj
    have := List.mem_range.1 hj
    unfold setP
    dsimp only
    rw [if_neg (by omega)]
  · unfold setP
    simp
/-- A new proposer. -/
theorem Mem.propose (h : Mem W col S gA gL mL pp sn sh sa) {n0 : Int} {own : ByteArray} {g pm am : Nat} (hP : PropAt W g pm am (.slice none 0 0) (prpNew ((S.ps.length : Int) + 1) n0 S.N own)) (cg : col g = .prp S.ps.length) (cp : col pm = .prp S.ps.length) (ca : col am = .prp S.ps.length)
    (k : Only col .all W W') {sa' : Value} (hr : W'.ownsRow 0 86 1 sa' (S.ps.length + 1) (ptrs S.ps.length (fun p => (pp p).g) ++ [.pointer (some ⟨g, 0, none⟩)])) (hc : RowOf col .all sa') :
    Mem W' col (S.propose n0 own) gA gL mL (setP pp S.ps.length ⟨g, pm, am, .slice none 0 0⟩) sn sh sa' := by
  refine ⟨fun j hj => ?_, fun j hj => ?_, fun p P hP' => ?_, ⟨row_only h.nodes.1 h.nodes.2 k (by simp), h.nodes.2⟩, ⟨row_only h.hear.1 h.hear.2 k (by simp), h.hear.2⟩, ⟨?_, hc⟩⟩
  · obtain ⟨h1, h2⟩ := h.acc j hj
    exact ⟨acc_only h1 h2 k (by simp), h2⟩
  · obtain ⟨h1, h2, h3⟩ := h.lrn j hj
    exact ⟨lrn_only h1 h2 h3 k (by simp), h2, h3⟩
  · have hP2 : (S.ps ++ [prpNew ((S.ps.length : Int) + 1) n0 S.N own])[p]? = some P := hP'
    unfold setP
    rcases Nat.lt_or_ge p S.ps.length with h1 | h1
    · rw [List.getElem?_append_left h1] at hP2
      rw [if_neg (by omega)]
      obtain ⟨h1, h2, h3, h4, h5⟩ := h.prp p P hP2
      exact ⟨prp_only h1 h2 h3 h4 h5 k (by simp), h2, h3, h4, h5⟩
    · rw [List.getElem?_append_right h1] at hP2
      rcases Nat.lt_or_ge (p - S.ps.length) 1 with h2 | h2
      · have : p = S.ps.length := by omega
        subst this
        simp at hP2
        subst hP2
        rw [if_pos rfl]
        have hno : RowOf col (.prp S.ps.length) (Value.slice none 0 0) := fun b hb => by cases hb
        exact ⟨prp_only hP cg cp ca hno k (by simp), cg, cp, ca, hno⟩
      · rw [List.getElem?_eq_none (by simpa using h2)] at hP2; cases hP2
  · have hl : (S.propose n0 own).ps.length = S.ps.length + 1 := by unfold Sys.propose; simp
    rw [hl, ptrs_snocP]
    exact hr
end
/-- While the world is made. -/
def pp0 : Nat → PAt := fun _ => ⟨0, 0, 0, .slice none 0 0⟩
def S0 (L : Lrn) (k : Nat) : Sys := ⟨k, fun _ => Acc.zero, fun _ => L, []⟩
structure StartC (w0 W : World) (col : Nat → Col) (gA gL mL : Nat → Nat) (L : Lrn) (k : Nat) (sn sh : Value) : Prop where
  mem : Mem W col (S0 L k) gA gL mL pp0 sn sh (.slice none 0 0)
  low : ∀ b, b < w0.heap.size → col b = .none
  below : Below w0.heap.size w0 W
def Start (w0 W : World) (L : Lrn) (k : Nat) (sn sh : Value) : Prop := ∃ col gA gL mL, StartC w0 W col gA gL mL L k sn sh
theorem start_zero (w : World) (L : Lrn) : Start w w L 0 (.slice none 0 0) (.slice none 0 0) :=
  ⟨fun _ => .none, fun _ => 0, fun _ => 0, fun _ => 0, ⟨(fun j hj => absurd hj (Nat.not_lt_zero _)), (fun j hj => absurd hj (Nat.not_lt_zero _)), (fun p P hP => by simp [S0] at hP), ⟨World.ownsRow_nil _ _ _ _, fun b hb => by cases hb⟩, ⟨World.ownsRow_nil _ _ _ _, fun b hb => by cases hb⟩, ⟨World.ownsRow_nil _ _ _ _, fun b hb => by cases hb⟩⟩, fun _ _ => rfl, Below.refl _ _⟩
theorem StartC.next {w0 W W1 W2 W3 W4 W5 W6 : World} {col : Nat → Col} {gA gL mL : Nat → Nat} {L : Lrn} {k : Nat} {sn sh sn' sh' : Value} {gl ml ga : Nat} (h : StartC w0 W col gA gL mL L k sn sh)
    (hb1 : Below W.heap.size W W1) (hL : LrnAt W1 gl ml L) (hgl : W.heap.size ≤ gl) (hml : W.heap.size ≤ ml) (hb2 : Below W1.heap.size W1 W2) (hA : Bk W2 ga Acc.zero.cells 116) (hga : W1.heap.size ≤ ga) (hb3 : Below W2.heap.size W2 W3)
    (hg4 : W3.grownBy W4 sh.ownBlock) (hr4 : W4.ownsRow 0 67 1 sh' (k + 1) (ptrs k gL ++ [.pointer (some ⟨gl, 0, none⟩)])) (hf4 : ∀ j, sh'.ownBlock = some j → sh.ownBlock = some j ∨ W3.heap.size ≤ j) (hb5 : Below W4.heap.size W4 W5)
    (hg6 : W5.grownBy W6 sn.ownBlock) (hr6 : W6.ownsRow 0 44 1 sn' (k + 1) (ptrs k gA ++ [.pointer (some ⟨ga, 0, none⟩)])) (hf6 : ∀ j, sn'.ownBlock = some j → sn.ownBlock = some j ∨ W5.heap.size ≤ j) : Start w0 W6 L (k + 1) sn' sh' := by
  have s1 := hb1.size
  have s2 := hb2.size
  have s3 := hb3.size
  have s4 := hg4.size
  have s5 := hb5.size
  have s0 := h.below.size
  have hglt := hL.bk.lt
  have hmlt := hL.said.lt
  have halt := hA.lt
  have m1 := ((h.mem.fresh (.lrn k)).keep hb1).fresh (.acc k)
  have m3 := ((m1.keep hb2).keep hb3).fresh .hear
  have k4 := grown_only hg4 m3.hear.2
  have r4 := m1.hear.2.app (fun b hb => ((m1.keep hb2).keep hb3).hear.1.lt b hb |>.2) hf4
  have n3 : RowOf _ .nodes sn := m3.nodes.2
  have n4 : W4.ownsRow 0 44 1 sn k (ptrs k gA) := row_only m3.nodes.1 m3.nodes.2 k4 (by simp)
  have n5 := row_bel n4 hb5
  have r6 := n3.app (fun b hb => (n5.lt b hb).2) hf6
  have n5c := n3.fresh (c' := .nodes) (fun b hb => (n5.lt b hb).2)
  have k6 := grown_only hg6 n5c
  generalize hcol3 : fresh (fresh (fresh col W.heap.size (.lrn k)) W1.heap.size (.acc k)) W3.heap.size .hear = col3 at *
  have cgl : col3 gl = .lrn k := by rw [← hcol3, fresh_old (by omega), fresh_old (by omega), fresh_new hgl]
  have cml : col3 ml = .lrn k := by rw [← hcol3, fresh_old (by omega), fresh_old (by omega), fresh_new hml]
  have cga : col3 ga = .acc k := by rw [← hcol3, fresh_old (by omega), fresh_new hga]
  have old : ∀ b, b < W5.heap.size → fresh col3 W5.heap.size .nodes b = col3 b := fun b hb => fresh_old hb
  have carry : ∀ {g : Nat} {cs : Array Value} {ty : TypeId} {j : Nat}, Bk W3 g cs ty → col3 g = .acc j → Bk W6 g cs ty ∧ fresh col3 W5.heap.size .nodes g = .acc j := fun {g cs ty j} hB hc => by
    have h4 := (acc_only hB hc k4 (by simp)).bel hb5
    have hc5 : fresh col3 W5.heap.size .nodes g = .acc j := by rw [old g h4.lt]; exact hc
    exact ⟨acc_only h4 hc5 k6 (by simp), hc5⟩
  have carryL : ∀ {g m : Nat} {j : Nat} {L : Lrn}, LrnAt W3 g m L → col3 g = .lrn j → col3 m = .lrn j → LrnAt W6 g m L ∧ fresh col3 W5.heap.size .nodes g = .lrn j ∧ fresh col3 W5.heap.size .nodes m = .lrn j := fun {g m j L} hB hc hd => by
    have h4 := (lrn_only hB hc hd k4 (by simp)).keep hb5
    have hc5 : fresh col3 W5.heap.size .nodes g = .lrn j := by rw [old g h4.bk.lt]; exact hc
    have hd5 : fresh col3 W5.heap.size .nodes m = .lrn j := by rw [old m h4.said.lt]; exact hd
    exact ⟨lrn_only h4 hc5 hd5 k6 (by simp), hc5, hd5⟩
  refine ⟨fresh col3 W5.heap.size .nodes, setN gA k ga, setN gL k gl, setN mL k ml, ⟨fun j hj => ?_, fun j hj => ?_, fun p P hP => by simp [S0] at hP, ⟨?_, r6⟩, ⟨?_, ?_⟩, ⟨World.ownsRow_nil _ _ _ _, fun b hb => by cases hb⟩⟩, fun b hb => ?_, ?_⟩
  · have hj : j < k + 1 := hj
    unfold setN
    by_cases e : j = k
    · rw [if_pos e, e]
      exact carry (hA.bel hb3) cga
    · rw [if_neg e]
      obtain ⟨a1, a2⟩ := m3.acc j (show j < k by omega)
      exact carry a1 a2
  · have hj : j < k + 1 := hj
    unfold setN
    by_cases e : j = k
    · rw [if_pos e, if_pos e, e]
      exact carryL ((hL.keep hb2).keep hb3) cgl cml
    · rw [if_neg e, if_neg e]
      obtain ⟨a1, a2, a3⟩ := m3.lrn j (show j < k by omega)
      exact carryL a1 a2 a3
  · show W6.ownsRow 0 44 1 sn' (k + 1) (ptrs (k + 1) (setN gA k ga))
    rw [ptrs_snoc]
    exact hr6
  · show W6.ownsRow 0 67 1 sh' (k + 1) (ptrs (k + 1) (setN gL k gl))
    rw [ptrs_snoc]
    have h5 := row_bel hr4 hb5
    have r5 := r4.fresh (B := W5.heap.size) (c' := .nodes) (fun b hb => (h5.lt b hb).2)
    exact row_only h5 r5 k6 (by simp)
  · exact r4.fresh (fun b hb => ((row_bel hr4 hb5).lt b hb).2)
  · rw [old b (by omega), ← hcol3, fresh_old (by omega), fresh_old (by omega), fresh_old (by omega)]
    exact h.low b hb
  · have hbe := (h.below.trans (hb1.mono (by omega))).trans ((hb2.mono (by omega)).trans (hb3.mono (by omega)))
    have b3 : Below w0.heap.size w0 W3 := hbe
    have hlow : ∀ b, b < w0.heap.size → col3 b = .none := fun b hb => by
      rw [← hcol3, fresh_old (by omega), fresh_old (by omega), fresh_old (by omega)]
      exact h.low b hb
    have b4 := Kept.below k4 b3 (fun b hb => by
      rcases Nat.lt_or_ge b w0.heap.size with h1 | h1
      · rw [hlow b h1] at hb; cases hb
      · exact h1) (by omega)
    have b5 := b4.trans (hb5.mono (by omega))
    exact Kept.below k6 b5 (fun b hb => by
      rcases Nat.lt_or_ge b w0.heap.size with h1 | h1
      · rw [old b (by omega), hlow b h1] at hb; cases hb
      · exact h1) (by omega)

end Go.Proofs.Ytlgljcfkoakogaa

namespace Go.Proofs.Ytlgljcfkoakogaa
open Go.RowKit
set_option linter.unusedSimpArgs false
set_option linter.unusedVariables false


open Go.Maps Go.Shelf
theorem flatN_append (a b : List Nt) : flatN (a ++ b) = flatN a ++ flatN b := by simp [flatN, List.flatMap_append]
theorem flatN_len (l : List Nt) : (flatN l).length = l.length * 10 := by
  induction l with
  | nil => rfl
  | cons m t ih =>
    show (m.cells ++ flatN t).length = (t.length + 1) * 10
    rw [List.length_append, ih]
    show 10 + t.length * 10 = _
    omega
theorem flatN_get (l : List Nt) {i j : Nat} {m : Nt} (hm : l[i]? = some m) (hj : j < 10) : (flatN l)[i * 10 + j]? = m.cells[j]? := by
  have hi : i < l.length := by
    rcases Nat.lt_or_ge i l.length with h | h
    · exact h
    · rw [List.getElem?_eq_none h] at hm; cases hm
  have hs : l = l.take i ++ m :: l.drop (i + 1) := by
    rw [List.getElem?_eq_getElem hi] at hm
    injection hm with hm
    rw [← hm, List.getElem_cons_drop, List.take_append_drop]
  have hl : (flatN (l.take i)).length = i * 10 := by rw [flatN_len, List.length_take]; congr 1; omega
  rw [hs, flatN_append, List.getElem?_append_right (by omega), hl]
  show (m.cells ++ flatN (l.drop (i + 1)))[i * 10 + j - i * 10]? = m.cells[j]?
  rw [show i * 10 + j - i * 10 = j by omega, List.getElem?_append_left (show j < m.cells.length from hj)]
theorem flatN_one (l : List Nt) : ∀ u ∈ flatN l, u.oneCell' = true := by
  intro u hu
  unfold flatN at hu
  obtain ⟨m, _, hm⟩ := List.mem_flatMap.1 hu
  unfold Nt.cells at hm
  simp at hm
  rcases hm with rfl | rfl | rfl | rfl | rfl | rfl | rfl | rfl | rfl | rfl <;> rfl
/-- Where the whole of the world lies. -/
structure LayC (w0 W : World) (col : Nat → Col) (A : Nat → Int → Prop) (gA gL mL : Nat → Nat) (pp : Nat → PAt) (S : Sys) (sn sh sa sp : Value) (pool : List Nt) (k : Nat) : Prop where
  mem : Mem W col S gA gL mL pp sn sh sa
  inv : Inv S A
  msg : ∀ m ∈ pool, MsgOk S A m
  row : W.ownsRow 0 105 10 sp pool.length (flatN pool)
  prow : RowOf col .pool sp
  few : pool.length ≤ 8 * k
  small : Small S k
  len : S.ps.length ≤ k
  low : ∀ b, b < w0.heap.size → col b = .none
  below : Below w0.heap.size w0 W
def Lay (w0 W : World) (S : Sys) (sn sh sa sp : Value) (pool : List Nt) (k : Nat) : Prop := ∃ col A gA gL mL pp, LayC w0 W col A gA gL mL pp S sn sh sa sp pool k
section
variable {w0 W W' : World} {col : Nat → Col} {A : Nat → Int → Prop} {gA gL mL : Nat → Nat} {pp : Nat → PAt} {S : Sys} {sn sh sa sp : Value} {pool : List Nt} {k : Nat}
theorem LayC.keep (h : LayC w0 W col A gA gL mL pp S sn sh sa sp pool k) (hb : Bel W W') : LayC w0 W' col A gA gL mL pp S sn sh sa sp pool k :=
  ⟨h.mem.keep hb, h.inv, h.msg, row_bel h.row hb, h.prow, h.few, h.small, h.len, h.low, h.below.trans (Below.mono hb h.below.size)⟩
theorem Small.up {k : Nat} (h : Small S k) : Small S (k + 1) := ⟨fun j hj => Nat.le_succ_of_le (h.1 j hj), fun p P hP => Nat.le_succ_of_le (h.2 p P hP)⟩
theorem LayC.up (h : LayC w0 W col A gA gL mL pp S sn sh sa sp pool k) : LayC w0 W col A gA gL mL pp S sn sh sa sp pool (k + 1) :=
  ⟨h.mem, h.inv, h.msg, h.row, h.prow, by have := h.few; omega, h.small.up, Nat.le_succ_of_le h.len, h.low, h.below⟩
/-- Of the new colouring what was is what it was. -/
theorem low_fresh {c : Col} {B : Nat} (h : ∀ b, b < w0.heap.size → col b = .none) (hB : w0.heap.size ≤ B) : ∀ b, b < w0.heap.size → fresh col B c b = .none := fun b hb => by
  rw [fresh_old (by omega)]
  exact h b hb
theorem only_below {c : Col} (hb : Below w0.heap.size w0 W) (k : Only col c W W') (h : ∀ b, b < w0.heap.size → col b = .none) (hc : c ≠ .none) : Below w0.heap.size w0 W' :=
  Kept.below k hb (fun b hbc => by
    rcases Nat.lt_or_ge b w0.heap.size with h1 | h1
    · exact absurd (hbc.symm.trans (h b h1)) hc
    · exact h1) hb.size
/-- A message is taken out of the pool. -/
theorem LayC.remove (h : LayC w0 W col A gA gL mL pp S sn sh sa sp pool k) (hb : Below W.heap.size W W') {sp' : Value} {pool' : List Nt} (hr : W'.ownsRow W.heap.size 105 10 sp' pool'.length (flatN pool')) (hs : ∀ m ∈ pool', m ∈ pool) (hl : pool'.length ≤ pool.length) :
    LayC w0 W' (fresh col W.heap.size .pool) A gA gL mL pp S sn sh sa sp' pool' k :=
  ⟨(h.mem.fresh .pool).keep hb, h.inv, fun m hm => h.msg m (hs m hm), row_base hr (Nat.zero_le _), fun b hb' => fresh_new (hr.lt b hb').1, Nat.le_trans hl h.few, h.small, h.len, low_fresh h.low h.below.size, h.below.trans (hb.mono h.below.size)⟩
/-- What came out of a message lies by itself. -/
structure OutC (w0 W : World) (col : Nat → Col) (A : Nat → Int → Prop) (gA gL mL : Nat → Nat) (pp : Nat → PAt) (S : Sys) (sn sh sa sp : Value) (pool : List Nt) (k : Nat) (so : Value) (out : List Nt) : Prop where
  lay : LayC w0 W col A gA gL mL pp S sn sh sa sp pool k
  room : pool.length + 8 ≤ 8 * k
  row : W.ownsRow 0 105 10 so out.length (flatN out)
  msg : ∀ m ∈ out, MsgOk S A m
  few : out.length ≤ 8
theorem LayC.taken (h : LayC w0 W col A gA gL mL pp S sn sh sa sp pool k) (hk : k < 900) (m : Nt) (hm : MsgOk S A m) :
    Calls Try.prog 55 #[.agg m.cells.toArray, sn, sh, sa, .int .i64 S.N] W fun e W' => ∃ so out S', e = .returned (.tuple #[so, .bool true]) ∧ S'.N = S.N ∧ S'.ps.length = S.ps.length ∧ ∃ col' A' pp', OutC w0 W' col' A' gA gL mL pp' S' sn sh sa sp pool (k + 1) so out := by
  refine (taken_any h.mem h.inv h.small (by omega) m hm).mono ?_
  rintro e W' ⟨so, col', S', A', pp', out, rfl, ht⟩
  have hrow : W'.ownsRow 0 105 10 sp pool.length (flatN pool) := row_keptF h.row fun b hb hl => ht.kept.block b hl (fun hf => hf (.inl (h.prow b hb)))
  refine ⟨so, out, S', rfl, ht.ext.hN, ht.len, col', A', pp', ⟨ht.mem, ht.inv, fun m hm => (h.msg m hm).ext h.inv ht.ext, hrow, fun b hb => ?_, by have := h.few; omega, ht.small, by rw [ht.len]; exact Nat.le_succ_of_le h.len, fun b hb => ?_, ?_⟩, by have := h.few; omega, row_base ht.row (Nat.zero_le _), ht.msg, ht.few⟩
  · rw [ht.old b (h.row.lt b hb).2]
    exact h.prow b hb
  · rw [ht.old b (Nat.lt_of_lt_of_le hb h.below.size)]
    exact h.low b hb
  · refine Kept.below ht.kept h.below (fun b hb => ?_) h.below.size
    rcases Nat.lt_or_ge b w0.heap.size with h1 | h1
    · exact absurd (.inr (h.low b h1)) hb
    · exact h1
theorem OutC.none {so : Value} {out : List Nt} (h : OutC w0 W col A gA gL mL pp S sn sh sa sp pool k so out) (hn : so = .slice none 0 0) : out = [] := by
  subst hn
  rcases h.row.2 with ⟨_, h0⟩ | ⟨g, cap, cur, e, _⟩
  · exact List.eq_nil_of_length_eq_zero h0
  · cases e
/-- What came out goes into the pool. -/
theorem OutC.append {so : Value} {out : List Nt} (h : OutC w0 W col A gA gL mL pp S sn sh sa sp pool k so out) {sp' : Value} (hg : W.grownBy W' sp.ownBlock) (hr : W'.ownsRow 0 105 10 sp' (pool.length + out.length) (flatN pool ++ flatN out)) (hf : ∀ j, sp'.ownBlock = some j → sp.ownBlock = some j ∨ W.heap.size ≤ j) :
    Lay w0 W' S sn sh sa sp' (pool ++ out) k := by
  have L := h.lay
  have ko := (grown_only hg L.prow).fresh (c' := .pool) (Nat.le_refl _)
  have hl := low_fresh (c := .pool) L.low L.below.size
  refine ⟨fresh col W.heap.size .pool, A, gA, gL, mL, pp, (L.mem.fresh .pool).pool ko, L.inv, fun m hm => ?_, ?_, L.prow.app (fun b hb => (L.row.lt b hb).2) hf, ?_, L.small, L.len, hl, only_below L.below ko hl (by simp)⟩
  · rcases List.mem_append.1 hm with h1 | h1
    · exact L.msg m h1
    · exact h.msg m h1
  · rw [List.length_append, flatN_append]
    exact hr
  · have := h.room
    have := h.few
    rw [List.length_append]
    omega
/-- The notes that a new proposer sends. -/
def preps (p : Nat) (n0 : Int) (j : Nat) : List Nt := (List.range j).map fun i => ⟨0, p, i, (p : Int) + 1, n0, Vt.zero, ⟨#[]⟩⟩
theorem preps_len (p : Nat) (n0 : Int) (j : Nat) : (preps p n0 j).length = j := by simp [preps]
theorem preps_succ (p : Nat) (n0 : Int) (j : Nat) : preps p n0 (j + 1) = preps p n0 j ++ [⟨0, p, j, (p : Int) + 1, n0, Vt.zero, ⟨#[]⟩⟩] := by
  unfold preps
  rw [List.range_succ, List.map_append]
  rfl
/-- A new proposer comes, and asks. -/
theorem LayC.propose {W1 W2 W3 W4 W5 : World} {n0 : Int} {own : ByteArray} {g pm am : Nat} {sp' sa' : Value} (h : LayC w0 W col A gA gL mL pp S sn sh sa sp pool k) (hk : k < 900) (hn : 0 ≤ n0 ∧ n0 < 7) (hown : (own.size : Int) ≤ 8192) (hb1 : Below W.heap.size W W1)
    (hP : PropAt W2 g pm am (.slice none 0 0) (prpNew ((S.ps.length : Int) + 1) n0 S.N own)) (hg : W1.heap.size ≤ g) (hpm : W1.heap.size ≤ pm) (ham : W1.heap.size ≤ am) (hb2 : Below W1.heap.size W1 W2)
    (hg3 : W2.grownBy W3 sp.ownBlock) (hr3 : W3.ownsRow 0 105 10 sp' (pool.length + S.N) (flatN pool ++ flatN (preps S.ps.length n0 S.N))) (hf3 : ∀ j, sp'.ownBlock = some j → sp.ownBlock = some j ∨ W2.heap.size ≤ j) (hb4 : Below W3.heap.size W3 W4)
    (hg5 : W4.grownBy W5 sa.ownBlock) (hr5 : W5.ownsRow 0 86 1 sa' (S.ps.length + 1) (ptrs S.ps.length (fun p => (pp p).g) ++ [.pointer (some ⟨g, 0, none⟩)])) (hf5 : ∀ j, sa'.ownBlock = some j → sa.ownBlock = some j ∨ W4.heap.size ≤ j) :
    Lay w0 W5 (S.propose n0 own) sn sh sa' sp' (pool ++ preps S.ps.length n0 S.N) (k + 1) := by
  have s0 := h.below.size
  have s1 := hb1.size
  have s2 := hb2.size
  have s3 := hg3.size
  have s4 := hb4.size
  have s5 := hg5.size
  have hN7 := h.inv.pos.2
  have m2 := (((h.mem.keep hb1).fresh (.prp S.ps.length)).keep hb2).fresh .pool
  have hspW : ∀ b, sp.ownBlock = some b → b < W.heap.size := fun b hb => (h.row.lt b hb).2
  have p2 : RowOf (fresh (fresh col W1.heap.size (.prp S.ps.length)) W2.heap.size .pool) .pool sp := (h.prow.fresh (fun b hb => by have := hspW b hb; omega)).fresh (fun b hb => by have := hspW b hb; omega)
  have k3 := grown_only hg3 p2
  have p3 : RowOf (fresh (fresh col W1.heap.size (.prp S.ps.length)) W2.heap.size .pool) .pool sp' := (h.prow.fresh (c' := .prp S.ps.length) (fun b hb => by have := hspW b hb; omega)).app (fun b hb => by have := hspW b hb; omega) hf3
  have l2 := low_fresh (c := .pool) (low_fresh (c := .prp S.ps.length) h.low (show w0.heap.size ≤ W1.heap.size by omega)) (show w0.heap.size ≤ W2.heap.size by omega)
  have cg : fresh (fresh col W1.heap.size (.prp S.ps.length)) W2.heap.size .pool g = .prp S.ps.length := by rw [fresh_old hP.bk.lt, fresh_new hg]
  have cp : fresh (fresh col W1.heap.size (.prp S.ps.length)) W2.heap.size .pool pm = .prp S.ps.length := by rw [fresh_old hP.pr.lt, fresh_new hpm]
  have ca : fresh (fresh col W1.heap.size (.prp S.ps.length)) W2.heap.size .pool am = .prp S.ps.length := by rw [fresh_old hP.ac.lt, fresh_new ham]
  generalize fresh (fresh col W1.heap.size (.prp S.ps.length)) W2.heap.size .pool = col2 at *
  have m4 := (m2.pool k3).keep hb4
  have P4 := (prp_only (p := ⟨g, pm, am, .slice none 0 0⟩) hP cg cp ca (fun b hb => by cases hb) k3 (by simp)).keep hb4
  have k5 := (grown_only hg5 m4.all.2).fresh (c' := .all) (Nat.le_refl _)
  have r5 := m4.all.2.app (fun b hb => (m4.all.1.lt b hb).2) hf5
  have hold : ∀ b, b < W4.heap.size → fresh col2 W4.heap.size .all b = col2 b := fun b hb => fresh_old hb
  have m5 := (m4.fresh .all).propose P4 ((hold g P4.bk.lt).trans cg) ((hold pm P4.pr.lt).trans cp) ((hold am P4.ac.lt).trans ca) k5 hr5 r5
  have row4 := row_bel hr3 hb4
  have p4 : RowOf (fresh col2 W4.heap.size .all) .pool sp' := p3.fresh (fun b hb => (row4.lt b hb).2)
  have l4 := low_fresh (c := .all) l2 (show w0.heap.size ≤ W4.heap.size by omega)
  have b2 := (h.below.trans (hb1.mono (by omega))).trans (hb2.mono (by omega))
  have b4 := (only_below b2 k3 l2 (by simp)).trans (hb4.mono (by omega))
  have hfew := h.few
  have hlen := h.len
  refine ⟨_, A, gA, gL, mL, _, m5, h.inv.propose n0 own hn hown (by omega), fun m hm => ?_, ?_, p4, ?_, ⟨fun j hj => Nat.le_succ_of_le (h.small.1 j hj), fun p P hP' => ?_⟩, ?_, l4, only_below b4 k5 l4 (by simp)⟩
  · rcases List.mem_append.1 hm with h1 | h1
    · exact (h.msg m h1).ext h.inv (ext_prop S A n0 own)
    · unfold preps at h1
      obtain ⟨i, hi, rfl⟩ := List.mem_map.1 h1
      have hi := List.mem_range.1 hi
      refine ⟨hi, (show (((⟨#[]⟩ : ByteArray).size : Nat) : Int) ≤ 8192 by decide), .inl ⟨rfl, ?_, rfl, ?_⟩⟩
      · show S.ps.length < (S.ps ++ [_]).length
        simp
      · show n0 = (S.propose n0 own).nd ((S.ps.length : Int) + 1)
        have hat : (S.propose n0 own).at ((S.ps.length : Int) + 1) = some (prpNew ((S.ps.length : Int) + 1) n0 S.N own) := at_get (by
          show (S.ps ++ [_])[S.ps.length]? = _
          simp)
        unfold Sys.nd
        rw [hat]
        rfl
  · rw [List.length_append, flatN_append, preps_len]
    exact row_only row4 p4 k5 (by simp)
  · rw [List.length_append, preps_len]
    omega
  · have hP2 : (S.ps ++ [prpNew ((S.ps.length : Int) + 1) n0 S.N own])[p]? = some P := hP'
    rcases Nat.lt_or_ge p S.ps.length with h1 | h1
    · rw [List.getElem?_append_left h1] at hP2
      exact Nat.le_succ_of_le (h.small.2 p P hP2)
    · rw [List.getElem?_append_right h1] at hP2
      have := List.mem_of_getElem? hP2
      rw [List.mem_singleton] at this
      rw [this]
      exact Nat.zero_le _
  · show (S.ps ++ [_]).length ≤ k + 1
    simp
    omega
/-- All that is known is one value. -/
theorem Inv.one (h : Inv S A) : ∃ u, (∀ j, j < S.N → (S.ln j).known = true → (S.ln j).val = u) ∧ ∀ (p : Nat) P, S.ps[p]? = some P → (pChosen P).2 = true → (pChosen P).1 = u := by
  by_cases hc : ∃ r, Chosen S A r
  · obtain ⟨r, hr⟩ := hc
    refine ⟨S.val r, fun j hj hkn => ?_, fun p P hP hp => ?_⟩
    · obtain ⟨r', h1, h2⟩ := h.l2 j hj hkn
      rw [h2]
      exact h.agree h1 hr
    · obtain ⟨h1, h2⟩ := h.prop_chosen hP hp
      rw [h2]
      exact h.agree h1 hr
  · refine ⟨⟨#[]⟩, fun j hj hkn => ?_, fun p P hP hp => ?_⟩
    · obtain ⟨r', h1, _⟩ := h.l2 j hj hkn
      exact absurd ⟨r', h1⟩ hc
    · exact absurd ⟨_, (h.prop_chosen hP hp).1⟩ hc
end
/-- The world is made: no proposer yet, nothing said. -/
theorem Start.lay {w0 W : World} {N : Nat} {sn sh : Value} (h : Start w0 W (lrnNew N) N sn sh) (h1 : 1 ≤ N) (h7 : N ≤ 7) : Lay w0 W ⟨N, fun _ => Acc.zero, fun _ => lrnNew N, []⟩ sn sh (.slice none 0 0) (.slice none 0 0) [] 0 := by
  obtain ⟨col, gA, gL, mL, hC⟩ := h
  exact ⟨col, fun _ _ => False, gA, gL, mL, pp0, hC.mem, inv_start N h1 h7, (fun m hm => by cases hm), World.ownsRow_nil _ _ _ _, (fun b hb => by cases hb), Nat.zero_le _, ⟨fun j hj => Nat.zero_le _, fun p P hP => by simp at hP⟩, Nat.zero_le _, hC.low, hC.below⟩

end Go.Proofs.Ytlgljcfkoakogaa

namespace Go.Proofs.Ytlgljcfkoakogaa
open Go.RowKit
set_option linter.unusedSimpArgs false
set_option linter.unusedVariables false


/-- What is done next: a proposer comes, or a message is taken. -/
structure Ac4 where
  what : Int
  node : Int
  n : Int
  keep : Bool
def Ac4.ok (s : Ac4) : Prop := 0 ≤ s.node ∧ s.node ≤ 255 ∧ 0 ≤ s.n ∧ s.n ≤ 65535
def Ac4At (w : World) (b o : Nat) (s : Ac4) : Prop :=
  w.cell? ⟨b, o, none⟩ = some (.int .i64 s.what) ∧ w.cell? ⟨b, o + 1, none⟩ = some (.int .u8 s.node) ∧ w.cell? ⟨b, o + 2, none⟩ = some (.int .u16 s.n) ∧ w.cell? ⟨b, o + 3, none⟩ = some (.bool s.keep)
def ActsAt (w : World) (A : Option Addr) (l : List Ac4) : Prop :=
  l = [] ∨ ∃ b o, A = some ⟨b, o, none⟩ ∧ ∀ j s, l[j]? = some s → Ac4At w b (o + j * 4) s
theorem Ac4At.bel {w w' : World} {b o : Nat} {s : Ac4} (h : Ac4At w b o s) (hb : Below w.heap.size w w') : Ac4At w' b o s := by
  have k : ∀ {o : Nat} {v : Value}, w.cell? ⟨b, o, none⟩ = some v → w'.cell? ⟨b, o, none⟩ = some v := fun {o v} h => (hb.cell (p := ⟨b, o, none⟩) (World.block_lt_of_cell? w _ h)).trans h
  exact ⟨k h.1, k h.2.1, k h.2.2.1, k h.2.2.2⟩
theorem Try.cells103 : Try.prog.cellsOf 103 = 4 := by kernel_rfl
theorem Try.cells5 : Try.prog.cellsOf 5 = 1 := by kernel_rfl
theorem Try.cells95 : Try.prog.cellsOf 95 = 1 := by kernel_rfl
section
variable {H : Type} {enc : TypeId × Value → H} {w : World} {base : Nat} {spare : Nat → Bool} {held : Bool}
set_option maxRecDepth 100000 in
theorem trod_ac4 {fuel : Nat} {cs : List Value} {x : DataW H × List MemPlace} (h : DataW.trod enc Try.prog w base spare held fuel 103 cs = some x) :
    ∃ s : Ac4, s.ok ∧ cs = [.int .i64 s.what, .int .u8 s.node, .int .u16 s.n, .bool s.keep] := by
  obtain ⟨xs, n, _, _, hl, hlen, hf⟩ := DataW.trod_struct Try.underlying103 h
  rw [Try.cells103] at hl
  match cs, hl with
  | [c0, c1, c2, c3], _ =>
    have h0 : DataW.trod enc Try.prog w base spare held n 3 (([c0, c1, c2, c3].drop 0).take (Try.prog.cellsOf 3)) = xs[0]? := hf 0 _ rfl
    have h1 : DataW.trod enc Try.prog w base spare held n 5 (([c0, c1, c2, c3].drop 1).take (Try.prog.cellsOf 5)) = xs[1]? := hf 1 _ rfl
    have h2 : DataW.trod enc Try.prog w base spare held n 95 (([c0, c1, c2, c3].drop 2).take (Try.prog.cellsOf 95)) = xs[2]? := hf 2 _ rfl
    have h3 : DataW.trod enc Try.prog w base spare held n 4 (([c0, c1, c2, c3].drop 3).take (Try.prog.cellsOf 4)) = xs[3]? := hf 3 _ rfl
    rw [Try.cells3] at h0
    rw [Try.cells5] at h1
    rw [Try.cells95] at h2
    rw [Try.cells4] at h3
    match xs, hlen with
    | [x0, x1, x2, x3], _ =>
      obtain ⟨d, e0, _, _⟩ := DataW.trod_int Try.underlying3 (x := x0) (by simpa using h0)
      obtain ⟨r, e1, _, w1⟩ := DataW.trod_int Try.underlying5 (x := x1) (by simpa using h1)
      obtain ⟨m, e2, _, w2⟩ := DataW.trod_int Try.underlying95 (x := x2) (by simpa using h2)
      obtain ⟨b, e3, _⟩ := DataW.trod_bool Try.underlying4 (x := x3) (by simpa using h3)
      simp at e0 e1 e2 e3
      subst e0 e1 e2 e3
      refine ⟨⟨d, r, m, b⟩, ?_, rfl⟩
      simp only [Lit.wf, Bool.and_eq_true, decide_eq_true_eq] at w1 w2
      exact ⟨w1.1, w1.2, w2.1, w2.2⟩
theorem open_acts {fuel : Nat} {cs : List Value} {x : DataW H × List MemPlace} (h : DataW.trod enc Try.prog w base spare held fuel 98 cs = some x) :
    ∃ A len cap, cs = [.slice A len cap] ∧ len ≤ 9223372036854775807 ∧ ∃ l : List Ac4, l.length = len ∧ (∀ s ∈ l, s.ok) ∧ ActsAt w A l := by
  rcases Go.Deep.open_slice Try.underlying98 h with ⟨rfl, _⟩ | ⟨a, len, cap, m, n, D, Pl, rfl, _, hl, hm, hmm, _, hi⟩
  · exact ⟨none, 0, 0, rfl, by omega, [], rfl, by simp, .inl rfl⟩
  · refine ⟨some a, len, cap, rfl, by unfold maxLen at hm; omega, ?_⟩
    have hlm : len ≤ m := by rw [hmm]; split <;> omega
    rw [Try.cells103] at hi
    obtain ⟨l, hlen, hp⟩ := list_of (p := fun i (s : Ac4) => s.ok ∧ ∀ j, j < 4 → w.cell? ((a.add (i * 4)).add j) = [Value.int .i64 s.what, .int .u8 s.node, .int .u16 s.n, .bool s.keep][j]?) len (fun i hil => by
      obtain ⟨cs', h1, h2⟩ := hi i (by omega)
      obtain ⟨_, _, h3⟩ := World.cells?_some h1
      obtain ⟨s, hs, rfl⟩ := trod_ac4 h2
      exact ⟨s, hs, h3⟩)
    refine ⟨l, hlen, fun s hs => ?_, ?_⟩
    · obtain ⟨i, hi', rfl⟩ := List.getElem_of_mem hs
      exact (hp i _ (List.getElem?_eq_getElem hi')).1
    · by_cases h0 : len = 0
      · exact .inl (List.eq_nil_of_length_eq_zero (by omega))
      · right
        have hx := (hp 0 _ (List.getElem?_eq_getElem (by omega))).2 0 (by omega)
        obtain ⟨b, off, spot⟩ := a
        have hspot : spot = none := by simpa [Addr.add] using World.cell?_spot hx
        subst hspot
        refine ⟨b, off, rfl, fun j s hj => ?_⟩
        have hc := (hp j s hj).2
        have e : ∀ i, i < 4 → w.cell? ⟨b, off + j * 4 + i, none⟩ = [Value.int .i64 s.what, .int .u8 s.node, .int .u16 s.n, .bool s.keep][i]? := fun i hi => by
          have := hc i hi
          rw [Go.WideShapes.add_plain, Go.WideShapes.add_plain] at this
          exact this
        exact ⟨e 0 (by omega), e 1 (by omega), e 2 (by omega), e 3 (by omega)⟩
end

end Go.Proofs.Ytlgljcfkoakogaa

namespace Go.Proofs.Ytlgljcfkoakogaa
open Go.RowKit
set_option linter.unusedSimpArgs false
set_option linter.unusedVariables false


open Go.Maps Go.Shelf
theorem Try.info67' : (Try.prog.info? 67).map (fun i => (i.zero, i.size, i.bytes)) = some (some (.pointer none), 1, 8) := by kernel_rfl
theorem Try.info86' : (Try.prog.info? 86).map (fun i => (i.zero, i.size, i.bytes)) = some (some (.pointer none), 1, 8) := by kernel_rfl
theorem row_form {w : World} {base size n : Nat} {e : TypeId} {v : Value} {xs : List Value} (h : w.ownsRow base e size v n xs) : ∃ a c, v = .slice a n c := by
  rcases h.2 with ⟨rfl, rfl⟩ | ⟨g, cap, cur, rfl, _⟩
  · exact ⟨_, _, rfl⟩
  · exact ⟨_, _, rfl⟩
theorem named_in (r n : Int) (h0 : 1 ≤ r) (h1 : r ≤ 1000) (h2 : 0 ≤ n) (h3 : n < 7) : namedB r n = true := by
  unfold namedB mayB
  rw [decide_eq_true h2, decide_eq_true h3, decide_eq_true (show r ≤ 281474976710656 by omega)]
  have : (r == 0) = false := by simp; omega
  rw [this]
  rfl
theorem row_some {w : World} {Ap : Option Addr} {cp a : Nat} {pool : List Nt} {m : Nt} (h : w.ownsRow 0 105 10 (.slice Ap pool.length cp) pool.length (flatN pool)) (ha : a < pool.length) (hm : pool[a]? = some m) :
    ∃ bp, Ap = some ⟨bp, 0, none⟩ ∧ w.cell? ⟨bp, a * 10, none⟩ = some (.int .i64 (m.kind : Nat)) ∧ w.cell? ⟨bp, a * 10 + 1, none⟩ = some (.int .i64 (m.p : Nat)) ∧ w.cell? ⟨bp, a * 10 + 2, none⟩ = some (.int .i64 (m.tn : Nat)) ∧ w.cell? ⟨bp, a * 10 + 3, none⟩ = some (.int .u64 m.r) ∧ w.cell? ⟨bp, a * 10 + 4, none⟩ = some (.int .i64 m.n) ∧
      w.cell? ⟨bp, a * 10 + 5, none⟩ = some (.bool m.vote.has) ∧ w.cell? ⟨bp, a * 10 + 6, none⟩ = some (.int .u64 m.vote.r) ∧ w.cell? ⟨bp, a * 10 + 7, none⟩ = some (.int .i64 m.vote.n) ∧ w.cell? ⟨bp, a * 10 + 8, none⟩ = some (.string m.vote.val) ∧ w.cell? ⟨bp, a * 10 + 9, none⟩ = some (.string m.value) := by
  rcases h.2 with ⟨_, h0⟩ | ⟨g, cap, cur, e, _⟩
  · omega
  · injection e with e1 e2 e3
    subst e1
    have hc : ∀ j, j < 10 → w.cell? ⟨g, a * 10 + j, none⟩ = m.cells[j]? := fun j hj => (h.cellAt (a * 10 + j) (by omega)).trans (flatN_get pool hm hj)
    exact ⟨g, rfl, hc 0 (by omega), hc 1 (by omega), hc 2 (by omega), hc 3 (by omega), hc 4 (by omega), hc 5 (by omega), hc 6 (by omega), hc 7 (by omega), hc 8 (by omega), hc 9 (by omega)⟩
theorem row_cap {w : World} {a : Addr} {n k cp : Nat} {xs : List Value} {e : TypeId} {size base : Nat} (h : w.ownsRow base e size (.slice (some a) n cp) k xs) : n ≤ cp ∧ cp ≤ maxLen := by
  rcases h.2 with ⟨e, _⟩ | ⟨g, cap, cur, e, _, _, h1, h2, _⟩
  · cases e
  · injection e with e1 e2 e3
    subst e2 e3
    exact ⟨h1, h2⟩
theorem take_cells {w : World} {bp cp : Nat} {pool : List Nt} (h : w.ownsRow 0 105 10 (.slice (some ⟨bp, 0, none⟩) pool.length cp) pool.length (flatN pool)) (a : Nat) : ∀ j u, (flatN (pool.take a))[j]? = some u → w.cell? ((⟨bp, 0, none⟩ : Addr).add j) = some u := by
  intro j u hj
  refine h.cells rfl j u ?_
  have hs : flatN pool = flatN (pool.take a) ++ flatN (pool.drop a) := by rw [← flatN_append, List.take_append_drop]
  have hl : j < (flatN (pool.take a)).length := by
    rcases Nat.lt_or_ge j (flatN (pool.take a)).length with h1 | h1
    · exact h1
    · rw [List.getElem?_eq_none h1] at hj; cases hj
  rw [hs, List.getElem?_append_left hl]
  exact hj
theorem drop_cells {w : World} {bp cp : Nat} {pool : List Nt} (h : w.ownsRow 0 105 10 (.slice (some ⟨bp, 0, none⟩) pool.length cp) pool.length (flatN pool)) (a : Nat) (ha : a ≤ pool.length) : ∀ j u, (flatN (pool.drop a))[j]? = some u → w.cell? ((⟨bp, a * 10, none⟩ : Addr).add j) = some u := by
  intro j u hj
  have hs : flatN pool = flatN (pool.take a) ++ flatN (pool.drop a) := by rw [← flatN_append, List.take_append_drop]
  have hl : (flatN (pool.take a)).length = a * 10 := by rw [flatN_len, List.length_take]; congr 1; omega
  have := h.cells (g := bp) rfl (a * 10 + j) u (by rw [hs, List.getElem?_append_right (by omega), hl, show a * 10 + j - a * 10 = j by omega]; exact hj)
  rw [Go.WideShapes.add_plain] at this ⊢
  simpa using this
theorem row_far {w : World} {n base size : Nat} {e : TypeId} {v : Value} {xs : List Value} (h : w.ownsRow base e size v n xs) (hv : ¬ v = .slice none 0 0) : ∃ g c, v = .slice (some ⟨g, 0, none⟩) n c := by
  rcases h.2 with ⟨h0, _⟩ | ⟨g, cap, cur, e, _⟩
  · exact absurd h0 hv
  · exact ⟨g, cap, e⟩
theorem str_one (x : Int) : ((strOfNums [x]).size : Int) ≤ 8192 := by
  have : (strOfNums [x]).size = 1 := rfl
  omega
set_option maxRecDepth 100000
set_option maxHeartbeats 6400000
theorem lone_walk (nn : Int) (A : Option Addr) (cap : Nat) (l : List Ac4) (w : World) (hx : ActsAt w A l) (hl : l.length ≤ 9223372036854775807) (hok : ∀ s ∈ l, s.ok) :
    Calls Try.prog 16 #[.int .i64 nn, .slice A l.length cap] w fun e w' => e = .returned (.bool true) ∧ Below w.heap.size w w' := by
  have HX := Lib.hid hx
  have HOK := Lib.hid hok
  obtain ⟨iL, hiL, izL, isL, ibL⟩ := info_parts Try.info67'
  obtain ⟨iA, hiA, izA, isA, ibA⟩ := info_parts Try.info44
  obtain ⟨iP, hiP, izP, isP, ibP⟩ := info_parts Try.info86'
  obtain ⟨iN, hiN, izN, isN, ibN⟩ := info_parts Try.info105
  clear hx hok
  by_cases n1 : nn < 1
  · go_enter Try.func16, Try.ntmps16
    go_wp2_with (go_at_call 40; refine (works14_any _).mono ?_; rintro e w' ⟨rfl, hbw⟩)
    go_ret
    exact ⟨rfl, hbw⟩
  by_cases n7 : 7 < nn
  · go_enter Try.func16, Try.ntmps16
    go_wp2_with (go_at_call 40; refine (works14_any _).mono ?_; rintro e w' ⟨rfl, hbw⟩)
    go_ret
    exact ⟨rfl, hbw⟩
  by_cases n150 : (150 : Int) < (l.length : Int)
  · go_enter Try.func16, Try.ntmps16
    go_wp2_with (go_at_call 40; refine (works14_any _).mono ?_; rintro e w' ⟨rfl, hbw⟩)
    go_ret
    exact ⟨rfl, hbw⟩
  obtain ⟨N, rfl⟩ : ∃ N : Nat, nn = N := ⟨nn.toNat, by omega⟩
  have g1 : 1 ≤ N := by omega
  have g7 : N ≤ 7 := by omega
  have hl150 : l.length ≤ 150 := by omega
  go_enter Try.func16, Try.ntmps16
  go_wp2_with fail
  go_loopw [5, 6, 7] (fun n h i wr => ∃ (k : Nat) (yn yh : Value), yn = n ∧ yh = h ∧ k ≤ N ∧ i = .int .i64 k ∧ Hid (Start w wr (lrnNew N) k yn yh)) (fun _ _ i _ => N + 1 - (intOf i).toNat)
  case atStart => exact ⟨0, _, _, rfl, rfl, Nat.zero_le _, rfl, Lib.hid (start_zero w _)⟩
  case round =>
    obtain ⟨k, yn, yh, rfl, rfl, hk, rfl, HST⟩ := hrel
    have hki : (k : Int) ≤ (N : Int) := by omega
    by_cases hlt : k < N
    · have hne : (k : Int) < (N : Int) := by omega
      obtain ⟨col, gA, gL, mL, hC⟩ := HST.out
      clear HST
      have hrn : wr.ownsRow 0 44 1 yn k (ptrs k gA) := hC.mem.nodes.1
      have hrh : wr.ownsRow 0 67 1 yh k (ptrs k gL) := hC.mem.hear.1
      have hdis : ∀ b, yn.ownBlock = some b → some b ≠ yh.ownBlock := fun b hb he => by
        have h1 := hC.mem.nodes.2 b hb
        rw [hC.mem.hear.2 b he.symm] at h1
        cases h1
      have HC := Lib.hid hC
      clear hC
      go_wp2_with fail
      refine (lnew_good N g1 g7 _).mono ?_
      rintro e w1 ⟨rfl, hL, hb1⟩
      go_wp2_with fail
      refine (accNew_any _).mono ?_
      rintro e w2 ⟨rfl, rfl⟩
      have hb2 := (Below.refl w1.heap.size w1).alloc (Nat.le_refl _) (.cells Acc.zero.cells 116)
      have hA := Bk.new w1 Acc.zero.cells 116
      have hrn2 := row_bel (row_bel hrn hb1) hb2
      have hrh2 := row_bel (row_bel hrh hb1) hb2
      have HL := Lib.hid hL
      have HA := Lib.hid hA
      have hb1 := Lib.hid hb1
      have hb2 := Lib.hid hb2
      have hsz1 := hb1.out.size
      generalize hw2 : w1.alloc (.cells Acc.zero.cells 116) = w2 at hb2 HA hrn2 hrh2 ⊢
      clear hrn hrh hL hA hw2
      go_upto_region 13 with (at_builtin; go_loud (refine wp_app_where rfl _ _ 99 rfl 67 iL (.pointer none) 1 8 Try.underlying99 hiL izL isL ibL rfl (by decide) _ _ _ rfl (hrh2.alloc _) ⟨w2.heap.size, 0, none⟩ 1 1 [.pointer (some ⟨wr.heap.size + 1, 0, none⟩)] rfl rfl (cells_new _ _ _) (by simp [Value.oneCell']) (by unfold maxLen; omega) (by omega) ?_; intro s4 w4 hown4 hgrow4 hfoot4))
      have hb3 := Lib.hid ((Below.refl w2.heap.size w2).alloc (Nat.le_refl _) (.cells #[.pointer (some ⟨wr.heap.size + 1, 0, none⟩)] 67))
      have hrn4 := row_keptF (row_bel hrn2 hb3.out) (w' := w4) (fun b hb hl => hgrow4.block b hl (hdis b hb))
      have G4 := Lib.hid (And.intro hgrow4 (And.intro hown4 hfoot4))
      generalize hw3 : w2.alloc (.cells #[.pointer (some ⟨wr.heap.size + 1, 0, none⟩)] 67) = w3 at hb3 G4
      clear hgrow4 hown4 hfoot4 hrn2 hrh2 hdis hw3
      go_wp2_with (at_builtin; go_loud (refine wp_app_where rfl _ _ 92 rfl 44 iA (.pointer none) 1 8 Try.underlying92 hiA izA isA ibA rfl (by decide) _ _ _ rfl (hrn4.alloc _) ⟨w4.heap.size, 0, none⟩ 1 1 [.pointer (some ⟨w1.heap.size, 0, none⟩)] rfl rfl (cells_new _ _ _) (by simp [Value.oneCell']) (by unfold maxLen; omega) (by omega) ?_; intro s6 w6 hown6 hgrow6 hfoot6))
      have hb5 := Lib.hid ((Below.refl w4.heap.size w4).alloc (Nat.le_refl _) (.cells #[.pointer (some ⟨w1.heap.size, 0, none⟩)] 44))
      have HST := Lib.hid (HC.out.next hb1.out HL.out (Nat.le_succ _) (Nat.le_refl _) hb2.out HA.out (Nat.le_refl _) hb3.out G4.out.1 G4.out.2.1 G4.out.2.2 hb5.out hgrow6 hown6 hfoot6)
      clear hb1 hb2 hb3 hb5 HL HA HC G4 hgrow6 hown6 hfoot6 hrn4
      go_wp2_with fail
      go_roundw
      case rel => exact ⟨k + 1, _, _, rfl, rfl, by omega, by go_num, HST⟩
      case measure => simp [intOf]; omega
    · obtain rfl : N = k := by omega
      have HLAY := Lib.hid (HST.out.lay g1 g7)
      clear HST hk hlt hki
      go_wp2_with fail
      go_loopw [11, 12, 13, 14] (fun a p r i wr => ∃ (k : Nat) (S : Sys) (sa sp : Value) (pool : List Nt), sa = a ∧ sp = p ∧ k ≤ l.length ∧ S.N = N ∧ r = .int .u64 (S.ps.length : Nat) ∧ i = .int .i64 k ∧ Hid (Lay w wr S yn yh sa sp pool k)) (fun _ _ _ i _ => l.length + 1 - (intOf i).toNat)
      case atStart => exact ⟨0, _, _, _, _, rfl, rfl, Nat.zero_le _, rfl, rfl, rfl, HLAY⟩
      case round =>
        obtain ⟨k, S, sa, sp, pool, rfl, rfl, hk, hSN, rfl, rfl, HLAY2⟩ := hrel
        clear HLAY
        have hki : (k : Int) ≤ (l.length : Int) := by omega
        obtain ⟨col, Ag, gA, gL, mL, pp, hC⟩ := HLAY2.out
        clear HLAY2
        have hpl := hC.len
        have hfew := hC.few
        by_cases hlt : k < l.length
        · have hne : (k : Int) < (l.length : Int) := by omega
          obtain ⟨v, hv⟩ : ∃ v, l[k]? = some v := ⟨_, List.getElem?_eq_getElem hlt⟩
          obtain ⟨b, o, rfl, hc⟩ : ∃ b o, A = some ⟨b, o, none⟩ ∧ Ac4At w b (o + k * 4) v := by
            rcases HX.out with h0 | ⟨b, o, e, h⟩
            · rw [h0] at hlt; simp at hlt
            · exact ⟨b, o, e, h k v hv⟩
          obtain ⟨c0, c1, c2, c3⟩ := Ac4At.bel hc (Below.mono hC.below (Nat.le_refl _))
          obtain ⟨z0, z1, z2, z3⟩ := HOK.out v (List.mem_of_getElem? hv)
          have hb1 := (Below.refl wr.heap.size wr).alloc (Nat.le_refl _) (.cells #[.int .i64 v.what, .int .u8 v.node, .int .u16 v.n, .bool v.keep] 103)
          have HC := Lib.hid hC
          have HB1 := Lib.hid hb1
          clear hC hc hv hb1
          by_cases hd : v.what = 0
          · rw [hd] at c0 HB1
            have hsaf := row_form HC.out.mem.all.1
            obtain ⟨Aa, ca, rfl⟩ := hsaf
            have hdis : ∀ b, (Value.slice Aa S.ps.length ca).ownBlock = some b → some b ≠ sp.ownBlock := fun b hb he => by
              have h1 := HC.out.mem.all.2 b hb
              rw [HC.out.prow b he.symm] at h1
              cases h1
            go_upto_region 24 with fail
            have y0 : 0 ≤ v.node % (N : Int) := Int.emod_nonneg _ (by omega)
            have y1 : v.node % (N : Int) < N := Int.emod_lt_of_pos _ (by omega)
            generalize v.node % (N : Int) = n0 at y0 y1 ⊢
            generalize hw1 : wr.alloc (.cells #[.int .i64 0, .int .u8 v.node, .int .u16 v.n, .bool v.keep] 103) = w1 at HB1 ⊢
            have hz1 : w1.heap.size = wr.heap.size + 1 := by rw [← hw1]; simp
            rw [← hz1]
            replace hz1 := Lib.hid hz1
            clear hw1
            have hb2 := (Below.refl w1.heap.size w1).alloc (Nat.le_refl _) (.cells #[.int .u64 ((S.ps.length : Int) + 1), .int .i64 n0] 24)
            have K2 := Bk.new w1 #[.int .u64 ((S.ps.length : Int) + 1), .int .i64 n0] 24
            generalize w1.alloc (.cells #[.int .u64 ((S.ps.length : Int) + 1), .int .i64 n0] 24) = w2 at hb2 K2 ⊢
            generalize hq : w1.heap.size = q at *
            replace hq := Lib.hid hq
            have k0 : w2.cell? ⟨q, 0, none⟩ = some (.int .u64 ((S.ps.length : Int) + 1)) := K2.cell 0
            have k1 : w2.cell? ⟨q, 1, none⟩ = some (.int .i64 n0) := K2.cell 1
            have hcv := run_convert_bytes_arg (P := Try.prog) (w2.alloc (.cells #[.int .u8 (97 + ((S.ps.length : Int) + 1) % 26)] 5)) 83 5 Try.underlying83 Try.underlying5 w2.heap.size 0 1 1 [97 + ((S.ps.length : Int) + 1) % 26] rfl (fun i hi => by
              obtain rfl : i = 0 := by omega
              exact (Bk.new w2 #[.int .u8 (97 + ((S.ps.length : Int) + 1) % 26)] 5).cell 0) 9 Try.underlying9
            have hsz := str_one (97 + ((S.ps.length : Int) + 1) % 26)
            generalize strOfNums [97 + ((S.ps.length : Int) + 1) % 26] = own at hcv hsz
            have hb3 := (Below.refl w2.heap.size w2).alloc (Nat.le_refl _) (.cells #[.int .u8 (97 + ((S.ps.length : Int) + 1) % 26)] 5)
            have hpnew := pnew_good ((S.ps.length : Int) + 1) n0 N own (w2.alloc (.cells #[.int .u8 (97 + ((S.ps.length : Int) + 1) % 26)] 5)) (named_in _ _ (by omega) (by omega) y0 (by omega)) g1 g7 hsz
            have HPN := Lib.hid hpnew
            have hsz2 : q ≤ w2.heap.size := by rw [← hq.out]; exact hb2.size
            clear hpnew
            go_wp2_with fail
            clear hcv
            refine HPN.out.mono ?_
            clear HPN
            rintro e w4 ⟨g, pm, am, rfl, hP, hg, hp, ha, hb4⟩
            have Hb1 : Hid (Below wr.heap.size wr (w2.alloc (.cells #[.int .u8 (97 + ((S.ps.length : Int) + 1) % 26)] 5))) := Lib.hid ((HB1.out.trans (Below.mono (show Below w1.heap.size w1 w2 by rw [hq.out]; exact hb2) HB1.out.size)).trans (hb3.mono (by have := hz1.out; omega)))
            have K4 := Lib.hid ((K2.bel hb3).bel hb4)
            have hlt4 := K4.out.lt
            have hszw : wr.heap.size ≤ w4.heap.size := Nat.le_trans Hb1.out.size hb4.size
            have hrp4 : w4.ownsRow 0 105 10 sp pool.length (flatN pool) := row_bel (row_bel HC.out.row Hb1.out) hb4
            have hsp4 : Hid (∀ b, sp.ownBlock = some b → b < q ∧ b < w4.heap.size) := Lib.hid fun b hb => by
              have h1 := (HC.out.row.lt b hb).2
              have := hz1.out
              omega
            have hra4 : w4.ownsRow 0 86 1 (.slice Aa S.ps.length ca) S.ps.length (ptrs S.ps.length fun p => (pp p).g) := row_bel (row_bel HC.out.mem.all.1 Hb1.out) hb4
            have HP := Lib.hid hP
            have HQ := Lib.hid (And.intro hg (And.intro hp (And.intro ha hb4)))
            have hdis := Lib.hid hdis
            generalize w2.alloc (.cells #[.int .u8 (97 + ((S.ps.length : Int) + 1) % 26)] 5) = w3 at Hb1 HQ
            clear hP hg hp ha hb4 hb2 hb3 K2 k0 k1 hsz2 HB1
            go_wp2_with fail
            go_loopw [12, 19] (fun p kk w' => ∃ (j : Nat) (y : Value), y = p ∧ j ≤ N ∧ kk = .int .i64 j ∧ w'.ownsRow 0 105 10 y (pool.length + j) (flatN pool ++ flatN (preps S.ps.length n0 j)) ∧ Hid (w4.grownBy w' sp.ownBlock) ∧ Hid (∀ b, y.ownBlock = some b → sp.ownBlock = some b ∨ w4.heap.size ≤ b) ∧ Hid (Bk w' q #[.int .u64 ((S.ps.length : Int) + 1), .int .i64 n0] 24)) (fun _ kk _ => N + 1 - (intOf kk).toNat)
            case atStart => exact ⟨0, _, rfl, Nat.zero_le _, rfl, by simpa [preps, flatN] using hrp4, Lib.hid (grown_bel (Below.refl _ _)), Lib.hid (fun b hb => .inl hb), K4⟩
            case round =>
              obtain ⟨j, y, rfl, hj, rfl, hrow, hgr, hft, K⟩ := hrel
              clear hrp4
              have hji : (j : Int) ≤ (N : Int) := by omega
              by_cases hjl : j < N
              · have hjn : (j : Int) < (N : Int) := by omega
                have k0 := K.out.cell 0
                have k1 := K.out.cell 1
                have hKl := K.out.lt
                have hwz := hgr.out.size
                go_wp2_with (at_builtin; go_loud (refine wp_app_where rfl _ _ 101 rfl 105 iN _ 10 96 Try.underlying101 hiN izN isN ibN rfl (by decide) _ _ _ rfl (hrow.alloc _) ⟨wr.heap.size, 0, none⟩ 1 1 [.int .i64 0, .int .i64 (S.ps.length : Nat), .int .i64 (j : Nat), .int .u64 ((S.ps.length : Int) + 1), .int .i64 n0, .bool false, .int .u64 0, .int .i64 0, .string ⟨#[]⟩, .string ⟨#[]⟩] rfl rfl (cells_new _ _ _) (by simp [Value.oneCell']) (by unfold maxLen; omega) (by omega) ?_; intro s6 w6 hown6 hgrow6 hfoot6))
                have hg6 := Lib.hid (grown_step (grown_alloc hgr.out (.cells #[.int .i64 0, .int .i64 (S.ps.length : Nat), .int .i64 (j : Nat), .int .u64 ((S.ps.length : Int) + 1), .int .i64 n0, .bool false, .int .u64 0, .int .i64 0, .string ⟨#[]⟩, .string ⟨#[]⟩] 105)) hgrow6 (fun b hb => hft.out b hb))
                have hf6 := Lib.hid (show ∀ b, s6.ownBlock = some b → sp.ownBlock = some b ∨ w4.heap.size ≤ b from fun b hb => by
                  rcases hfoot6 b hb with h1 | h1
                  · exact hft.out b h1
                  · simp at h1
                    exact .inr (by omega))
                have K6 := Lib.hid (show Bk w6 q #[.int .u64 ((S.ps.length : Int) + 1), .int .i64 n0] 24 from (hgrow6.block q (by simp; omega) (fun e => by
                  rcases hft.out q e.symm with h1 | h1
                  · have := (hsp4.out q h1).1
                    omega
                  · omega)).trans (K.out.alloc _))
                have hfl : w6.ownsRow 0 105 10 s6 (pool.length + (j + 1)) (flatN pool ++ flatN (preps S.ps.length n0 (j + 1))) := by
                  rw [preps_succ, flatN_snoc, ← List.append_assoc]
                  exact hown6
                clear hown6 hgrow6 hfoot6 k0 k1 hrow hgr hft K
                go_roundw
                case rel => exact ⟨j + 1, _, rfl, by omega, by go_num, hfl, hg6, hf6, K6⟩
                case measure => simp [intOf]; omega
              · obtain rfl : N = j := by omega
                have hra := row_keptF hra4 (w' := wr) (fun b hb hl => hgr.out.block b hl (hdis.out b hb))
                have hwz := hgr.out.size
                clear K4 hra4
                go_wp2_with (at_builtin; go_loud (refine wp_app_where rfl _ _ 100 rfl 86 iP (.pointer none) 1 8 Try.underlying100 hiP izP isP ibP rfl (by decide) _ _ _ rfl (hra.alloc _) ⟨wr.heap.size, 0, none⟩ 1 1 [.pointer (some ⟨g, 0, none⟩)] rfl rfl (cells_new _ _ _) (by simp [Value.oneCell']) (by unfold maxLen; omega) (by omega) ?_; intro s7 w7 hown7 hgrow7 hfoot7))
                have hb7 := (Below.refl wr.heap.size wr).alloc (Nat.le_refl _) (.cells #[.pointer (some ⟨g, 0, none⟩)] 86)
                have HLAY3 := Lib.hid (HC.out.propose (by omega) ⟨y0, by omega⟩ hsz Hb1.out (by rw [hSN]; exact HP.out) HQ.out.1 HQ.out.2.1 HQ.out.2.2.1 HQ.out.2.2.2 hgr.out (by rw [hSN]; exact hrow) hft.out hb7 hgrow7 hown7 hfoot7)
                have hlp : (S.propose n0 own).ps.length = S.ps.length + 1 := by unfold Sys.propose; simp
                have hSN' : (S.propose n0 own).N = N := hSN
                clear hrow hgr hft K hra hb7 hgrow7 hown7 hfoot7 HC HP HQ hsp4 Hb1 hdis
                go_wp2_with fail
                go_roundw
                case rel => exact ⟨k + 1, _, _, _, _, rfl, rfl, by omega, hSN', by rw [hlp]; go_num, by go_num, HLAY3⟩
                case measure => simp [intOf]; omega
          · obtain ⟨Ap, cp, rfl⟩ := row_form HC.out.row
            by_cases hp0 : pool.length = 0
            · have hpi : (pool.length : Int) = 0 := by omega
              have HLAY3 := Lib.hid (show Lay w _ S yn yh sa (.slice Ap pool.length cp) pool (k + 1) from ⟨col, Ag, gA, gL, mL, pp, (HC.out.keep HB1.out).up⟩)
              clear HC
              go_wp2_with fail
              go_roundw
              case rel => exact ⟨k + 1, S, _, _, pool, rfl, rfl, by omega, hSN, rfl, by go_num, HLAY3⟩
              case measure => simp [intOf]; omega
            · have hpi : ¬ (pool.length : Int) = 0 := by omega
              have hp2 : ¬ (2000 : Int) < (pool.length : Int) := by omega
              go_upto_region 34 with fail
              have y0 : 0 ≤ v.n % (pool.length : Int) := Int.emod_nonneg _ (by omega)
              have y1 : v.n % (pool.length : Int) < pool.length := Int.emod_lt_of_pos _ (by omega)
              obtain ⟨at', hat⟩ : ∃ at' : Nat, v.n % (pool.length : Int) = at' := ⟨(v.n % (pool.length : Int)).toNat, by omega⟩
              rw [hat] at y1 ⊢
              have hatl : at' < pool.length := by omega
              clear y0 hat
              obtain ⟨m, hm⟩ : ∃ m, pool[at']? = some m := ⟨_, List.getElem?_eq_getElem hatl⟩
              have hmsg := HC.out.msg m (List.mem_of_getElem? hm)
              have hB1 := Bk.new wr #[.int .i64 v.what, .int .u8 v.node, .int .u16 v.n, .bool v.keep] 103
              have HC1 := HC.out.keep HB1.out
              generalize wr.alloc (.cells #[.int .i64 v.what, .int .u8 v.node, .int .u16 v.n, .bool v.keep] 103) = w1 at hB1 HC1 HB1 ⊢
              generalize wr.heap.size = dd at hB1 HB1 ⊢
              have hkp : w1.cell? ⟨dd, 3, none⟩ = some (.bool v.keep) := hB1.cell 3
              obtain ⟨bp, rfl, hrw⟩ := row_some HC1.row hatl hm
              obtain ⟨q0, q1, q2, q3, q4, q5, q6, q7, q8, q9⟩ := hrw
              have hb2 := (Below.refl w1.heap.size w1).alloc (Nat.le_refl _) (.cells #[.int .i64 (m.kind : Nat), .int .i64 (m.p : Nat), .int .i64 (m.tn : Nat), .int .u64 m.r, .int .i64 m.n, .bool m.vote.has, .int .u64 m.vote.r, .int .i64 m.vote.n, .string m.vote.val, .string m.value] 105)
              have K2 := Bk.new w1 #[.int .i64 (m.kind : Nat), .int .i64 (m.p : Nat), .int .i64 (m.tn : Nat), .int .u64 m.r, .int .i64 m.n, .bool m.vote.has, .int .u64 m.vote.r, .int .i64 m.vote.n, .string m.vote.val, .string m.value] 105
              have hkp2 := Bel.cell hb2 hkp
              have HC2 := Lib.hid (HC1.keep hb2)
              have HMS := Lib.hid hmsg
              have HM := Lib.hid hm
              clear HC hB1 HC1 HB1 hmsg hm
              go_upto_region 35 with fail
              generalize w1.alloc (.cells #[.int .i64 (m.kind : Nat), .int .i64 (m.p : Nat), .int .i64 (m.tn : Nat), .int .u64 m.r, .int .i64 m.n, .bool m.vote.has, .int .u64 m.vote.r, .int .i64 m.vote.n, .string m.vote.val, .string m.value] 105) = w2 at K2 HC2 hkp2 hb2 ⊢
              generalize w1.heap.size = ee at K2 hb2 ⊢
              have K2 := Lib.hid K2
              clear hb2 q0 q1 q2 q3 q4 q5 q6 q7 q8 q9 hkp
              cases hkv : v.keep with
              | false =>
                rw [hkv] at hkp2
                have hat0 : (at' : Int) ≤ (pool.length : Int) := by omega
                have hcl := row_cap HC2.out.row
                have hpre := take_cells HC2.out.row at'
                go_upto_region 38 with (at_builtin; go_loud (refine wpList_append_own _ rfl _ _ 101 rfl w2.heap.size 105 iN _ 10 96 Try.underlying101 hiN izN isN ibN rfl (by decide) _ _ _ rfl (World.ownsRow_nil w2 w2.heap.size 105 10) ⟨bp, 0, none⟩ at' cp (flatN (pool.take at')) rfl (by rw [flatN_len, List.length_take]; congr 1; omega) hpre (flatN_one _) (by unfold maxLen; omega) (by omega) (Nat.le_refl _) ?_; intro s3 w3 hown3 hgrow3 _))
                have hsz3 : w2.heap.size ≤ w3.heap.size := hgrow3.size
                have hb3 : Below w2.heap.size w2 w3 := (Below.refl _ _).grown hgrow3 (Nat.le_refl _) (fun k e => by cases e)
                have hpost := drop_cells (row_bel HC2.out.row hb3) (at' + 1)
                by_cases hcap : at' + 1 = cp
                · have hcapi : (cp : Int) = (at' : Int) + 1 := by omega
                  go_upto_region 39 with (at_builtin; go_loud (refine wpList_append_own _ rfl _ _ 101 rfl w2.heap.size 105 iN _ 10 96 Try.underlying101 hiN izN isN ibN rfl (by decide) _ _ _ rfl hown3 ⟨bp, 0, none⟩ 0 0 [] rfl rfl (fun j u h => by simp at h) (fun u h => by cases h) (by unfold maxLen; omega) (by omega) hsz3 ?_; intro s6 w6 hown6 hgrow6 _))
                  have hb6 := (Below.refl w2.heap.size w2).grown hgrow3 (Nat.le_refl _) (fun k e => by cases e)
                  have hb6 := hb6.trans ((Below.refl w2.heap.size w3).grown hgrow6 hsz3 (fun k e => (hown3.lt k e).1))
                  have hrow6 : w6.ownsRow w2.heap.size 105 10 s6 (pool.take at').length (flatN (pool.take at')) := by
                    rw [List.length_take, show min at' pool.length = at' by omega]
                    simpa using hown6
                  have HCX := Lib.hid (HC2.out.remove hb6 hrow6 (fun m hm => List.mem_of_mem_take hm) (by rw [List.length_take]; omega))
                  have K6 := Lib.hid (K2.out.bel hb6)
                  clear hown3 hgrow3 hown6 hgrow6 hrow6 hb6 hb3 hpost hpre HC2 K2
                  have HTK := Lib.hid (show Calls Try.prog 55 #[.agg #[.int .i64 (m.kind : Nat), .int .i64 (m.p : Nat), .int .i64 (m.tn : Nat), .int .u64 m.r, .int .i64 m.n, .bool m.vote.has, .int .u64 m.vote.r, .int .i64 m.vote.n, .string m.vote.val, .string m.value], yn, yh, sa, .int .i64 (N : Nat)] w6 fun e W' => ∃ so out S', e = .returned (.tuple #[so, .bool true]) ∧ S'.N = S.N ∧ S'.ps.length = S.ps.length ∧ ∃ col' A' pp', OutC w W' col' A' gA gL mL pp' S' yn yh sa s6 (pool.take at') (k + 1) so out from by
                    rw [← hSN]
                    exact HCX.out.taken (by omega) m HMS.out)
                  obtain ⟨d0, d1, d2, d3, d4⟩ : w6.cell? ⟨ee, 0, none⟩ = some (.int .i64 (m.kind : Nat)) ∧ w6.cell? ⟨ee, 1, none⟩ = some (.int .i64 (m.p : Nat)) ∧ w6.cell? ⟨ee, 2, none⟩ = some (.int .i64 (m.tn : Nat)) ∧ w6.cell? ⟨ee, 3, none⟩ = some (.int .u64 m.r) ∧ w6.cell? ⟨ee, 4, none⟩ = some (.int .i64 m.n) := ⟨K6.out.cell 0, K6.out.cell 1, K6.out.cell 2, K6.out.cell 3, K6.out.cell 4⟩
                  obtain ⟨d5, d6, d7, d8, d9⟩ : w6.cell? ⟨ee, 5, none⟩ = some (.bool m.vote.has) ∧ w6.cell? ⟨ee, 6, none⟩ = some (.int .u64 m.vote.r) ∧ w6.cell? ⟨ee, 7, none⟩ = some (.int .i64 m.vote.n) ∧ w6.cell? ⟨ee, 8, none⟩ = some (.string m.vote.val) ∧ w6.cell? ⟨ee, 9, none⟩ = some (.string m.value) := ⟨K6.out.cell 5, K6.out.cell 6, K6.out.cell 7, K6.out.cell 8, K6.out.cell 9⟩
                  clear HCX K6
                  go_wp2_with fail
                  refine HTK.out.mono ?_
                  clear HTK d0 d1 d2 d3 d4 d5 d6 d7 d8 d9
                  rintro e w7 ⟨so, out, S', rfl, hSN', hps', col', A', pp', hO⟩
                  have HO := Lib.hid hO
                  clear hO
                  go_upto_region 42 with fail
                  by_cases hso : so = .slice none 0 0
                  · subst hso
                    have HLAY3 := Lib.hid (show Lay w w7 S' yn yh sa s6 (pool.take at') (k + 1) from ⟨_, _, _, _, _, _, HO.out.lay⟩)
                    go_wp2_with (at_builtin; go_loud (refine wpList_append_own_none rfl _ _ 101 rfl 0 105 iN 10 Try.underlying101 hiN _ _ _ rfl HO.out.lay.row rfl ?_))
                    go_roundw
                    case rel => exact ⟨k + 1, S', _, _, pool.take at', rfl, rfl, by omega, hSN'.trans hSN, by rw [hps'], by go_num, HLAY3⟩
                    case measure => simp [intOf]; omega
                  · obtain ⟨gh, co, rfl⟩ := row_far HO.out.row hso
                    have hroom := HO.out.room
                    have hfewo := HO.out.few
                    go_wp2_with (at_builtin; go_loud (refine wp_app_where rfl _ _ 101 rfl 105 iN _ 10 96 Try.underlying101 hiN izN isN ibN rfl (by decide) _ _ _ rfl HO.out.lay.row ⟨gh, 0, none⟩ out.length co (flatN out) rfl (flatN_len _) (HO.out.row.cells rfl) (flatN_one _) (by unfold maxLen; omega) (by omega) ?_; intro s8 w8 hown8 hgrow8 hfoot8))
                    have HLAY3 := Lib.hid (HO.out.append hgrow8 hown8 hfoot8)
                    clear HO hown8 hgrow8 hfoot8
                    go_wp2_with fail
                    go_roundw
                    case rel => exact ⟨k + 1, S', _, _, _, rfl, rfl, by omega, hSN'.trans hSN, by rw [hps'], by go_num, HLAY3⟩
                    case measure => simp [intOf]; omega
                · have hcapi : ¬ (cp : Int) = (at' : Int) + 1 := by omega
                  have hcapj : (at' : Int) + 1 < (cp : Int) := by omega
                  go_upto_region 39 with (at_builtin; go_loud (refine wpList_append_own _ rfl _ _ 101 rfl w2.heap.size 105 iN _ 10 96 Try.underlying101 hiN izN isN ibN rfl (by decide) _ _ _ rfl hown3 ⟨bp, (at' + 1) * 10, none⟩ _ _ (flatN (pool.drop (at' + 1))) rfl (by rw [flatN_len, List.length_drop]) (hpost (by omega)) (flatN_one _) (by unfold maxLen; omega) (by omega) hsz3 ?_; intro s6 w6 hown6 hgrow6 _))
                  have hb6 := (Below.refl w2.heap.size w2).grown hgrow3 (Nat.le_refl _) (fun k e => by cases e)
                  have hb6 := hb6.trans ((Below.refl w2.heap.size w3).grown hgrow6 hsz3 (fun k e => (hown3.lt k e).1))
                  have hrow6 : w6.ownsRow w2.heap.size 105 10 s6 (pool.take at' ++ pool.drop (at' + 1)).length (flatN (pool.take at' ++ pool.drop (at' + 1))) := by
                    rw [List.length_append, List.length_take, List.length_drop, show min at' pool.length = at' by omega, flatN_append]
                    simpa using hown6
                  have HCX := Lib.hid (HC2.out.remove hb6 hrow6 (fun m hm => by
                    rcases List.mem_append.1 hm with h1 | h1
                    · exact List.mem_of_mem_take h1
                    · exact List.mem_of_mem_drop h1) (by rw [List.length_append, List.length_take, List.length_drop]; omega))
                  have K6 := Lib.hid (K2.out.bel hb6)
                  clear hown3 hgrow3 hown6 hgrow6 hrow6 hb6 hb3 hpost hpre HC2 K2
                  have HTK := Lib.hid (show Calls Try.prog 55 #[.agg #[.int .i64 (m.kind : Nat), .int .i64 (m.p : Nat), .int .i64 (m.tn : Nat), .int .u64 m.r, .int .i64 m.n, .bool m.vote.has, .int .u64 m.vote.r, .int .i64 m.vote.n, .string m.vote.val, .string m.value], yn, yh, sa, .int .i64 (N : Nat)] w6 fun e W' => ∃ so out S', e = .returned (.tuple #[so, .bool true]) ∧ S'.N = S.N ∧ S'.ps.length = S.ps.length ∧ ∃ col' A' pp', OutC w W' col' A' gA gL mL pp' S' yn yh sa s6 (pool.take at' ++ pool.drop (at' + 1)) (k + 1) so out from by
                    rw [← hSN]
                    exact HCX.out.taken (by omega) m HMS.out)
                  obtain ⟨d0, d1, d2, d3, d4⟩ : w6.cell? ⟨ee, 0, none⟩ = some (.int .i64 (m.kind : Nat)) ∧ w6.cell? ⟨ee, 1, none⟩ = some (.int .i64 (m.p : Nat)) ∧ w6.cell? ⟨ee, 2, none⟩ = some (.int .i64 (m.tn : Nat)) ∧ w6.cell? ⟨ee, 3, none⟩ = some (.int .u64 m.r) ∧ w6.cell? ⟨ee, 4, none⟩ = some (.int .i64 m.n) := ⟨K6.out.cell 0, K6.out.cell 1, K6.out.cell 2, K6.out.cell 3, K6.out.cell 4⟩
                  obtain ⟨d5, d6, d7, d8, d9⟩ : w6.cell? ⟨ee, 5, none⟩ = some (.bool m.vote.has) ∧ w6.cell? ⟨ee, 6, none⟩ = some (.int .u64 m.vote.r) ∧ w6.cell? ⟨ee, 7, none⟩ = some (.int .i64 m.vote.n) ∧ w6.cell? ⟨ee, 8, none⟩ = some (.string m.vote.val) ∧ w6.cell? ⟨ee, 9, none⟩ = some (.string m.value) := ⟨K6.out.cell 5, K6.out.cell 6, K6.out.cell 7, K6.out.cell 8, K6.out.cell 9⟩
                  clear HCX K6
                  go_wp2_with fail
                  refine HTK.out.mono ?_
                  clear HTK d0 d1 d2 d3 d4 d5 d6 d7 d8 d9
                  rintro e w7 ⟨so, out, S', rfl, hSN', hps', col', A', pp', hO⟩
                  have HO := Lib.hid hO
                  clear hO
                  go_upto_region 42 with fail
                  by_cases hso : so = .slice none 0 0
                  · subst hso
                    have HLAY3 := Lib.hid (show Lay w w7 S' yn yh sa s6 (pool.take at' ++ pool.drop (at' + 1)) (k + 1) from ⟨_, _, _, _, _, _, HO.out.lay⟩)
                    go_wp2_with (at_builtin; go_loud (refine wpList_append_own_none rfl _ _ 101 rfl 0 105 iN 10 Try.underlying101 hiN _ _ _ rfl HO.out.lay.row rfl ?_))
                    go_roundw
                    case rel => exact ⟨k + 1, S', _, _, pool.take at' ++ pool.drop (at' + 1), rfl, rfl, by omega, hSN'.trans hSN, by rw [hps'], by go_num, HLAY3⟩
                    case measure => simp [intOf]; omega
                  · obtain ⟨gh, co, rfl⟩ := row_far HO.out.row hso
                    have hroom := HO.out.room
                    have hfewo := HO.out.few
                    go_wp2_with (at_builtin; go_loud (refine wp_app_where rfl _ _ 101 rfl 105 iN _ 10 96 Try.underlying101 hiN izN isN ibN rfl (by decide) _ _ _ rfl HO.out.lay.row ⟨gh, 0, none⟩ out.length co (flatN out) rfl (flatN_len _) (HO.out.row.cells rfl) (flatN_one _) (by unfold maxLen; omega) (by omega) ?_; intro s8 w8 hown8 hgrow8 hfoot8))
                    have HLAY3 := Lib.hid (HO.out.append hgrow8 hown8 hfoot8)
                    clear HO hown8 hgrow8 hfoot8
                    go_wp2_with fail
                    go_roundw
                    case rel => exact ⟨k + 1, S', _, _, _, rfl, rfl, by omega, hSN'.trans hSN, by rw [hps'], by go_num, HLAY3⟩
                    case measure => simp [intOf]; omega
              | true =>
                rw [hkv] at hkp2
                have HCX := HC2
                have K6 := K2
                clear HC2 K2
                have HTK := Lib.hid (show Calls Try.prog 55 #[.agg #[.int .i64 (m.kind : Nat), .int .i64 (m.p : Nat), .int .i64 (m.tn : Nat), .int .u64 m.r, .int .i64 m.n, .bool m.vote.has, .int .u64 m.vote.r, .int .i64 m.vote.n, .string m.vote.val, .string m.value], yn, yh, sa, .int .i64 (N : Nat)] w2 fun e W' => ∃ so out S', e = .returned (.tuple #[so, .bool true]) ∧ S'.N = S.N ∧ S'.ps.length = S.ps.length ∧ ∃ col' A' pp', OutC w W' col' A' gA gL mL pp' S' yn yh sa (.slice (some ⟨bp, 0, none⟩) pool.length cp) (pool) (k + 1) so out from by
                  rw [← hSN]
                  exact HCX.out.taken (by omega) m HMS.out)
                obtain ⟨d0, d1, d2, d3, d4⟩ : w2.cell? ⟨ee, 0, none⟩ = some (.int .i64 (m.kind : Nat)) ∧ w2.cell? ⟨ee, 1, none⟩ = some (.int .i64 (m.p : Nat)) ∧ w2.cell? ⟨ee, 2, none⟩ = some (.int .i64 (m.tn : Nat)) ∧ w2.cell? ⟨ee, 3, none⟩ = some (.int .u64 m.r) ∧ w2.cell? ⟨ee, 4, none⟩ = some (.int .i64 m.n) := ⟨K6.out.cell 0, K6.out.cell 1, K6.out.cell 2, K6.out.cell 3, K6.out.cell 4⟩
                obtain ⟨d5, d6, d7, d8, d9⟩ : w2.cell? ⟨ee, 5, none⟩ = some (.bool m.vote.has) ∧ w2.cell? ⟨ee, 6, none⟩ = some (.int .u64 m.vote.r) ∧ w2.cell? ⟨ee, 7, none⟩ = some (.int .i64 m.vote.n) ∧ w2.cell? ⟨ee, 8, none⟩ = some (.string m.vote.val) ∧ w2.cell? ⟨ee, 9, none⟩ = some (.string m.value) := ⟨K6.out.cell 5, K6.out.cell 6, K6.out.cell 7, K6.out.cell 8, K6.out.cell 9⟩
                clear HCX K6
                go_wp2_with fail
                refine HTK.out.mono ?_
                clear HTK d0 d1 d2 d3 d4 d5 d6 d7 d8 d9
                rintro e w7 ⟨so, out, S', rfl, hSN', hps', col', A', pp', hO⟩
                have HO := Lib.hid hO
                clear hO
                go_upto_region 42 with fail
                by_cases hso : so = .slice none 0 0
                · subst hso
                  have HLAY3 := Lib.hid (show Lay w w7 S' yn yh sa (.slice (some ⟨bp, 0, none⟩) pool.length cp) (pool) (k + 1) from ⟨_, _, _, _, _, _, HO.out.lay⟩)
                  go_wp2_with (at_builtin; go_loud (refine wpList_append_own_none rfl _ _ 101 rfl 0 105 iN 10 Try.underlying101 hiN _ _ _ rfl HO.out.lay.row rfl ?_))
                  go_roundw
                  case rel => exact ⟨k + 1, S', _, _, pool, rfl, rfl, by omega, hSN'.trans hSN, by rw [hps'], by go_num, HLAY3⟩
                  case measure => simp [intOf]; omega
                · obtain ⟨gh, co, rfl⟩ := row_far HO.out.row hso
                  have hroom := HO.out.room
                  have hfewo := HO.out.few
                  go_wp2_with (at_builtin; go_loud (refine wp_app_where rfl _ _ 101 rfl 105 iN _ 10 96 Try.underlying101 hiN izN isN ibN rfl (by decide) _ _ _ rfl HO.out.lay.row ⟨gh, 0, none⟩ out.length co (flatN out) rfl (flatN_len _) (HO.out.row.cells rfl) (flatN_one _) (by unfold maxLen; omega) (by omega) ?_; intro s8 w8 hown8 hgrow8 hfoot8))
                  have HLAY3 := Lib.hid (HO.out.append hgrow8 hown8 hfoot8)
                  clear HO hown8 hgrow8 hfoot8
                  go_wp2_with fail
                  go_roundw
                  case rel => exact ⟨k + 1, S', _, _, _, rfl, rfl, by omega, hSN'.trans hSN, by rw [hps'], by go_num, HLAY3⟩
                  case measure => simp [intOf]; omega
        · have hkl : k = l.length := by omega
          subst hkl
          obtain ⟨u, hu1, hu2⟩ := hC.inv.one
          have HU1 := Lib.hid hu1
          have HU2 := Lib.hid hu2
          obtain ⟨Aa, ca, rfl⟩ := row_form hC.mem.all.1
          obtain ⟨bh, ch, rfl, _⟩ := ptr_cell hC.mem.hear.1 (show 0 < S.N by omega)
          have HBW := Lib.hid hC.below
          have HC := Lib.hid hC
          have HSN := Lib.hid hSN
          rw [hSN]
          have hp150 : S.ps.length ≤ 150 := by omega
          clear hu1 hu2 hC hlt hk hki hpl hfew hSN
          go_wp2_with fail
          go_loopw [25, 26, 27] (fun c b i w' => ∃ (j : Nat) (cs : ByteArray) (bs : Bool), c = .string cs ∧ b = .bool bs ∧ j ≤ N ∧ i = .int .i64 j ∧ Hid (bs = true → cs = u) ∧ Hid (Bel wr w')) (fun _ _ i _ => N + 1 - (intOf i).toNat)
          case atStart => exact ⟨0, _, _, rfl, rfl, Nat.zero_le _, rfl, Lib.hid (fun h => by cases h), Lib.hid (Bel.refl _)⟩
          case round =>
            obtain ⟨j, cs, bs, rfl, rfl, hj, rfl, hcu, hbw⟩ := hrel
            have hji : (j : Int) ≤ (N : Int) := by omega
            by_cases hjl : j < N
            · have hjn : (j : Int) < (N : Int) := by omega
              have hjs : j < S.N := by rw [HSN.out]; exact hjl
              have hv := HU1.out j hjs
              obtain ⟨b2, c2, e2, hcell⟩ := ptr_cell (HC.out.mem.keep hbw.out).hear.1 hjs
              injection e2 with e2 _ e3
              injection e2 with e2
              injection e2 with e2 _ _
              subst e2 e3
              have hcall0 := lchosen_any ((HC.out.mem.keep hbw.out).lrn j hjs).1
              generalize (S.ln j).val = v at hv hcall0
              generalize (S.ln j).known = z at hv hcall0
              have hcall := Lib.hid hcall0
              clear hjs hcall0
              go_wp2_with fail
              refine hcall.out.mono ?_
              rintro e w1 ⟨rfl, hb1⟩
              have hbw1 := Lib.hid (Below.trans hbw.out (hb1.mono hbw.out.size))
              clear hcall hcell hb1
              cases z with
              | false =>
                clear hv hbw
                go_wp2_with fail
                go_roundw
                case rel => exact ⟨j + 1, _, _, rfl, rfl, by omega, by go_num, hcu, hbw1⟩
                case measure => simp [intOf]; omega
              | true =>
                obtain rfl : v = u := hv rfl
                clear hv hbw
                cases bs with
                | false =>
                  go_wp2_with fail
                  go_roundw
                  case rel => exact ⟨j + 1, _, _, rfl, rfl, by omega, by go_num, Lib.hid (fun _ => rfl), hbw1⟩
                  case measure => simp [intOf]; omega
                | true =>
                  obtain rfl : cs = v := hcu.out rfl
                  go_wp2_with fail
                  go_roundw
                  case rel => exact ⟨j + 1, _, _, rfl, rfl, by omega, by go_num, Lib.hid (fun _ => rfl), hbw1⟩
                  case measure => simp [intOf]; omega
            · obtain rfl : N = j := by omega
              have HC2 := Lib.hid (HC.out.keep hbw.out)
              clear HC hbw hjl hj hji HBW
              go_wp2_with fail
              go_loopw [25, 26, 30] (fun c b i w' => ∃ (j : Nat) (cs : ByteArray) (bs : Bool), c = .string cs ∧ b = .bool bs ∧ j ≤ S.ps.length ∧ i = .int .i64 j ∧ Hid (bs = true → cs = u) ∧ Hid (Bel wr w')) (fun _ _ i _ => S.ps.length + 1 - (intOf i).toNat)
              case atStart => exact ⟨0, _, _, rfl, rfl, Nat.zero_le _, rfl, hcu, Lib.hid (Bel.refl _)⟩
              case round =>
                clear hcu
                obtain ⟨j, cs, bs, rfl, rfl, hj, rfl, hcu, hbw⟩ := hrel
                have hji : (j : Int) ≤ (S.ps.length : Int) := by omega
                by_cases hjl : j < S.ps.length
                · have hjn : (j : Int) < (S.ps.length : Int) := by omega
                  obtain ⟨P, hP⟩ : ∃ P, S.ps[j]? = some P := ⟨_, List.getElem?_eq_getElem hjl⟩
                  have hv := HU2.out j P hP
                  obtain ⟨ba, c2, e2, hcell⟩ := ptr_cell (g := fun p => (pp p).g) (HC2.out.mem.keep hbw.out).all.1 hjl
                  injection e2 with e2 _ e3
                  subst e2 e3
                  have hcall0 := pchosen_any ((HC2.out.mem.keep hbw.out).prp j P hP).1 (by have := HC2.out.small.2 j P hP; omega)
                  generalize (pChosen P).1 = v at hv hcall0
                  generalize (pChosen P).2 = z at hv hcall0
                  have hcall := Lib.hid hcall0
                  clear hP hcall0
                  go_wp2_with fail
                  refine hcall.out.mono ?_
                  rintro e w1 ⟨rfl, hb1⟩
                  have hbw1 := Lib.hid (Below.trans hbw.out (hb1.mono hbw.out.size))
                  clear hcall hcell hb1
                  cases z with
                  | false =>
                    clear hv hbw
                    go_wp2_with fail
                    go_roundw
                    case rel => exact ⟨j + 1, _, _, rfl, rfl, by omega, by go_num, hcu, hbw1⟩
                    case measure => simp [intOf]; omega
                  | true =>
                    obtain rfl : v = u := hv rfl
                    clear hv hbw
                    cases bs with
                    | false =>
                      go_wp2_with fail
                      go_roundw
                      case rel => exact ⟨j + 1, _, _, rfl, rfl, by omega, by go_num, Lib.hid (fun _ => rfl), hbw1⟩
                      case measure => simp [intOf]; omega
                    | true =>
                      obtain rfl : cs = v := hcu.out rfl
                      go_wp2_with fail
                      go_roundw
                      case rel => exact ⟨j + 1, _, _, rfl, rfl, by omega, by go_num, Lib.hid (fun _ => rfl), hbw1⟩
                      case measure => simp [intOf]; omega
                · obtain rfl : S.ps.length = j := by omega
                  have HE := Lib.hid (HC2.out.keep hbw.out).below
                  clear hbw HC2 HU1 HU2 hcu
                  go_wp2_with (go_at_call 40; refine (works14_any _).mono ?_; rintro e w' ⟨rfl, hbw⟩)
                  go_ret
                  exact ⟨rfl, HE.out.trans (hbw.mono HE.out.size)⟩

theorem loneWalk (nn : Int) (A : Option Addr) (len cap : Nat) (l : List Ac4) (w : World) (_ : (Lit.int .i64 nn).wf = true) (hlen : l.length = len) (hl : len ≤ 9223372036854775807) (hoks : ∀ s ∈ l, s.ok) (hx : ActsAt w A l) :
    Calls Try.prog 16 #[.int .i64 nn, .slice A len cap] w fun e w' => e = .returned (.bool true) ∧ Below w.heap.size w w' := by
  subst hlen
  exact lone_walk nn A cap l w hx hl hoks

end Go.Proofs.Ytlgljcfkoakogaa
