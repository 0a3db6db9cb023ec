import Derived.Test.YtlgljcfkoakogaaC1
import Derived.MapKept
namespace Go.Proofs.Ytlgljcfkoakogaa
open Go.RowKit
set_option linter.unusedSimpArgs false
set_option linter.unusedVariables false


theorem run_getMap {gm : Nat} {es : Array MapEntry} {clk : Nat} {w : World} (h : w.heap[gm]? = some (.map es clk)) : (getObj gm).run Try.prog w = .ok (.map es clk) w := by simp [getObj, Sem.run, h]
theorem lookup_none (r n : Int) (gm : Nat) (es : Array MapEntry) (clk : Nat) (w : World) (h : w.heap[gm]? = some (.map es clk)) (hn : NoKey r n es.toList) :
    (Instr.lookup 42 (.map (some gm)) (keyV r n) false).run Try.prog w = .ok (.int .i64 0) w := by
  have h1 := key_none r n w es.toList hn
  have h2 := key_check es.isEmpty r n w
  have h3 := run_getMap h
  unfold Instr.lookup
  simp [go_sem, h1, h2, h3]
theorem entry_new (r n : Int) (gm : Nat) (es : Array MapEntry) (clk : Nat) (w : World) (h : w.heap[gm]? = some (.map es clk)) (hn : NoKey r n es.toList) :
    (Instr.mapEntry 42 (.map (some gm)) (keyV r n)).run Try.prog w = .ok (.tuple #[.int .i64 0, .int .i64 clk]) { w with heap := w.heap.setIfInBounds gm (.map (es.push { key := keyV r n, val := .int .i64 0, born := clk }) (clk + 1)) } := by
  have h1 := key_none r n w es.toList hn
  have h2 := key_check false r n w
  have h3 := run_getMap h
  have h4 := fun o => MapKept.run_setObj_map (P := Try.prog) o h
  unfold Instr.mapEntry
  simp [go_sem, h1, h2, h3, h4, goInt]
theorem entry_store (k v0 : Value) (gm : Nat) (es : Array MapEntry) (clk : Nat) (v : Value) (w : World) (h : w.heap[gm]? = some (.map (es.push { key := k, val := v0, born := clk }) (clk + 1))) (hb : ∀ e ∈ es, e.born ≠ clk) :
    (Instr.entryStore 42 (.map (some gm)) (.int .i64 clk) v).run Try.prog w = .ok () { w with heap := w.heap.setIfInBounds gm (.map (es.push { key := k, val := v, born := clk }) (clk + 1)) } := by
  have h1 : (es.push { key := k, val := v0, born := clk }).findIdx? (fun e => (e.born : Int) == (clk : Int)) = some es.size := by
    rw [Array.findIdx?_push]
    have h0 : es.findIdx? (fun e => (e.born : Int) == (clk : Int)) = none := by
      rw [Array.findIdx?_eq_none_iff]
      intro x hx
      have := hb x hx
      simp; omega
    simp [h0]
  have h3 := run_getMap h
  have h4 := fun o => MapKept.run_setObj_map (P := Try.prog) o h
  have h5 : (es.push { key := k, val := v0, born := clk }).modify es.size (fun e => { key := e.key, val := v, born := e.born }) = es.push { key := k, val := v, born := clk } := by
    apply Array.ext_getElem?
    intro i
    simp [Array.getElem?_modify, Array.getElem?_push]
    by_cases hi : i = es.size
    · subst hi; simp
    · simp [hi, Ne.symm hi]
  unfold Instr.entryStore
  simp [go_sem, h1, h3, h4, h5]

end Go.Proofs.Ytlgljcfkoakogaa
