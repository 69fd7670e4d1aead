/-
  Whole rows written: into a block that was just made. No statement of the seat; no condition.
-/
import Derived.Test.YtelmgipnlflmaaaBase
namespace Go.Proofs.Ytelmgipnlflmaaa
open Go.RowKit

theorem setRow_alloc (w : World) (old cs : Array Value) (t : TypeId) : (w.alloc (.cells old t)).setRow w.heap.size cs = w.alloc (.cells cs t) := by
  unfold World.setRow World.alloc
  congr 1
  apply Array.ext_getElem?
  intro i
  rw [Array.getElem?_modify, Array.getElem?_push, Array.getElem?_push]
  by_cases e : w.heap.size = i
  · subst e
    simp
  · have e' : ¬ i = w.heap.size := fun h => e h.symm
    simp [e, e']
theorem wpList_store_new {P : Program} {ops : Array Oper} {rest : List Oper} {o : Oper} {a : Act} {Q : Exit → Act → World → Prop} (ty : TypeId) (x y : Operand) (ho : o.op = .store ty x y) (hgd : o.guard = none) (w0 : World)
    (cells : Array Value) (t : TypeId) (old : Array Value) (hx : a.eval x = .pointer (some ⟨w0.heap.size, 0, none⟩)) (hy : a.eval y = .agg cells) (hi : (P.info? ty).map (·.size) = some cells.size)
    (hold : old.size = cells.size) (h1 : cells.all (·.oneCell') = true)
    (h : wpList P ops Q rest (a.put o.dst undef) (w0.alloc (.cells cells t))) : wpList P ops Q (o :: rest) a (w0.alloc (.cells old t)) :=
  wpList_store_row hgd ty x y ho w0.heap.size cells hx hy t old (row_new w0 _) hi hold h1 (by rw [setRow_alloc]; exact h)
end Go.Proofs.Ytelmgipnlflmaaa
