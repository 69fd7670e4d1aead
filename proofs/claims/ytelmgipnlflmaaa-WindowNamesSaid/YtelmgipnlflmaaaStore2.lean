/-
  A struct of whole parts is built; a whole row is written into a block that was just made, its number however spelled. No statement of the seat; no condition.
-/
import Derived.Test.YtelmgipnlflmaaaStore
import Derived.Laws.Tables
namespace Go.Proofs.Ytelmgipnlflmaaa
open Go.RowKit

theorem wpList_store_at {P : Program} {ops : Array Oper} {rest : List Oper} {o : Oper} {a : Act} {Q : Exit → Act → World → Prop} (ty : TypeId) (x y : Operand) (ho : o.op = .store ty x y) (hgd : o.guard = none) (w0 : World)
    (cells : Array Value) (t : TypeId) (old : Array Value) (g : Nat) (hx : a.eval x = .pointer (some ⟨g, 0, none⟩)) (hy : a.eval y = .agg cells) (hi : (P.info? ty).map (·.size) = some cells.size)
    (hold : old.size = cells.size) (h1 : cells.all (·.oneCell') = true) (hg : g = w0.heap.size)
    (h : wpList P ops Q rest (a.put o.dst undef) (w0.alloc (.cells cells t))) : wpList P ops Q (o :: rest) a (w0.alloc (.cells old t)) := by
  subst hg
  exact wpList_store_new ty x y ho hgd w0 cells t old hx hy hi hold h1 h
/-- A struct is built of two whole parts. -/
theorem wpList_build2 {P : Program} {ops : Array Oper} {rest : List Oper} {o : Oper} {a : Act} {w : World} {Q : Exit → Act → World → Prop} (hg : o.guard = none) (t : TypeId) (x y : Operand) (ho : o.op = .build t #[(0, x), (1, y)])
    (u v : Value) (hx : a.eval x = u) (hy : a.eval y = v) (cells : Array Value) (hb : P.built t [(0, u), (1, v)] = some cells)
    (h : wpList P ops Q rest (a.put o.dst (.agg cells)) w) : wpList P ops Q (o :: rest) a w := by
  have hb' : P.built t ((#[(0, x), (1, y)] : Array (Nat × Operand)).map fun (i, x) => (i, a.eval x)).toList = some cells := by
    simpa [hx, hy] using hb
  exact wpList_build hg t _ ho (by rw [hb']; rfl) (by rw [hb']; exact h)
end Go.Proofs.Ytelmgipnlflmaaa
