/-
  A guard for the arms at a store. No statement of the seat; no condition.
-/
import Derived.Test.YtelmgipnlflmaaaBase
namespace Go.Proofs.Ytelmgipnlflmaaa
open Go.RowKit

theorem wpList_isstore {P : Program} {ops : Array Oper} {rest : List Oper} {o : Oper} {a : Act} {w : World} {Q : Exit → Act → World → Prop} (ty : TypeId) (x y : Operand) (_ho : o.op = .store ty x y) (h : wpList P ops Q (o :: rest) a w) : wpList P ops Q (o :: rest) a w := h
end Go.Proofs.Ytelmgipnlflmaaa
