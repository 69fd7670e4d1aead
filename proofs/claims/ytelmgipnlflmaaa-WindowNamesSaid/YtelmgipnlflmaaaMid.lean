/-
  A struct that lies inside another one is read: its cells out of the row. No statement of the seat; no condition.
-/
import Derived.Test.YtelmgipnlflmaaaBase
import Derived.Deep.MidRow
namespace Go.Proofs.Ytelmgipnlflmaaa
open Go.RowKit

theorem range_of_row {w : World} {g : Nat} {cs : Array Value} {t : TypeId} {fr : Nat × Nat} (h : w.heap[g]? = some (.cells cs t fr)) (o : Nat) (l : Array Value) (hl : ∀ j v, l.toList[j]? = some v → cs[o + j]? = some v) : w.rangeAt g o l.toList :=
  fun j v hv => by
    rw [cell_of_row w g (o + j) cs t fr h]
    exact hl j v hv
theorem run_loadVar_midA {P : Program} (w : World) (b o : Nat) (ty : TypeId) (cs : Array Value) (d : TypeDesc) (hc : w.rangeAt b o cs.toList)
    (hu : P.underlying ty = some d) (hd : d.isRow = true) (hi : (P.info? ty).map (·.size) = some cs.size) :
    (loadVar ty ⟨b, o, none⟩).run P w = .ok (.agg cs) w := by
  have := run_loadVar_mid (P := P) w b o ty cs.toList d hc hu hd (by simpa using hi)
  simpa using this
theorem quiet_load_mid {P : Program} {C : World → Prop} {W : World} {o : Oper} {a : Act} (ty : TypeId) (x : Operand) (ho : o.op = .load ty x)
    (g off : Nat) (hx : a.eval x = .pointer (some ⟨g, off, none⟩)) (cs : Array Value) (d : TypeDesc) (hc : W.rangeAt g off cs.toList)
    (hu : P.underlying ty = some d) (hd : d.isRow = true) (hi : (P.info? ty).map (·.size) = some cs.size) :
    Oper.quietUpon P C W (.agg cs) ((execOp a.eval o).run P W) := by
  unfold execOp
  simp only [ho, hx, Instr.loadAt, Instr.sureAddr, Sem.run_bind, Sem.run_pure, Result.andThen_ok, run_loadVar_midA W g off ty cs d hc hu hd hi]
  exact ⟨rfl, rfl⟩
theorem wpList_load_midg {P : Program} {ops : Array Oper} {rest : List Oper} {o : Oper} {a : Act} {w : World} {Q : Exit → Act → World → Prop} (ty : TypeId) (x : Operand) (ho : o.op = .load ty x)
    (hw : Region.wanted o (yielded ops a.tmps) = true) (g off : Nat) (hx : a.eval x = .pointer (some ⟨g, off, none⟩)) (cs : Array Value) (d : TypeDesc) (hc : w.rangeAt g off cs.toList)
    (hu : P.underlying ty = some d) (hd : d.isRow = true) (hi : (P.info? ty).map (·.size) = some cs.size)
    (h : wpList P ops Q rest (a.put o.dst (.agg cs)) w) : wpList P ops Q (o :: rest) a w :=
  wpList_step fun K hK => by
    rw [if_pos hw]
    unfold Oper.wp execOp
    simp only [ho, hx, Instr.loadAt, Instr.sureAddr, Sem.run_bind, Sem.run_pure, Result.andThen_ok, run_loadVar_midA w g off ty cs d hc hu hd hi]
    exact hK _ _ h
end Go.Proofs.Ytelmgipnlflmaaa
