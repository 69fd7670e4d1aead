/-
  Structs that came in by value, opened to their cells. Conditions: those that stand ahead of each.
-/
import Derived.Test.YtelmgipnlflmaaaStartup
import Derived.ProofKit
import Derived.OpenShut
import Derived.ChangeOld
import Derived.Carry
import Derived.Deep.Fields
namespace Go.Proofs.Ytelmgipnlflmaaa
open Go.ChangeShapes Go.WideShapes Go.ChangeAt Go.RowKit Go.Deep

section
variable {H : Type} {enc : TypeId × Value → H} {P : Program} {w : World} {base : Nat} {spare : Nat → Bool} {held : Bool}
/-- Each field of a struct whose fields are one cell each. -/
theorem open_cells {r : Reach} {b0 : Nat} {t : TypeId} {fs : Array Field} {v : Value} {d : DataW H} {p : List MemPlace} (hs : P.underlying t = some (.struct fs)) (hone : oneCellFields P fs = true) (hC : P.cellsOf t = fs.size)
    (hv : Value.okWide P w r b0 t v) (h : DataW.Trod enc P w base spare held t v d p) :
    ∃ (l : List Value) (n : Nat), v = .agg ⟨l⟩ ∧ l.length = fs.size ∧ ∀ j f, fs[j]? = some f → ∃ y, DataW.trod enc P w base spare held n f.type [l.getD j undef] = some y := by
  obtain ⟨cs, rfl, hsz⟩ := okWide_struct hs hv
  obtain ⟨l⟩ := cs
  obtain ⟨fuel, hf⟩ := h
  obtain ⟨xs, n, _, hx, hl, hlen, hg⟩ := DataW.trod_struct hs hf
  have hll : l.length = fs.size := hsz.trans hC
  refine ⟨l, n, rfl, hll, fun j f hj => ?_⟩
  have hlt : j < fs.size := (Array.getElem?_eq_some_iff.1 hj).1
  obtain ⟨ho, hk⟩ := hone_of hone j f hj
  have h1 := hg j f hj
  rw [ho, hk] at h1
  have h2 : ((Value.agg ⟨l⟩).cells.toList.drop j).take 1 = [l.getD j undef] := take1_drop l j undef (by omega)
  rw [h2] at h1
  exact ⟨xs[j]'(by omega), h1.trans (List.getElem?_eq_getElem (by omega))⟩
theorem i64_of_wf {n : Int} (h : (Lit.int .i64 n).wf = true) : I64 n := by
  have := Go.bounds_i64 h
  exact this
theorem cell_i64 {t : TypeId} {n : Nat} {c : Value} (ht : P.underlying t = some (.int .i64)) (h : ∃ y, DataW.trod enc P w base spare held n t [c] = some y) : ∃ z, c = .int .i64 z ∧ I64 z := by
  obtain ⟨y, hy⟩ := h
  obtain ⟨z, e, _, hz⟩ := DataW.trod_int ht hy
  simp only [List.cons.injEq, and_true] at e
  exact ⟨z, e, i64_of_wf hz⟩
theorem cell_bool {t : TypeId} {n : Nat} {c : Value} (ht : P.underlying t = some .bool) (h : ∃ y, DataW.trod enc P w base spare held n t [c] = some y) : ∃ z, c = .bool z := by
  obtain ⟨y, hy⟩ := h
  obtain ⟨z, e, _⟩ := DataW.trod_bool ht hy
  simp only [List.cons.injEq, and_true] at e
  exact ⟨z, e⟩
end
section
variable {H : Type} {enc : TypeId × Value → H} {w : World} {base : Nat} {spare : Nat → Bool} {held : Bool}
set_option maxRecDepth 100000 in
theorem open_plan {r : Reach} {b0 : Nat} {v : Value} {d : DataW H} {q : List MemPlace} (hv : Value.okWide Try.prog w r b0 23 v) (h : DataW.Trod enc Try.prog w base spare held 23 v d q) :
    ∃ p : Plan, v = planV p ∧ p.Wf := by
  obtain ⟨l, n, rfl, hl, hf⟩ := open_cells Try.underlying23 (by kernel_rfl) (by kernel_rfl) hv h
  match l, hl with
  | [c0, c1, c2, c3, c4, c5, c6, c7, c8, c9, c10, c11, c12, c13, c14, c15], _ =>
    obtain ⟨z0, rfl, i0⟩ := cell_i64 Try.underlying3 (hf 0 _ rfl)
    obtain ⟨z1, rfl, i1⟩ := cell_i64 Try.underlying3 (hf 1 _ rfl)
    obtain ⟨z2, rfl, i2⟩ := cell_i64 Try.underlying2 (hf 2 _ rfl)
    obtain ⟨z3, rfl, i3⟩ := cell_i64 Try.underlying2 (hf 3 _ rfl)
    obtain ⟨z4, rfl, i4⟩ := cell_i64 Try.underlying2 (hf 4 _ rfl)
    obtain ⟨z5, rfl, i5⟩ := cell_i64 Try.underlying2 (hf 5 _ rfl)
    obtain ⟨z6, rfl, i6⟩ := cell_i64 Try.underlying2 (hf 6 _ rfl)
    obtain ⟨z7, rfl, i7⟩ := cell_i64 Try.underlying2 (hf 7 _ rfl)
    obtain ⟨z8, rfl, i8⟩ := cell_i64 Try.underlying2 (hf 8 _ rfl)
    obtain ⟨z9, rfl, i9⟩ := cell_i64 Try.underlying2 (hf 9 _ rfl)
    obtain ⟨z10, rfl, i10⟩ := cell_i64 Try.underlying2 (hf 10 _ rfl)
    obtain ⟨z11, rfl, i11⟩ := cell_i64 Try.underlying2 (hf 11 _ rfl)
    obtain ⟨z12, rfl, i12⟩ := cell_i64 Try.underlying3 (hf 12 _ rfl)
    obtain ⟨z13, rfl, i13⟩ := cell_i64 Try.underlying3 (hf 13 _ rfl)
    obtain ⟨z14, rfl, i14⟩ := cell_i64 Try.underlying3 (hf 14 _ rfl)
    obtain ⟨z15, rfl, i15⟩ := cell_i64 Try.underlying2 (hf 15 _ rfl)
    exact ⟨⟨z0, z1, z2, z3, z4, z5, z6, z7, z8, z9, z10, z11, z12, z13, z14, z15⟩, rfl, ⟨i0, i1, i2, i3, i4, i5, i6, i7, i8, i9, i10, i11, i12, i13, i14, i15⟩⟩
set_option maxRecDepth 100000 in
theorem open_starter {r : Reach} {b0 : Nat} {v : Value} {d : DataW H} {q : List MemPlace} (hv : Value.okWide Try.prog w r b0 25 v) (h : DataW.Trod enc Try.prog w base spare held 25 v d q) :
    ∃ s : St, v = stV s ∧ I64 s.own ∧ I64 s.state ∧ I64 s.since ∧ I64 s.first ∧ I64 s.tries := by
  obtain ⟨l, n, rfl, hl, hf⟩ := open_cells Try.underlying25 (by kernel_rfl) (by kernel_rfl) hv h
  match l, hl with
  | [c0, c1, c2, c3, c4, c5], _ =>
    obtain ⟨z0, rfl, i0⟩ := cell_i64 Try.underlying3 (hf 0 _ rfl)
    obtain ⟨z1, rfl, i1⟩ := cell_i64 Try.underlying3 (hf 1 _ rfl)
    obtain ⟨z2, rfl, i2⟩ := cell_i64 Try.underlying2 (hf 2 _ rfl)
    obtain ⟨z3, rfl, i3⟩ := cell_i64 Try.underlying2 (hf 3 _ rfl)
    obtain ⟨z4, rfl⟩ := cell_bool Try.underlying4 (hf 4 _ rfl)
    obtain ⟨z5, rfl, i5⟩ := cell_i64 Try.underlying3 (hf 5 _ rfl)
    exact ⟨⟨z0, z1, z2, z3, z4, z5⟩, rfl, i0, i1, i2, i3, i5⟩
set_option maxRecDepth 100000 in
theorem open_place {r : Reach} {b0 : Nat} {v : Value} {d : DataW H} {q : List MemPlace} (hv : Value.okWide Try.prog w r b0 52 v) (h : DataW.Trod enc Try.prog w base spare held 52 v d q) :
    ∃ x y : Int, v = .agg #[.int .i64 x, .int .i64 y] ∧ I64 x ∧ I64 y := by
  obtain ⟨l, n, rfl, hl, hf⟩ := open_cells Try.underlying52 (by kernel_rfl) (by kernel_rfl) hv h
  match l, hl with
  | [c0, c1], _ =>
    obtain ⟨z0, rfl, i0⟩ := cell_i64 Try.underlying2 (hf 0 _ rfl)
    obtain ⟨z1, rfl, i1⟩ := cell_i64 Try.underlying3 (hf 1 _ rfl)
    exact ⟨z0, z1, rfl, i0, i1⟩
end
end Go.Proofs.Ytelmgipnlflmaaa
