/-
  Package bounds: the numbers of a plan that may be. Condition: the plan may be, and the time.
-/
import Derived.Test.YtelmgipnlflmaaaTable
import Derived.Test.YtelmgipnlflmaaaStore
import Derived.Test.YtelmgipnlflmaaaMid
import Derived.Laws.Small
import Derived.Test.YtelmgipnlflmaaaTail
namespace Go.Proofs.Ytelmgipnlflmaaa
open Go.RowKit

def mx (x y : Int) : Int := if y > x then y else x
def ofC (rho r cap : Int) : Array Value := #[.int .i64 rho, .int .i64 r, .int .i64 cap]
theorem cell_kept {w : World} {o : Obj} {B : Nat} {v : Value} (hlt : B < w.heap.size) (h : w.cell? ⟨B, 0, none⟩ = some v) : (w.alloc o).cell? ⟨B, 0, none⟩ = some v :=
  (Below.cell (Grow.to_alloc w o) (p := ⟨B, 0, none⟩) hlt).trans h
theorem cell_two_at (w : World) (o : Obj) (v : Value) (t : TypeId) : ((w.alloc o).alloc (.cells #[v] t)).cell? ⟨w.heap.size + 1, 0, none⟩ = some v := by
  have h := row_new (w.alloc o) (.cells #[v] t)
  simp only [World.size_alloc] at h
  exact cell_of_row _ _ 0 _ _ _ h
theorem of_zero_row (w : World) (p : Plan) : ((w.alloc (.cells (planC p) 23)).alloc (.cells #[.int .i64 0, .int .i64 0, .int .i64 0] 88)).heap[w.heap.size + 1]? = some (.cells #[.int .i64 0, .int .i64 0, .int .i64 0] 88) := by
  have := row_new (w.alloc (.cells (planC p) 23)) (.cells #[.int .i64 0, .int .i64 0, .int .i64 0] 88)
  simpa using this
set_option maxRecDepth 100000 in
set_option maxHeartbeats 1000000 in
theorem number_ok (p : Plan) (t : Int) (h : p.Ok) (h0 : 0 ≤ t) (h1 : t ≤ 4294967296) (w : World) :
    Calls Try.prog 75 #[planV p, .int .i64 t] w fun e w' => e = .returned (.tuple #[.agg (ofC p.rho p.R p.cap), .bool true]) ∧ Grow w w' := by
  have hC := Lib.hid (check_ok p h)
  have hR := Lib.hid (Round_any p h.known)
  have hr0 := row_old (o' := .cells #[.int .i64 0, .int .i64 0, .int .i64 0] 88) (row_new w (.cells (planC p) 23))
  have hz0 := of_zero_row w p
  clear h
  go_enter Try.func75, Try.ntmps75
  go_wp2_with (first
    | (go_at_call 14; refine (hC.out _).mono ?_; rintro e w1 ⟨rfl, hg⟩; have hr1 := hg.row hr0; have hz1 := hg.row hz0; have k8 : w1.cell? ⟨w.heap.size, 8, none⟩ = some (.int .i64 p.rho) := cell_of_row w1 _ 8 _ _ _ hr1; have k10 : w1.cell? ⟨w.heap.size, 10, none⟩ = some (.int .i64 p.cap) := cell_of_row w1 _ 10 _ _ _ hr1; have hzz : w.heap.size < w1.heap.size := (Array.getElem?_eq_some_iff.1 hr1).1)
    | (refine wpList_isload 23 _ rfl ?_; refine wpList_load_rowg 23 _ rfl rfl _ rfl _ _ _ _ (by first | exact row_new _ _ | exact row_old (row_new _ _) | exact row_old (row_old (row_new _ _)) | exact row_old (row_old (row_old (row_new _ _))) | assumption) Try.underlying23 rfl (by kernel_rfl) ?_))
  refine wp_region_grow_tail 8 (by kernel_rfl) (by kernel_rfl) ?_
  simp only [List.take_succ_cons, List.take_zero, List.drop_succ_cons, List.drop_zero]
  repeat
    apply wpQuiet_op rfl
    · intro W hW
      first
        | exact quiet_load_row 23 _ rfl _ rfl _ _ _ _ (hW.row (by first | exact row_new _ _ | exact row_old (row_new _ _) | exact row_old (row_old (row_new _ _)) | exact row_old (row_old (row_old (row_new _ _))) | assumption)) Try.underlying23 rfl (by kernel_rfl)
        | (obtain ⟨hc, hf⟩ := hW.cells
           go_simp
           first
             | (go_at_call 16; exact Calls.grow hW (hR.out _))
             | exact rfl
             | exact ⟨rfl, rfl⟩)
    simp only [Act.put, List.setIfInBounds_toArray, List.set_cons_zero, List.set_cons_succ]
  refine wpQuiet_nil ?_
  intro W hW
  have hz := hW.size
  obtain ⟨hc, hf⟩ := hW.cells
  have hz2 := hW.row hz1
  go_wp2_with (refine wpList_store_row rfl 88 _ _ rfl (w.heap.size + 1) (ofC p.rho p.R p.cap) rfl rfl 88 _ hz2 (by kernel_rfl) rfl (by kernel_rfl) ?_)
  have hres := results_cell_tmp (P := Try.prog) (fn := Try.f75) (p := 4) (q := 5) (ty := 88) rfl
  refine bodyPost_ret (v := .tuple #[.agg (ofC p.rho p.R p.cap), .bool true]) ?_ rfl ⟨rfl, ?_⟩
  · exact hres _ _ (w.heap.size + 1) _ (ofC p.rho p.R p.cap) _ _ rfl (setRow_heap _ _ _ _ _ _ hz2) Try.underlying88 rfl (by kernel_rfl)
  · exact ((((Grow.refl _).alloc _).alloc _).trans (hg.trans hW)).setRow (by omega) _
end Go.Proofs.Ytelmgipnlflmaaa
