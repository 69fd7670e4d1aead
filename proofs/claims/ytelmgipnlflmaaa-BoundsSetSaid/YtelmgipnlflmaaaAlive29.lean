/-
  The chapter's first examples of layer 29 hold. No condition.
-/
import Derived.Test.YtelmgipnlflmaaaBounds
import Derived.Test.YtelmgipnlflmaaaFit3
import Derived.Test.YtelmgipnlflmaaaStore
namespace Go.Proofs.Ytelmgipnlflmaaa
open Go.RowKit

theorem zero_row29 (w : World) (t : TypeId) (cs : Array Value) : (w.alloc (.cells cs t)).heap[w.heap.size]? = some (.cells cs t (0, 0)) := row_new w _
set_option maxRecDepth 100000 in
set_option maxHeartbeats 1000000 in
theorem some29_any (w : World) :
    Calls Try.prog 41 #[] w fun e w' => e = .returned (planV (fitP 8)) ∧ Grow w w' := by
  have hF := Lib.hid (Fit_any 8 (by omega) (by omega))
  have hz0 := zero_row29 w 23 #[.int .i64 0, .int .i64 0, .int .i64 0, .int .i64 0, .int .i64 0, .int .i64 0, .int .i64 0, .int .i64 0, .int .i64 0, .int .i64 0, .int .i64 0, .int .i64 0, .int .i64 0, .int .i64 0, .int .i64 0, .int .i64 0]
  go_enter Try.func41, Try.ntmps41
  go_wp2_with (first
    | (go_at_call 54; refine (hF.out _).mono ?_; rintro e w1 ⟨rfl, hg⟩; have hz1 := hg.row hz0; have hz2 := row_old (o' := .cells (planC (fitP 8)) 23) hz1)
    | (refine wpList_store_new 23 _ _ rfl rfl _ (planC (fitP 8)) _ _ rfl rfl (by kernel_rfl) rfl (by kernel_rfl) ?_)
    | (refine wpList_store_row rfl 23 _ _ rfl w.heap.size (planC (fitP 8)) rfl rfl 23 _ hz2 (by kernel_rfl) rfl (by kernel_rfl) ?_)
    | (refine wpList_isload 23 _ rfl ?_; refine wpList_load_rowg 23 _ rfl rfl _ rfl _ _ _ _ (by first | exact row_new _ _ | exact row_old (row_new _ _) | exact row_old (row_old (row_new _ _)) | exact row_old (row_old (row_old (row_new _ _))) | assumption) Try.underlying23 rfl (by kernel_rfl) ?_))
  refine bodyPost_ret (v := planV (fitP 8)) ?_ rfl ⟨rfl, ?_⟩
  · exact results_cell_row (p := 0) (ty := 23) rfl _ _ w.heap.size _ (planC (fitP 8)) _ _ rfl (setRow_heap _ _ _ _ _ _ hz2) Try.underlying23 rfl (by kernel_rfl)
  · exact ((((Grow.refl _).alloc _).trans hg).alloc _).setRow (by omega) _
set_option maxRecDepth 100000 in
set_option maxHeartbeats 1000000 in
theorem alive29_any (w : World) :
    Calls Try.prog 13 #[] w fun e w' => e = .returned (.bool true) ∧ Grow w w' := by
  have hS := Lib.hid some29_any
  have hok := fit_ok 8 (by omega) (by omega)
  have hG := Bgoe (fitP 8) 200000 hok (by omega) (by omega)
  have hR := Brea (fitP 8) 100001 hok (by omega) (by omega) (by omega)
  have e1 : goL (fitP 8).rho 200000 = 199997 := by decide
  have e2 : goM (fitP 8).rho 200000 = 200003 := by decide
  have e3 : reL (fitP 8).rho 100001 = 99999 := by decide
  have e4 : reM (fitP 8).rho 100001 = 100004 := by decide
  rw [e1, e2] at hG
  rw [e3, e4] at hR
  have HG := Lib.hid hG
  have HR := Lib.hid hR
  clear hG hR hok e1 e2 e3 e4
  go_enter Try.func13, Try.ntmps13
  go_wp2_with (first
    | (go_at_call 41; refine (hS.out _).mono ?_; rintro e w1 ⟨rfl, hg⟩)
    | (go_at_call 40; refine (HG.out _).mono ?_; rintro e w2 ⟨rfl, hg2⟩; have hk := Lib.hid (hg.trans hg2); clear hg hg2)
    | (go_at_call 42; refine (HR.out _).mono ?_; rintro e w3 ⟨rfl, hg3⟩))
  go_ret
  exact ⟨rfl, (hk.out.trans hg).trans hg3⟩
end Go.Proofs.Ytelmgipnlflmaaa
