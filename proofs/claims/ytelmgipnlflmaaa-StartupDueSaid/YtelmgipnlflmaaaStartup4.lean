/-
  The document's starter check where a starter may be; the chapter's plan; Listen at the chapter's example. Conditions: those that stand ahead of each.
-/
import Derived.Test.YtelmgipnlflmaaaStartup3
import Derived.Test.YtelmgipnlflmaaaRef07
import Derived.Test.YtelmgipnlflmaaaFit3
import Derived.Test.YtelmgipnlflmaaaStore
namespace Go.Proofs.Ytelmgipnlflmaaa
open Go.RowKit

set_option maxHeartbeats 1000000 in
theorem rcheck_ok (p : Plan) (h : p.Ok) (w : World) :
    Calls Try.prog 39 #[planV p] w fun e w' => e = .returned (.int .i64 0) ∧ Grow w w' := by
  have hF := Lib.hid (rfails_ok p h)
  clear h
  go_enter Try.func39, Try.ntmps39
  go_wp2_with (first
    | (go_at_call 65; refine (hF.out _).mono ?_; rintro e w1 ⟨rfl, hg⟩)
    | (refine wpList_isload 23 _ rfl ?_; refine wpList_load_rowg 23 _ rfl rfl _ rfl _ _ _ _ (by first | exact row_new _ _ | exact row_old (row_new _ _) | exact row_old (row_old (row_new _ _)) | exact row_old (row_old (row_old (row_new _ _))) | assumption) Try.underlying23 rfl (by kernel_rfl) ?_))
  go_ret
  exact ⟨rfl, ((Grow.refl _).alloc _).trans hg⟩

set_option maxHeartbeats 1000000 in
theorem rscheck2 (p : Plan) (s : St) (h : s.Fine p) (h1 : (s.state == 2) = true) (h2 : (s.tries == 0) = true) (h3 : s.has = false) (w : World) :
    Calls Try.prog 12 #[planV p, stV s] w fun e w' => e = .returned (.int .i64 0) ∧ Grow w w' := by
  have hC := Lib.hid (rcheck_ok p h.ok)
  obtain ⟨hok, o1, o2, o3, o4, o5⟩ := h
  obtain ⟨t1, t2⟩ := timeB_iff.1 o3
  obtain ⟨t3, t4⟩ := timeB_iff.1 o4
  have o6 : s.first ≤ 0 := by
    rcases o5 with o5 | o5
    · rw [h3] at o5; cases o5
    · omega
  clear hok o3 o4 o5
  have hr0 := row_old (o' := .cells (stC s) 25) (row_new w (.cells (planC p) 23))
  have hs0 := st_row w p s
  go_enter Try.func12, Try.ntmps12
  go_wp2_with (first
    | (go_at_call 39; refine (hC.out _).mono ?_; rintro e w1 ⟨rfl, hg⟩; have hn : w1.cell? ⟨w.heap.size, 0, none⟩ = some (.int .i64 p.nodes) := cell_of_row w1 _ 0 _ _ _ (hg.row hr0); have hs := hg.row hs0; have k0 : w1.cell? ⟨w.heap.size + 1, 0, none⟩ = some (.int .i64 s.own) := cell_of_row w1 _ 0 _ _ _ hs; have k1 : w1.cell? ⟨w.heap.size + 1, 1, none⟩ = some (.int .i64 s.state) := cell_of_row w1 _ 1 _ _ _ hs; have k2 : w1.cell? ⟨w.heap.size + 1, 2, none⟩ = some (.int .i64 s.since) := cell_of_row w1 _ 2 _ _ _ hs; have k3 : w1.cell? ⟨w.heap.size + 1, 3, none⟩ = some (.int .i64 s.first) := cell_of_row w1 _ 3 _ _ _ hs; have k4 : w1.cell? ⟨w.heap.size + 1, 4, none⟩ = some (.bool s.has) := cell_of_row w1 _ 4 _ _ _ hs; have k5 : w1.cell? ⟨w.heap.size + 1, 5, none⟩ = some (.int .i64 s.tries) := cell_of_row w1 _ 5 _ _ _ hs)
    | (refine wpList_isload 23 _ rfl ?_; refine wpList_load_rowg 23 _ rfl rfl _ rfl _ _ _ _ (by first | exact row_new _ _ | exact row_old (row_new _ _) | exact row_old (row_old (row_new _ _)) | exact row_old (row_old (row_old (row_new _ _))) | assumption) Try.underlying23 rfl (by kernel_rfl) ?_))
  go_ret
  exact ⟨rfl, (((Grow.refl _).alloc _).alloc _).trans hg⟩
set_option maxHeartbeats 1000000 in
theorem rscheck3 (p : Plan) (s : St) (h : s.Fine p) (h0 : (s.state == 2) = false) (h1 : (s.state == 3) = true) (h2 : 0 < s.tries) (h2' : s.tries < 4) (h3 : s.has = false) (w : World) :
    Calls Try.prog 12 #[planV p, stV s] w fun e w' => e = .returned (.int .i64 0) ∧ Grow w w' := by
  have hC := Lib.hid (rcheck_ok p h.ok)
  obtain ⟨hok, o1, o2, o3, o4, o5⟩ := h
  obtain ⟨t1, t2⟩ := timeB_iff.1 o3
  obtain ⟨t3, t4⟩ := timeB_iff.1 o4
  have o6 : s.first ≤ 0 := by
    rcases o5 with o5 | o5
    · rw [h3] at o5; cases o5
    · omega
  clear hok o3 o4 o5
  have hr0 := row_old (o' := .cells (stC s) 25) (row_new w (.cells (planC p) 23))
  have hs0 := st_row w p s
  go_enter Try.func12, Try.ntmps12
  go_wp2_with (first
    | (go_at_call 39; refine (hC.out _).mono ?_; rintro e w1 ⟨rfl, hg⟩; have hn : w1.cell? ⟨w.heap.size, 0, none⟩ = some (.int .i64 p.nodes) := cell_of_row w1 _ 0 _ _ _ (hg.row hr0); have hs := hg.row hs0; have k0 : w1.cell? ⟨w.heap.size + 1, 0, none⟩ = some (.int .i64 s.own) := cell_of_row w1 _ 0 _ _ _ hs; have k1 : w1.cell? ⟨w.heap.size + 1, 1, none⟩ = some (.int .i64 s.state) := cell_of_row w1 _ 1 _ _ _ hs; have k2 : w1.cell? ⟨w.heap.size + 1, 2, none⟩ = some (.int .i64 s.since) := cell_of_row w1 _ 2 _ _ _ hs; have k3 : w1.cell? ⟨w.heap.size + 1, 3, none⟩ = some (.int .i64 s.first) := cell_of_row w1 _ 3 _ _ _ hs; have k4 : w1.cell? ⟨w.heap.size + 1, 4, none⟩ = some (.bool s.has) := cell_of_row w1 _ 4 _ _ _ hs; have k5 : w1.cell? ⟨w.heap.size + 1, 5, none⟩ = some (.int .i64 s.tries) := cell_of_row w1 _ 5 _ _ _ hs)
    | (refine wpList_isload 23 _ rfl ?_; refine wpList_load_rowg 23 _ rfl rfl _ rfl _ _ _ _ (by first | exact row_new _ _ | exact row_old (row_new _ _) | exact row_old (row_old (row_new _ _)) | exact row_old (row_old (row_old (row_new _ _))) | assumption) Try.underlying23 rfl (by kernel_rfl) ?_))
  go_ret
  exact ⟨rfl, (((Grow.refl _).alloc _).alloc _).trans hg⟩

theorem zero_row (w : World) (t : TypeId) (cs : Array Value) : (w.alloc (.cells cs t)).heap[w.heap.size]? = some (.cells cs t (0, 0)) := row_new w _
set_option maxRecDepth 100000 in
set_option maxHeartbeats 1000000 in
theorem some21_any (w : World) :
    Calls Try.prog 34 #[] w fun e w' => e = .returned (planV (fitP 4)) ∧ Grow w w' := by
  have hF := Lib.hid (Fit_any 4 (by omega) (by omega))
  have hz0 := zero_row w 23 #[.int .i64 0, .int .i64 0, .int .i64 0, .int .i64 0, .int .i64 0, .int .i64 0, .int .i64 0, .int .i64 0, .int .i64 0, .int .i64 0, .int .i64 0, .int .i64 0, .int .i64 0, .int .i64 0, .int .i64 0, .int .i64 0]
  go_enter Try.func34, Try.ntmps34
  go_wp2_with (first
    | (go_at_call 54; refine (hF.out _).mono ?_; rintro e w1 ⟨rfl, hg⟩; have hz1 := hg.row hz0; have hz2 := row_old (o' := .cells (planC (fitP 4)) 23) hz1)
    | (refine wpList_store_new 23 _ _ rfl rfl _ (planC (fitP 4)) _ _ rfl rfl (by kernel_rfl) rfl (by kernel_rfl) ?_)
    | (refine wpList_store_row rfl 23 _ _ rfl w.heap.size (planC (fitP 4)) rfl rfl 23 _ hz2 (by kernel_rfl) rfl (by kernel_rfl) ?_)
    | (refine wpList_isload 23 _ rfl ?_; refine wpList_load_rowg 23 _ rfl rfl _ rfl _ _ _ _ (by first | exact row_new _ _ | exact row_old (row_new _ _) | exact row_old (row_old (row_new _ _)) | exact row_old (row_old (row_old (row_new _ _))) | assumption) Try.underlying23 rfl (by kernel_rfl) ?_))
  refine bodyPost_ret (v := planV (fitP 4)) ?_ rfl ⟨rfl, ?_⟩
  · exact results_cell_row (p := 0) (ty := 23) rfl _ _ w.heap.size _ (planC (fitP 4)) _ _ rfl (setRow_heap _ _ _ _ _ _ hz2) Try.underlying23 rfl (by kernel_rfl)
  · exact ((((Grow.refl _).alloc _).trans hg).alloc _).setRow (by omega) _
end Go.Proofs.Ytelmgipnlflmaaa
