/-
  Package startup: Time, each way. Conditions: those that stand ahead of each.
-/
import Derived.Test.YtelmgipnlflmaaaStartup2
namespace Go.Proofs.Ytelmgipnlflmaaa
open Go.RowKit

def St.zero : St := ⟨0, 0, 0, 0, false, 0⟩
theorem st_zero_row (w : World) (p : Plan) (s : St) : (((w.alloc (.cells (planC p) 23)).alloc (.cells (stC s) 25)).alloc (.cells #[.int .i64 0, .int .i64 0, .int .i64 0, .int .i64 0, .bool false, .int .i64 0] 25)).heap[w.heap.size + 2]? = some (.cells #[.int .i64 0, .int .i64 0, .int .i64 0, .int .i64 0, .bool false, .int .i64 0] 25) := by
  have := row_new ((w.alloc (.cells (planC p) 23)).alloc (.cells (stC s) 25)) (.cells #[.int .i64 0, .int .i64 0, .int .i64 0, .int .i64 0, .bool false, .int .i64 0] 25)
  simpa using this
set_option maxRecDepth 100000 in
set_option maxHeartbeats 1000000 in
theorem Time_bad (p : Plan) (s : St) (now : Int) (h : ¬ s.Ok p) (w : World) :
    Calls Try.prog 10 #[planV p, stV s, .int .i64 now] w fun e w' => e = .returned (.tuple #[stV St.zero, .int .i64 0, .int .i64 210]) ∧ Grow w w' := by
  have hC := Lib.hid (due_bad p s h)
  clear h
  have hs0 := row_old (o' := .cells #[.int .i64 0, .int .i64 0, .int .i64 0, .int .i64 0, .bool false, .int .i64 0] 25) (st_row w p s)
  have hz0 := st_zero_row w p s
  go_enter Try.func10, Try.ntmps10
  go_wp2_with (first
    | (go_at_call 9; refine (hC.out _).mono ?_; rintro e w1 ⟨rfl, hg⟩; have hs1 := hg.row hs0; have hz1 := hg.row hz0; have k0 : w1.cell? ⟨w.heap.size + 1, 0, none⟩ = some (.int .i64 s.own) := cell_of_row w1 _ 0 _ _ _ hs1; have k2 : w1.cell? ⟨w.heap.size + 1, 2, none⟩ = some (.int .i64 s.since) := cell_of_row w1 _ 2 _ _ _ hs1; have k5 : w1.cell? ⟨w.heap.size + 1, 5, none⟩ = some (.int .i64 s.tries) := cell_of_row w1 _ 5 _ _ _ hs1)
    | (refine wpList_store_row rfl 25 _ _ rfl (w.heap.size + 2) (stC St.zero) rfl rfl 25 _ hz1 (by kernel_rfl) rfl (by kernel_rfl) ?_)
    | (refine wpList_isload 23 _ rfl ?_; refine wpList_load_rowg 23 _ rfl rfl _ rfl _ _ _ _ (by first | exact row_new _ _ | exact row_old (row_new _ _) | exact row_old (row_old (row_new _ _)) | exact row_old (row_old (row_old (row_new _ _))) | assumption) Try.underlying23 rfl (by kernel_rfl) ?_)
    | (refine wpList_isload 25 _ rfl ?_; refine wpList_load_rowg 25 _ rfl rfl _ rfl _ _ _ _ (by first | exact row_new _ _ | exact row_old (row_new _ _) | exact row_old (row_old (row_new _ _)) | exact row_old (row_old (row_old (row_new _ _))) | assumption) Try.underlying25 rfl (by kernel_rfl) ?_))
  have hres := results_cell_tmp2 (P := Try.prog) (fn := Try.f10) (p := 6) (q := 7) (q2 := 8) (ty := 25) rfl
  refine bodyPost_ret (v := .tuple #[stV St.zero, .int .i64 0, .int .i64 210]) ?_ rfl ⟨rfl, ?_⟩
  · exact hres _ _ (w.heap.size + 2) _ (stC St.zero) _ _ rfl (setRow_heap _ _ _ _ _ _ hz1) Try.underlying25 rfl (by kernel_rfl)
  · exact (((((Grow.refl _).alloc _).alloc _).alloc _).trans hg).setRow (by omega) _
set_option maxRecDepth 100000 in
set_option maxHeartbeats 1000000 in
theorem Time_early (p : Plan) (s : St) (now : Int) (h : s.Ok p) (hn : now < s.since) (w : World) :
    Calls Try.prog 10 #[planV p, stV s, .int .i64 now] w fun e w' => e = .returned (.tuple #[stV St.zero, .int .i64 0, .int .i64 210]) ∧ Grow w w' := by
  have hC := Lib.hid (due_ok p s h)
  obtain ⟨b1, b2⟩ := timeB_iff.1 h.fine.since
  obtain ⟨b3, b4⟩ := wait_bd h.fine
  clear h
  have hs0 := row_old (o' := .cells #[.int .i64 0, .int .i64 0, .int .i64 0, .int .i64 0, .bool false, .int .i64 0] 25) (st_row w p s)
  have hz0 := st_zero_row w p s
  go_enter Try.func10, Try.ntmps10
  go_wp2_with (first
    | (go_at_call 9; refine (hC.out _).mono ?_; rintro e w1 ⟨rfl, hg⟩; have hs1 := hg.row hs0; have hz1 := hg.row hz0; have k0 : w1.cell? ⟨w.heap.size + 1, 0, none⟩ = some (.int .i64 s.own) := cell_of_row w1 _ 0 _ _ _ hs1; have k2 : w1.cell? ⟨w.heap.size + 1, 2, none⟩ = some (.int .i64 s.since) := cell_of_row w1 _ 2 _ _ _ hs1; have k5 : w1.cell? ⟨w.heap.size + 1, 5, none⟩ = some (.int .i64 s.tries) := cell_of_row w1 _ 5 _ _ _ hs1)
    | (refine wpList_store_row rfl 25 _ _ rfl (w.heap.size + 2) (stC St.zero) rfl rfl 25 _ hz1 (by kernel_rfl) rfl (by kernel_rfl) ?_)
    | (refine wpList_isload 23 _ rfl ?_; refine wpList_load_rowg 23 _ rfl rfl _ rfl _ _ _ _ (by first | exact row_new _ _ | exact row_old (row_new _ _) | exact row_old (row_old (row_new _ _)) | exact row_old (row_old (row_old (row_new _ _))) | assumption) Try.underlying23 rfl (by kernel_rfl) ?_)
    | (refine wpList_isload 25 _ rfl ?_; refine wpList_load_rowg 25 _ rfl rfl _ rfl _ _ _ _ (by first | exact row_new _ _ | exact row_old (row_new _ _) | exact row_old (row_old (row_new _ _)) | exact row_old (row_old (row_old (row_new _ _))) | assumption) Try.underlying25 rfl (by kernel_rfl) ?_))
  have hres := results_cell_tmp2 (P := Try.prog) (fn := Try.f10) (p := 6) (q := 7) (q2 := 8) (ty := 25) rfl
  refine bodyPost_ret (v := .tuple #[stV St.zero, .int .i64 0, .int .i64 210]) ?_ rfl ⟨rfl, ?_⟩
  · exact hres _ _ (w.heap.size + 2) _ (stC St.zero) _ _ rfl (setRow_heap _ _ _ _ _ _ hz1) Try.underlying25 rfl (by kernel_rfl)
  · exact (((((Grow.refl _).alloc _).alloc _).alloc _).trans hg).setRow (by omega) _
set_option maxRecDepth 100000 in
set_option maxHeartbeats 1000000 in
theorem Time_late (p : Plan) (s : St) (now : Int) (h : s.Ok p) (hn : s.since ≤ now) (hm : 4294967296 < now) (w : World) :
    Calls Try.prog 10 #[planV p, stV s, .int .i64 now] w fun e w' => e = .returned (.tuple #[stV St.zero, .int .i64 0, .int .i64 210]) ∧ Grow w w' := by
  have hC := Lib.hid (due_ok p s h)
  obtain ⟨b1, b2⟩ := timeB_iff.1 h.fine.since
  obtain ⟨b3, b4⟩ := wait_bd h.fine
  clear h
  have hs0 := row_old (o' := .cells #[.int .i64 0, .int .i64 0, .int .i64 0, .int .i64 0, .bool false, .int .i64 0] 25) (st_row w p s)
  have hz0 := st_zero_row w p s
  go_enter Try.func10, Try.ntmps10
  go_wp2_with (first
    | (go_at_call 9; refine (hC.out _).mono ?_; rintro e w1 ⟨rfl, hg⟩; have hs1 := hg.row hs0; have hz1 := hg.row hz0; have k0 : w1.cell? ⟨w.heap.size + 1, 0, none⟩ = some (.int .i64 s.own) := cell_of_row w1 _ 0 _ _ _ hs1; have k2 : w1.cell? ⟨w.heap.size + 1, 2, none⟩ = some (.int .i64 s.since) := cell_of_row w1 _ 2 _ _ _ hs1; have k5 : w1.cell? ⟨w.heap.size + 1, 5, none⟩ = some (.int .i64 s.tries) := cell_of_row w1 _ 5 _ _ _ hs1)
    | (refine wpList_store_row rfl 25 _ _ rfl (w.heap.size + 2) (stC St.zero) rfl rfl 25 _ hz1 (by kernel_rfl) rfl (by kernel_rfl) ?_)
    | (refine wpList_isload 23 _ rfl ?_; refine wpList_load_rowg 23 _ rfl rfl _ rfl _ _ _ _ (by first | exact row_new _ _ | exact row_old (row_new _ _) | exact row_old (row_old (row_new _ _)) | exact row_old (row_old (row_old (row_new _ _))) | assumption) Try.underlying23 rfl (by kernel_rfl) ?_)
    | (refine wpList_isload 25 _ rfl ?_; refine wpList_load_rowg 25 _ rfl rfl _ rfl _ _ _ _ (by first | exact row_new _ _ | exact row_old (row_new _ _) | exact row_old (row_old (row_new _ _)) | exact row_old (row_old (row_old (row_new _ _))) | assumption) Try.underlying25 rfl (by kernel_rfl) ?_))
  have hres := results_cell_tmp2 (P := Try.prog) (fn := Try.f10) (p := 6) (q := 7) (q2 := 8) (ty := 25) rfl
  refine bodyPost_ret (v := .tuple #[stV St.zero, .int .i64 0, .int .i64 210]) ?_ rfl ⟨rfl, ?_⟩
  · exact hres _ _ (w.heap.size + 2) _ (stC St.zero) _ _ rfl (setRow_heap _ _ _ _ _ _ hz1) Try.underlying25 rfl (by kernel_rfl)
  · exact (((((Grow.refl _).alloc _).alloc _).alloc _).trans hg).setRow (by omega) _
set_option maxRecDepth 100000 in
set_option maxHeartbeats 1000000 in
theorem Time_wait (p : Plan) (s : St) (now : Int) (h : s.Ok p) (hn : s.since ≤ now) (hm : now ≤ 4294967296) (hd : now < s.since + s.wait p) (w : World) :
    Calls Try.prog 10 #[planV p, stV s, .int .i64 now] w fun e w' => e = .returned (.tuple #[stV s, .int .i64 0, .int .i64 0]) ∧ Grow w w' := by
  have hC := Lib.hid (due_ok p s h)
  obtain ⟨b1, b2⟩ := timeB_iff.1 h.fine.since
  obtain ⟨b3, b4⟩ := wait_bd h.fine
  clear h
  have hs0 := row_old (o' := .cells #[.int .i64 0, .int .i64 0, .int .i64 0, .int .i64 0, .bool false, .int .i64 0] 25) (st_row w p s)
  have hz0 := st_zero_row w p s
  go_enter Try.func10, Try.ntmps10
  go_wp2_with (first
    | (go_at_call 9; refine (hC.out _).mono ?_; rintro e w1 ⟨rfl, hg⟩; have hs1 := hg.row hs0; have hz1 := hg.row hz0; have k0 : w1.cell? ⟨w.heap.size + 1, 0, none⟩ = some (.int .i64 s.own) := cell_of_row w1 _ 0 _ _ _ hs1; have k2 : w1.cell? ⟨w.heap.size + 1, 2, none⟩ = some (.int .i64 s.since) := cell_of_row w1 _ 2 _ _ _ hs1; have k5 : w1.cell? ⟨w.heap.size + 1, 5, none⟩ = some (.int .i64 s.tries) := cell_of_row w1 _ 5 _ _ _ hs1)
    | (refine wpList_store_row rfl 25 _ _ rfl (w.heap.size + 2) (stC s) rfl rfl 25 _ hz1 (by kernel_rfl) rfl (by kernel_rfl) ?_)
    | (refine wpList_isload 23 _ rfl ?_; refine wpList_load_rowg 23 _ rfl rfl _ rfl _ _ _ _ (by first | exact row_new _ _ | exact row_old (row_new _ _) | exact row_old (row_old (row_new _ _)) | exact row_old (row_old (row_old (row_new _ _))) | assumption) Try.underlying23 rfl (by kernel_rfl) ?_)
    | (refine wpList_isload 25 _ rfl ?_; refine wpList_load_rowg 25 _ rfl rfl _ rfl _ _ _ _ (by first | exact row_new _ _ | exact row_old (row_new _ _) | exact row_old (row_old (row_new _ _)) | exact row_old (row_old (row_old (row_new _ _))) | assumption) Try.underlying25 rfl (by kernel_rfl) ?_))
  have hres := results_cell_tmp2 (P := Try.prog) (fn := Try.f10) (p := 6) (q := 7) (q2 := 8) (ty := 25) rfl
  refine bodyPost_ret (v := .tuple #[stV s, .int .i64 0, .int .i64 0]) ?_ rfl ⟨rfl, ?_⟩
  · exact hres _ _ (w.heap.size + 2) _ (stC s) _ _ rfl (setRow_heap _ _ _ _ _ _ hz1) Try.underlying25 rfl (by kernel_rfl)
  · exact (((((Grow.refl _).alloc _).alloc _).alloc _).trans hg).setRow (by omega) _
set_option maxRecDepth 100000 in
set_option maxHeartbeats 1000000 in
theorem Time_back (p : Plan) (s : St) (now : Int) (h : s.Ok p) (hn : s.since ≤ now) (hm : now ≤ 4294967296) (hd : s.since + s.wait p ≤ now) (ht : (s.tries == 3) = true) (w : World) :
    Calls Try.prog 10 #[planV p, stV s, .int .i64 now] w fun e w' => e = .returned (.tuple #[stV (s.lis now), .int .i64 5, .int .i64 0]) ∧ Grow w w' := by
  have hC := Lib.hid (due_ok p s h)
  obtain ⟨b1, b2⟩ := timeB_iff.1 h.fine.since
  obtain ⟨b3, b4⟩ := wait_bd h.fine
  clear h
  have hs0 := row_old (o' := .cells #[.int .i64 0, .int .i64 0, .int .i64 0, .int .i64 0, .bool false, .int .i64 0] 25) (st_row w p s)
  have hz0 := st_zero_row w p s
  go_enter Try.func10, Try.ntmps10
  go_wp2_with (first
    | (go_at_call 9; refine (hC.out _).mono ?_; rintro e w1 ⟨rfl, hg⟩; have hs1 := hg.row hs0; have hz1 := hg.row hz0; have k0 : w1.cell? ⟨w.heap.size + 1, 0, none⟩ = some (.int .i64 s.own) := cell_of_row w1 _ 0 _ _ _ hs1; have k2 : w1.cell? ⟨w.heap.size + 1, 2, none⟩ = some (.int .i64 s.since) := cell_of_row w1 _ 2 _ _ _ hs1; have k5 : w1.cell? ⟨w.heap.size + 1, 5, none⟩ = some (.int .i64 s.tries) := cell_of_row w1 _ 5 _ _ _ hs1)
    | (go_at_call 37; refine (listen_no s now _).mono ?_; rintro e w2 ⟨rfl, hg2⟩; have hz2 := hg2.row hz1)
    | (refine wpList_store_row rfl 25 _ _ rfl (w.heap.size + 2) (stC (s.lis now)) rfl rfl 25 _ hz2 (by kernel_rfl) rfl (by kernel_rfl) ?_)
    | (refine wpList_isload 23 _ rfl ?_; refine wpList_load_rowg 23 _ rfl rfl _ rfl _ _ _ _ (by first | exact row_new _ _ | exact row_old (row_new _ _) | exact row_old (row_old (row_new _ _)) | exact row_old (row_old (row_old (row_new _ _))) | assumption) Try.underlying23 rfl (by kernel_rfl) ?_)
    | (refine wpList_isload 25 _ rfl ?_; refine wpList_load_rowg 25 _ rfl rfl _ rfl _ _ _ _ (by first | exact row_new _ _ | exact row_old (row_new _ _) | exact row_old (row_old (row_new _ _)) | exact row_old (row_old (row_old (row_new _ _))) | assumption) Try.underlying25 rfl (by kernel_rfl) ?_))
  have hres := results_cell_tmp2 (P := Try.prog) (fn := Try.f10) (p := 6) (q := 7) (q2 := 8) (ty := 25) rfl
  refine bodyPost_ret (v := .tuple #[stV (s.lis now), .int .i64 5, .int .i64 0]) ?_ rfl ⟨rfl, ?_⟩
  · exact hres _ _ (w.heap.size + 2) _ (stC (s.lis now)) _ _ rfl (setRow_heap _ _ _ _ _ _ hz2) Try.underlying25 rfl (by kernel_rfl)
  · exact (((((Grow.refl _).alloc _).alloc _).alloc _).trans (hg.trans hg2)).setRow (by omega) _
set_option maxRecDepth 100000 in
set_option maxHeartbeats 1000000 in
theorem Time_send (p : Plan) (s : St) (now : Int) (h : s.Ok p) (hn : s.since ≤ now) (hm : now ≤ 4294967296) (hd : s.since + s.wait p ≤ now) (ht : (s.tries == 3) = false) (hu : 0 ≤ s.tries) (hv : s.tries ≤ 3) (w : World) :
    Calls Try.prog 10 #[planV p, stV s, .int .i64 now] w fun e w' => e = .returned (.tuple #[stV ⟨s.own, 3, now, 0, false, s.tries + 1⟩, .int .i64 1, .int .i64 0]) ∧ Grow w w' := by
  have hC := Lib.hid (due_ok p s h)
  obtain ⟨b1, b2⟩ := timeB_iff.1 h.fine.since
  obtain ⟨b3, b4⟩ := wait_bd h.fine
  clear h
  have hs0 := row_old (o' := .cells #[.int .i64 0, .int .i64 0, .int .i64 0, .int .i64 0, .bool false, .int .i64 0] 25) (st_row w p s)
  have hz0 := st_zero_row w p s
  go_enter Try.func10, Try.ntmps10
  go_wp2_with (first
    | (go_at_call 9; refine (hC.out _).mono ?_; rintro e w1 ⟨rfl, hg⟩; have hs1 := hg.row hs0; have hz1 := hg.row hz0; have k0 : w1.cell? ⟨w.heap.size + 1, 0, none⟩ = some (.int .i64 s.own) := cell_of_row w1 _ 0 _ _ _ hs1; have k2 : w1.cell? ⟨w.heap.size + 1, 2, none⟩ = some (.int .i64 s.since) := cell_of_row w1 _ 2 _ _ _ hs1; have k5 : w1.cell? ⟨w.heap.size + 1, 5, none⟩ = some (.int .i64 s.tries) := cell_of_row w1 _ 5 _ _ _ hs1)
    | (refine wpList_store_row rfl 25 _ _ rfl (w.heap.size + 2) (stC ⟨s.own, 3, now, 0, false, s.tries + 1⟩) rfl rfl 25 _ hz1 (by kernel_rfl) rfl (by kernel_rfl) ?_)
    | (refine wpList_isload 23 _ rfl ?_; refine wpList_load_rowg 23 _ rfl rfl _ rfl _ _ _ _ (by first | exact row_new _ _ | exact row_old (row_new _ _) | exact row_old (row_old (row_new _ _)) | exact row_old (row_old (row_old (row_new _ _))) | assumption) Try.underlying23 rfl (by kernel_rfl) ?_)
    | (refine wpList_isload 25 _ rfl ?_; refine wpList_load_rowg 25 _ rfl rfl _ rfl _ _ _ _ (by first | exact row_new _ _ | exact row_old (row_new _ _) | exact row_old (row_old (row_new _ _)) | exact row_old (row_old (row_old (row_new _ _))) | assumption) Try.underlying25 rfl (by kernel_rfl) ?_))
  have hres := results_cell_tmp2 (P := Try.prog) (fn := Try.f10) (p := 6) (q := 7) (q2 := 8) (ty := 25) rfl
  refine bodyPost_ret (v := .tuple #[stV ⟨s.own, 3, now, 0, false, s.tries + 1⟩, .int .i64 1, .int .i64 0]) ?_ rfl ⟨rfl, ?_⟩
  · exact hres _ _ (w.heap.size + 2) _ (stC ⟨s.own, 3, now, 0, false, s.tries + 1⟩) _ _ rfl (setRow_heap _ _ _ _ _ _ hz1) Try.underlying25 rfl (by kernel_rfl)
  · exact (((((Grow.refl _).alloc _).alloc _).alloc _).trans hg).setRow (by omega) _
end Go.Proofs.Ytelmgipnlflmaaa
