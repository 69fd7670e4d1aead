/-
  Package table: Begin and Expected. Conditions: those that stand ahead of each.
-/
import Derived.Test.YtelmgipnlflmaaaTable2
import Derived.Test.YtelmgipnlflmaaaStore2
namespace Go.Proofs.Ytelmgipnlflmaaa
open Go.RowKit

theorem built_spot (p : Plan) (r s : Int) : Try.prog.built 93 [(0, planV p), (1, placeV r s)] = some (spotC p r s) := by kernel_rfl
theorem spot_row (w : World) (p : Plan) (r s : Int) : (((w.alloc (.cells (planC p) 23)).alloc (.cells #[.int .i64 r, .int .i64 s] 52)).alloc (.cells (spotC p r s) 93)).heap[w.heap.size + 1 + 1]? = some (.cells (spotC p r s) 93) := by
  have := row_new ((w.alloc (.cells (planC p) 23)).alloc (.cells #[.int .i64 r, .int .i64 s] 52)) (.cells (spotC p r s) 93)
  simpa using this
set_option maxRecDepth 100000 in
set_option maxHeartbeats 1000000 in
theorem Begin_yes (p : Plan) (r s : Int) (h : p.has r s) (w : World) :
    Calls Try.prog 56 #[planV p, placeV r s] w fun e w' => e = .returned (.tuple #[.int .i64 (p.beg r s), .int .i64 0]) ∧ Grow w w' := by
  have hA := Lib.hid (answer_begin p r s h)
  clear h
  have hsp := spot_row w p r s
  go_enter Try.func56, Try.ntmps56
  go_wp2_with (first
    | (go_at_call 52; refine (hA.out _).mono ?_; rintro e w1 ⟨rfl, hg⟩)
    | (refine wpList_build2 rfl 93 _ _ rfl (planV p) (placeV r s) rfl rfl (spotC p r s) (built_spot p r s) ?_)
    | (refine wpList_store_at 93 _ _ rfl rfl _ (spotC p r s) _ _ _ rfl rfl (by kernel_rfl) rfl (by kernel_rfl) (by simp) ?_)
    | (refine wpList_isload 23 _ rfl ?_; refine wpList_load_rowg 23 _ rfl rfl _ rfl _ _ _ _ (by first | exact row_new _ _ | exact row_old (row_new _ _) | exact row_old (row_old (row_new _ _)) | exact row_old (row_old (row_old (row_new _ _))) | assumption) Try.underlying23 rfl (by kernel_rfl) ?_) | (refine wpList_isload 93 _ rfl ?_; refine wpList_load_rowg 93 _ rfl rfl _ rfl _ _ _ _ (by first | exact row_new _ _ | exact row_old (row_new _ _) | exact row_old (row_old (row_new _ _)) | exact row_old (row_old (row_old (row_new _ _))) | assumption) Try.underlying93 rfl (by kernel_rfl) ?_))
  go_ret2
  exact ⟨rfl, ((((Grow.refl _).alloc _).alloc _).alloc _).trans hg⟩
set_option maxRecDepth 100000 in
set_option maxHeartbeats 1000000 in
theorem Begin_no (p : Plan) (r s : Int) (h : ¬ p.has r s) (w : World) :
    Calls Try.prog 56 #[planV p, placeV r s] w fun e w' => e = .returned (.tuple #[.int .i64 0, .int .i64 90]) ∧ Grow w w' := by
  have hA := Lib.hid (answer_begin_no p r s h)
  clear h
  have hsp := spot_row w p r s
  go_enter Try.func56, Try.ntmps56
  go_wp2_with (first
    | (go_at_call 52; refine (hA.out _).mono ?_; rintro e w1 ⟨rfl, hg⟩)
    | (refine wpList_build2 rfl 93 _ _ rfl (planV p) (placeV r s) rfl rfl (spotC p r s) (built_spot p r s) ?_)
    | (refine wpList_store_at 93 _ _ rfl rfl _ (spotC p r s) _ _ _ rfl rfl (by kernel_rfl) rfl (by kernel_rfl) (by simp) ?_)
    | (refine wpList_isload 23 _ rfl ?_; refine wpList_load_rowg 23 _ rfl rfl _ rfl _ _ _ _ (by first | exact row_new _ _ | exact row_old (row_new _ _) | exact row_old (row_old (row_new _ _)) | exact row_old (row_old (row_old (row_new _ _))) | assumption) Try.underlying23 rfl (by kernel_rfl) ?_) | (refine wpList_isload 93 _ rfl ?_; refine wpList_load_rowg 93 _ rfl rfl _ rfl _ _ _ _ (by first | exact row_new _ _ | exact row_old (row_new _ _) | exact row_old (row_old (row_new _ _)) | exact row_old (row_old (row_old (row_new _ _))) | assumption) Try.underlying93 rfl (by kernel_rfl) ?_))
  go_ret2
  exact ⟨rfl, ((((Grow.refl _).alloc _).alloc _).alloc _).trans hg⟩
set_option maxRecDepth 100000 in
set_option maxHeartbeats 1000000 in
theorem Expected_yes (p : Plan) (r s : Int) (h : p.has r s) (w : World) :
    Calls Try.prog 21 #[planV p, placeV r s] w fun e w' => e = .returned (.tuple #[.int .i64 (p.exp r s), .int .i64 (p.exp r s - p.window), .int .i64 (p.exp r s + p.window), .int .i64 0]) ∧ Grow w w' := by
  have hA := Lib.hid (answer_expected p r s h)
  obtain ⟨b1, b2⟩ := exp_bd h
  obtain ⟨b3, b4⟩ := window_bd h.1.known h.1.c4 h.1.c5
  have w1 := iw (p.exp r s - p.window) (by omega) (by omega)
  have w2 := iw (p.exp r s + p.window) (by omega) (by omega)
  clear h b1 b2 b3 b4
  have hr0 := row_old (o' := .cells (spotC p r s) 93) (row_old (o' := .cells #[.int .i64 r, .int .i64 s] 52) (row_new w (.cells (planC p) 23)))
  have hsp := spot_row w p r s
  go_enter Try.func21, Try.ntmps21
  go_wp2_with (first
    | (go_at_call 52; refine (hA.out _).mono ?_; rintro e w1 ⟨rfl, hg⟩; have k4 : w1.cell? ⟨w.heap.size, 4, none⟩ = some (.int .i64 p.window) := cell_of_row w1 _ 4 _ _ _ (hg.row hr0); have hz : w.heap.size < w1.heap.size := (Array.getElem?_eq_some_iff.1 (hg.row hr0)).1)
    | (refine wpList_build2 rfl 93 _ _ rfl (planV p) (placeV r s) rfl rfl (spotC p r s) (built_spot p r s) ?_)
    | (refine wpList_store_at 93 _ _ rfl rfl _ (spotC p r s) _ _ _ rfl rfl (by kernel_rfl) rfl (by kernel_rfl) (by simp) ?_)
    | (refine wpList_isload 23 _ rfl ?_; refine wpList_load_rowg 23 _ rfl rfl _ rfl _ _ _ _ (by first | exact row_new _ _ | exact row_old (row_new _ _) | exact row_old (row_old (row_new _ _)) | exact row_old (row_old (row_old (row_new _ _))) | assumption) Try.underlying23 rfl (by kernel_rfl) ?_) | (refine wpList_isload 93 _ rfl ?_; refine wpList_load_rowg 93 _ rfl rfl _ rfl _ _ _ _ (by first | exact row_new _ _ | exact row_old (row_new _ _) | exact row_old (row_old (row_new _ _)) | exact row_old (row_old (row_old (row_new _ _))) | assumption) Try.underlying93 rfl (by kernel_rfl) ?_))
  go_quiet (fail)
  go_wp2
  refine bodyPost_ret (v := .tuple #[.int .i64 (p.exp r s), .int .i64 (p.exp r s - p.window), .int .i64 (p.exp r s + p.window), .int .i64 0]) (by simp [results, Try.results21, go_sem]) rfl ⟨rfl, ?_⟩
  exact ((((Grow.refl _).alloc _).alloc _).alloc _).trans (hg.trans (show Grow w1 (w1.drewN _) from ⟨rfl, rfl, rfl, Nat.le_refl _, fun _ _ => rfl⟩))
set_option maxRecDepth 100000 in
set_option maxHeartbeats 1000000 in
theorem Expected_no (p : Plan) (r s : Int) (h : ¬ p.has r s) (w : World) :
    Calls Try.prog 21 #[planV p, placeV r s] w fun e w' => e = .returned (.tuple #[.int .i64 0, .int .i64 0, .int .i64 0, .int .i64 90]) ∧ Grow w w' := by
  have hA := Lib.hid (answer_expected_no p r s h)
  clear h
  have hsp := spot_row w p r s
  go_enter Try.func21, Try.ntmps21
  go_wp2_with (first
    | (go_at_call 52; refine (hA.out _).mono ?_; rintro e w1 ⟨rfl, hg⟩)
    | (refine wpList_build2 rfl 93 _ _ rfl (planV p) (placeV r s) rfl rfl (spotC p r s) (built_spot p r s) ?_)
    | (refine wpList_store_at 93 _ _ rfl rfl _ (spotC p r s) _ _ _ rfl rfl (by kernel_rfl) rfl (by kernel_rfl) (by simp) ?_)
    | (refine wpList_isload 23 _ rfl ?_; refine wpList_load_rowg 23 _ rfl rfl _ rfl _ _ _ _ (by first | exact row_new _ _ | exact row_old (row_new _ _) | exact row_old (row_old (row_new _ _)) | exact row_old (row_old (row_old (row_new _ _))) | assumption) Try.underlying23 rfl (by kernel_rfl) ?_) | (refine wpList_isload 93 _ rfl ?_; refine wpList_load_rowg 93 _ rfl rfl _ rfl _ _ _ _ (by first | exact row_new _ _ | exact row_old (row_new _ _) | exact row_old (row_old (row_new _ _)) | exact row_old (row_old (row_old (row_new _ _))) | assumption) Try.underlying93 rfl (by kernel_rfl) ?_))
  refine bodyPost_ret (v := .tuple #[.int .i64 0, .int .i64 0, .int .i64 0, .int .i64 90]) (by simp [results, Try.results21, go_sem]) rfl ⟨rfl, ?_⟩
  exact ((((Grow.refl _).alloc _).alloc _).alloc _).trans hg
end Go.Proofs.Ytelmgipnlflmaaa
