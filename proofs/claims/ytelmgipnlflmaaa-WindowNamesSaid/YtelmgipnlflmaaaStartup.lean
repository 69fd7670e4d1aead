/-
  Package startup: whether a starter may be. Conditions: none (each way is told).
-/
import Derived.Test.YtelmgipnlflmaaaTable
namespace Go.Proofs.Ytelmgipnlflmaaa
open Go.RowKit

structure St where
  (own state since first : Int) (has : Bool) (tries : Int)
def stC (s : St) : Array Value := #[.int .i64 s.own, .int .i64 s.state, .int .i64 s.since, .int .i64 s.first, .bool s.has, .int .i64 s.tries]
abbrev stV (s : St) : Value := .agg (stC s)
def timeB (t : Int) : Bool := decide (0 ≤ t) && decide (t ≤ 4294967296)
theorem timeB_iff {t : Int} : timeB t = true ↔ 0 ≤ t ∧ t ≤ 4294967296 := by simp [timeB]

set_option maxHeartbeats 400000 in
theorem time_any (t : Int) (w : World) :
    Calls Try.prog 38 #[.int .i64 t] w fun e w' => e = .returned (.bool (timeB t)) ∧ w = w' := by
  by_cases h : 0 ≤ t
  · go_enter Try.func38, Try.ntmps38
    go_wp2
    go_ret
    exact ⟨by simp [timeB, h], rfl⟩
  · go_enter Try.func38, Try.ntmps38
    go_wp2
    go_ret
    exact ⟨by simp [timeB]; omega, rfl⟩

/-- What a starter must be beside its state. -/
structure St.Fine (s : St) (p : Plan) : Prop where
  (ok : p.Ok) (own0 : 0 ≤ s.own) (own1 : s.own < p.nodes) (since : timeB s.since = true) (first : timeB s.first = true) (has : s.has = true ∨ s.first = 0)
/-- A starter that may be. -/
structure St.Ok (s : St) (p : Plan) : Prop where
  (fine : s.Fine p) (st : (s.state = 2 ∧ s.tries = 0) ∨ (s.state = 3 ∧ 1 ≤ s.tries ∧ s.tries ≤ 3 ∧ s.has = false))

theorem st_row (w : World) (p : Plan) (s : St) : ((w.alloc (.cells (planC p) 23)).alloc (.cells (stC s) 25)).heap[w.heap.size + 1]? = some (.cells (stC s) 25) := by
  have := row_new (w.alloc (.cells (planC p) 23)) (.cells (stC s) 25)
  simpa using this
set_option maxHeartbeats 1000000 in
theorem scheck_no (p : Plan) (s : St) (hok : ¬ p.Ok) (w : World) :
    Calls Try.prog 11 #[planV p, stV s] w fun e w' => e = .returned (.int .i64 210) ∧ Grow w w' := by
  have hC := Lib.hid (check_no p hok)
  have hr0 := row_old (o' := .cells (stC s) 25) (row_new w (.cells (planC p) 23))
  have hs0 := st_row w p s
  clear hok
  go_enter Try.func11, Try.ntmps11
  go_wp2_with (first
    | (go_at_call 14; refine (hC.out _).mono ?_; rintro e w1 ⟨rfl, hg⟩; have hn : w1.cell? ⟨w.heap.size, 0, none⟩ = some (.int .i64 p.nodes) := cell_of_row w1 _ 0 _ _ _ (hg.row hr0); have hs := hg.row hs0; have k0 : w1.cell? ⟨w.heap.size + 1, 0, none⟩ = some (.int .i64 s.own) := cell_of_row w1 _ 0 _ _ _ hs; have k1 : w1.cell? ⟨w.heap.size + 1, 1, none⟩ = some (.int .i64 s.state) := cell_of_row w1 _ 1 _ _ _ hs; have k2 : w1.cell? ⟨w.heap.size + 1, 2, none⟩ = some (.int .i64 s.since) := cell_of_row w1 _ 2 _ _ _ hs; have k3 : w1.cell? ⟨w.heap.size + 1, 3, none⟩ = some (.int .i64 s.first) := cell_of_row w1 _ 3 _ _ _ hs; have k4 : w1.cell? ⟨w.heap.size + 1, 4, none⟩ = some (.bool s.has) := cell_of_row w1 _ 4 _ _ _ hs; have k5 : w1.cell? ⟨w.heap.size + 1, 5, none⟩ = some (.int .i64 s.tries) := cell_of_row w1 _ 5 _ _ _ hs)
    | (go_at_call 38; refine (time_any _ _).mono ?_; rintro e w2 ⟨rfl, rfl⟩)
    | (refine wpList_isload 23 _ rfl ?_; refine wpList_load_rowg 23 _ rfl rfl _ rfl _ _ _ _ (by first | exact row_new _ _ | exact row_old (row_new _ _) | exact row_old (row_old (row_new _ _)) | exact row_old (row_old (row_old (row_new _ _))) | assumption) Try.underlying23 rfl (by kernel_rfl) ?_))
  all_goals
    go_ret
    exact ⟨rfl, (((Grow.refl _).alloc _).alloc _).trans hg⟩
set_option maxHeartbeats 1000000 in
theorem scheck_no0 (p : Plan) (s : St) (hok : p.Ok) (h0 : ¬ 0 ≤ s.own) (w : World) :
    Calls Try.prog 11 #[planV p, stV s] w fun e w' => e = .returned (.int .i64 210) ∧ Grow w w' := by
  have hC := Lib.hid (check_ok p hok)
  have hr0 := row_old (o' := .cells (stC s) 25) (row_new w (.cells (planC p) 23))
  have hs0 := st_row w p s
  clear hok
  go_enter Try.func11, Try.ntmps11
  go_wp2_with (first
    | (go_at_call 14; refine (hC.out _).mono ?_; rintro e w1 ⟨rfl, hg⟩; have hn : w1.cell? ⟨w.heap.size, 0, none⟩ = some (.int .i64 p.nodes) := cell_of_row w1 _ 0 _ _ _ (hg.row hr0); have hs := hg.row hs0; have k0 : w1.cell? ⟨w.heap.size + 1, 0, none⟩ = some (.int .i64 s.own) := cell_of_row w1 _ 0 _ _ _ hs; have k1 : w1.cell? ⟨w.heap.size + 1, 1, none⟩ = some (.int .i64 s.state) := cell_of_row w1 _ 1 _ _ _ hs; have k2 : w1.cell? ⟨w.heap.size + 1, 2, none⟩ = some (.int .i64 s.since) := cell_of_row w1 _ 2 _ _ _ hs; have k3 : w1.cell? ⟨w.heap.size + 1, 3, none⟩ = some (.int .i64 s.first) := cell_of_row w1 _ 3 _ _ _ hs; have k4 : w1.cell? ⟨w.heap.size + 1, 4, none⟩ = some (.bool s.has) := cell_of_row w1 _ 4 _ _ _ hs; have k5 : w1.cell? ⟨w.heap.size + 1, 5, none⟩ = some (.int .i64 s.tries) := cell_of_row w1 _ 5 _ _ _ hs)
    | (go_at_call 38; refine (time_any _ _).mono ?_; rintro e w2 ⟨rfl, rfl⟩)
    | (refine wpList_isload 23 _ rfl ?_; refine wpList_load_rowg 23 _ rfl rfl _ rfl _ _ _ _ (by first | exact row_new _ _ | exact row_old (row_new _ _) | exact row_old (row_old (row_new _ _)) | exact row_old (row_old (row_old (row_new _ _))) | assumption) Try.underlying23 rfl (by kernel_rfl) ?_))
  all_goals
    go_ret
    exact ⟨rfl, (((Grow.refl _).alloc _).alloc _).trans hg⟩
set_option maxHeartbeats 1000000 in
theorem scheck_no1 (p : Plan) (s : St) (hok : p.Ok) (h0 : 0 ≤ s.own) (h1 : ¬ s.own < p.nodes) (w : World) :
    Calls Try.prog 11 #[planV p, stV s] w fun e w' => e = .returned (.int .i64 210) ∧ Grow w w' := by
  have hC := Lib.hid (check_ok p hok)
  have hr0 := row_old (o' := .cells (stC s) 25) (row_new w (.cells (planC p) 23))
  have hs0 := st_row w p s
  clear hok
  go_enter Try.func11, Try.ntmps11
  go_wp2_with (first
    | (go_at_call 14; refine (hC.out _).mono ?_; rintro e w1 ⟨rfl, hg⟩; have hn : w1.cell? ⟨w.heap.size, 0, none⟩ = some (.int .i64 p.nodes) := cell_of_row w1 _ 0 _ _ _ (hg.row hr0); have hs := hg.row hs0; have k0 : w1.cell? ⟨w.heap.size + 1, 0, none⟩ = some (.int .i64 s.own) := cell_of_row w1 _ 0 _ _ _ hs; have k1 : w1.cell? ⟨w.heap.size + 1, 1, none⟩ = some (.int .i64 s.state) := cell_of_row w1 _ 1 _ _ _ hs; have k2 : w1.cell? ⟨w.heap.size + 1, 2, none⟩ = some (.int .i64 s.since) := cell_of_row w1 _ 2 _ _ _ hs; have k3 : w1.cell? ⟨w.heap.size + 1, 3, none⟩ = some (.int .i64 s.first) := cell_of_row w1 _ 3 _ _ _ hs; have k4 : w1.cell? ⟨w.heap.size + 1, 4, none⟩ = some (.bool s.has) := cell_of_row w1 _ 4 _ _ _ hs; have k5 : w1.cell? ⟨w.heap.size + 1, 5, none⟩ = some (.int .i64 s.tries) := cell_of_row w1 _ 5 _ _ _ hs)
    | (go_at_call 38; refine (time_any _ _).mono ?_; rintro e w2 ⟨rfl, rfl⟩)
    | (refine wpList_isload 23 _ rfl ?_; refine wpList_load_rowg 23 _ rfl rfl _ rfl _ _ _ _ (by first | exact row_new _ _ | exact row_old (row_new _ _) | exact row_old (row_old (row_new _ _)) | exact row_old (row_old (row_old (row_new _ _))) | assumption) Try.underlying23 rfl (by kernel_rfl) ?_))
  all_goals
    go_ret
    exact ⟨rfl, (((Grow.refl _).alloc _).alloc _).trans hg⟩
set_option maxHeartbeats 1000000 in
theorem scheck_no2 (p : Plan) (s : St) (hok : p.Ok) (h0 : 0 ≤ s.own) (h1 : s.own < p.nodes) (h2 : timeB s.since = false) (w : World) :
    Calls Try.prog 11 #[planV p, stV s] w fun e w' => e = .returned (.int .i64 210) ∧ Grow w w' := by
  have hC := Lib.hid (check_ok p hok)
  have hr0 := row_old (o' := .cells (stC s) 25) (row_new w (.cells (planC p) 23))
  have hs0 := st_row w p s
  clear hok
  go_enter Try.func11, Try.ntmps11
  go_wp2_with (first
    | (go_at_call 14; refine (hC.out _).mono ?_; rintro e w1 ⟨rfl, hg⟩; have hn : w1.cell? ⟨w.heap.size, 0, none⟩ = some (.int .i64 p.nodes) := cell_of_row w1 _ 0 _ _ _ (hg.row hr0); have hs := hg.row hs0; have k0 : w1.cell? ⟨w.heap.size + 1, 0, none⟩ = some (.int .i64 s.own) := cell_of_row w1 _ 0 _ _ _ hs; have k1 : w1.cell? ⟨w.heap.size + 1, 1, none⟩ = some (.int .i64 s.state) := cell_of_row w1 _ 1 _ _ _ hs; have k2 : w1.cell? ⟨w.heap.size + 1, 2, none⟩ = some (.int .i64 s.since) := cell_of_row w1 _ 2 _ _ _ hs; have k3 : w1.cell? ⟨w.heap.size + 1, 3, none⟩ = some (.int .i64 s.first) := cell_of_row w1 _ 3 _ _ _ hs; have k4 : w1.cell? ⟨w.heap.size + 1, 4, none⟩ = some (.bool s.has) := cell_of_row w1 _ 4 _ _ _ hs; have k5 : w1.cell? ⟨w.heap.size + 1, 5, none⟩ = some (.int .i64 s.tries) := cell_of_row w1 _ 5 _ _ _ hs)
    | (go_at_call 38; refine (time_any _ _).mono ?_; rintro e w2 ⟨rfl, rfl⟩)
    | (refine wpList_isload 23 _ rfl ?_; refine wpList_load_rowg 23 _ rfl rfl _ rfl _ _ _ _ (by first | exact row_new _ _ | exact row_old (row_new _ _) | exact row_old (row_old (row_new _ _)) | exact row_old (row_old (row_old (row_new _ _))) | assumption) Try.underlying23 rfl (by kernel_rfl) ?_))
  all_goals
    go_ret
    exact ⟨rfl, (((Grow.refl _).alloc _).alloc _).trans hg⟩
set_option maxHeartbeats 1000000 in
theorem scheck_no3 (p : Plan) (s : St) (hok : p.Ok) (h0 : 0 ≤ s.own) (h1 : s.own < p.nodes) (h2 : timeB s.since = true) (h3 : timeB s.first = false) (w : World) :
    Calls Try.prog 11 #[planV p, stV s] w fun e w' => e = .returned (.int .i64 210) ∧ Grow w w' := by
  have hC := Lib.hid (check_ok p hok)
  have hr0 := row_old (o' := .cells (stC s) 25) (row_new w (.cells (planC p) 23))
  have hs0 := st_row w p s
  clear hok
  go_enter Try.func11, Try.ntmps11
  go_wp2_with (first
    | (go_at_call 14; refine (hC.out _).mono ?_; rintro e w1 ⟨rfl, hg⟩; have hn : w1.cell? ⟨w.heap.size, 0, none⟩ = some (.int .i64 p.nodes) := cell_of_row w1 _ 0 _ _ _ (hg.row hr0); have hs := hg.row hs0; have k0 : w1.cell? ⟨w.heap.size + 1, 0, none⟩ = some (.int .i64 s.own) := cell_of_row w1 _ 0 _ _ _ hs; have k1 : w1.cell? ⟨w.heap.size + 1, 1, none⟩ = some (.int .i64 s.state) := cell_of_row w1 _ 1 _ _ _ hs; have k2 : w1.cell? ⟨w.heap.size + 1, 2, none⟩ = some (.int .i64 s.since) := cell_of_row w1 _ 2 _ _ _ hs; have k3 : w1.cell? ⟨w.heap.size + 1, 3, none⟩ = some (.int .i64 s.first) := cell_of_row w1 _ 3 _ _ _ hs; have k4 : w1.cell? ⟨w.heap.size + 1, 4, none⟩ = some (.bool s.has) := cell_of_row w1 _ 4 _ _ _ hs; have k5 : w1.cell? ⟨w.heap.size + 1, 5, none⟩ = some (.int .i64 s.tries) := cell_of_row w1 _ 5 _ _ _ hs)
    | (go_at_call 38; refine (time_any _ _).mono ?_; rintro e w2 ⟨rfl, rfl⟩)
    | (refine wpList_isload 23 _ rfl ?_; refine wpList_load_rowg 23 _ rfl rfl _ rfl _ _ _ _ (by first | exact row_new _ _ | exact row_old (row_new _ _) | exact row_old (row_old (row_new _ _)) | exact row_old (row_old (row_old (row_new _ _))) | assumption) Try.underlying23 rfl (by kernel_rfl) ?_))
  all_goals
    go_ret
    exact ⟨rfl, (((Grow.refl _).alloc _).alloc _).trans hg⟩
set_option maxHeartbeats 1000000 in
theorem scheck_no4 (p : Plan) (s : St) (hok : p.Ok) (h0 : 0 ≤ s.own) (h1 : s.own < p.nodes) (h2 : timeB s.since = true) (h3 : timeB s.first = true) (h4 : s.has = false) (h5 : (s.first == 0) = false) (w : World) :
    Calls Try.prog 11 #[planV p, stV s] w fun e w' => e = .returned (.int .i64 210) ∧ Grow w w' := by
  have hC := Lib.hid (check_ok p hok)
  have hr0 := row_old (o' := .cells (stC s) 25) (row_new w (.cells (planC p) 23))
  have hs0 := st_row w p s
  clear hok
  go_enter Try.func11, Try.ntmps11
  go_wp2_with (first
    | (go_at_call 14; refine (hC.out _).mono ?_; rintro e w1 ⟨rfl, hg⟩; have hn : w1.cell? ⟨w.heap.size, 0, none⟩ = some (.int .i64 p.nodes) := cell_of_row w1 _ 0 _ _ _ (hg.row hr0); have hs := hg.row hs0; have k0 : w1.cell? ⟨w.heap.size + 1, 0, none⟩ = some (.int .i64 s.own) := cell_of_row w1 _ 0 _ _ _ hs; have k1 : w1.cell? ⟨w.heap.size + 1, 1, none⟩ = some (.int .i64 s.state) := cell_of_row w1 _ 1 _ _ _ hs; have k2 : w1.cell? ⟨w.heap.size + 1, 2, none⟩ = some (.int .i64 s.since) := cell_of_row w1 _ 2 _ _ _ hs; have k3 : w1.cell? ⟨w.heap.size + 1, 3, none⟩ = some (.int .i64 s.first) := cell_of_row w1 _ 3 _ _ _ hs; have k4 : w1.cell? ⟨w.heap.size + 1, 4, none⟩ = some (.bool s.has) := cell_of_row w1 _ 4 _ _ _ hs; have k5 : w1.cell? ⟨w.heap.size + 1, 5, none⟩ = some (.int .i64 s.tries) := cell_of_row w1 _ 5 _ _ _ hs)
    | (go_at_call 38; refine (time_any _ _).mono ?_; rintro e w2 ⟨rfl, rfl⟩)
    | (refine wpList_isload 23 _ rfl ?_; refine wpList_load_rowg 23 _ rfl rfl _ rfl _ _ _ _ (by first | exact row_new _ _ | exact row_old (row_new _ _) | exact row_old (row_old (row_new _ _)) | exact row_old (row_old (row_old (row_new _ _))) | assumption) Try.underlying23 rfl (by kernel_rfl) ?_))
  all_goals
    go_ret
    exact ⟨rfl, (((Grow.refl _).alloc _).alloc _).trans hg⟩
set_option maxHeartbeats 1000000 in
theorem scheck_yes2a (p : Plan) (s : St) (hok : p.Ok) (h0 : 0 ≤ s.own) (h1 : s.own < p.nodes) (h2 : timeB s.since = true) (h3 : timeB s.first = true) (h4 : s.has = true) (h6 : (s.state == 2) = true) (h7 : (s.tries == 0) = true) (w : World) :
    Calls Try.prog 11 #[planV p, stV s] w fun e w' => e = .returned (.int .i64 0) ∧ Grow w w' := by
  have hC := Lib.hid (check_ok p hok)
  have hr0 := row_old (o' := .cells (stC s) 25) (row_new w (.cells (planC p) 23))
  have hs0 := st_row w p s
  clear hok
  go_enter Try.func11, Try.ntmps11
  go_wp2_with (first
    | (go_at_call 14; refine (hC.out _).mono ?_; rintro e w1 ⟨rfl, hg⟩; have hn : w1.cell? ⟨w.heap.size, 0, none⟩ = some (.int .i64 p.nodes) := cell_of_row w1 _ 0 _ _ _ (hg.row hr0); have hs := hg.row hs0; have k0 : w1.cell? ⟨w.heap.size + 1, 0, none⟩ = some (.int .i64 s.own) := cell_of_row w1 _ 0 _ _ _ hs; have k1 : w1.cell? ⟨w.heap.size + 1, 1, none⟩ = some (.int .i64 s.state) := cell_of_row w1 _ 1 _ _ _ hs; have k2 : w1.cell? ⟨w.heap.size + 1, 2, none⟩ = some (.int .i64 s.since) := cell_of_row w1 _ 2 _ _ _ hs; have k3 : w1.cell? ⟨w.heap.size + 1, 3, none⟩ = some (.int .i64 s.first) := cell_of_row w1 _ 3 _ _ _ hs; have k4 : w1.cell? ⟨w.heap.size + 1, 4, none⟩ = some (.bool s.has) := cell_of_row w1 _ 4 _ _ _ hs; have k5 : w1.cell? ⟨w.heap.size + 1, 5, none⟩ = some (.int .i64 s.tries) := cell_of_row w1 _ 5 _ _ _ hs)
    | (go_at_call 38; refine (time_any _ _).mono ?_; rintro e w2 ⟨rfl, rfl⟩)
    | (refine wpList_isload 23 _ rfl ?_; refine wpList_load_rowg 23 _ rfl rfl _ rfl _ _ _ _ (by first | exact row_new _ _ | exact row_old (row_new _ _) | exact row_old (row_old (row_new _ _)) | exact row_old (row_old (row_old (row_new _ _))) | assumption) Try.underlying23 rfl (by kernel_rfl) ?_))
  all_goals
    go_ret
    exact ⟨rfl, (((Grow.refl _).alloc _).alloc _).trans hg⟩
set_option maxHeartbeats 1000000 in
theorem scheck_n2a (p : Plan) (s : St) (hok : p.Ok) (h0 : 0 ≤ s.own) (h1 : s.own < p.nodes) (h2 : timeB s.since = true) (h3 : timeB s.first = true) (h4 : s.has = true) (h6 : (s.state == 2) = true) (h7 : (s.tries == 0) = false) (w : World) :
    Calls Try.prog 11 #[planV p, stV s] w fun e w' => e = .returned (.int .i64 210) ∧ Grow w w' := by
  have hC := Lib.hid (check_ok p hok)
  have hr0 := row_old (o' := .cells (stC s) 25) (row_new w (.cells (planC p) 23))
  have hs0 := st_row w p s
  clear hok
  go_enter Try.func11, Try.ntmps11
  go_wp2_with (first
    | (go_at_call 14; refine (hC.out _).mono ?_; rintro e w1 ⟨rfl, hg⟩; have hn : w1.cell? ⟨w.heap.size, 0, none⟩ = some (.int .i64 p.nodes) := cell_of_row w1 _ 0 _ _ _ (hg.row hr0); have hs := hg.row hs0; have k0 : w1.cell? ⟨w.heap.size + 1, 0, none⟩ = some (.int .i64 s.own) := cell_of_row w1 _ 0 _ _ _ hs; have k1 : w1.cell? ⟨w.heap.size + 1, 1, none⟩ = some (.int .i64 s.state) := cell_of_row w1 _ 1 _ _ _ hs; have k2 : w1.cell? ⟨w.heap.size + 1, 2, none⟩ = some (.int .i64 s.since) := cell_of_row w1 _ 2 _ _ _ hs; have k3 : w1.cell? ⟨w.heap.size + 1, 3, none⟩ = some (.int .i64 s.first) := cell_of_row w1 _ 3 _ _ _ hs; have k4 : w1.cell? ⟨w.heap.size + 1, 4, none⟩ = some (.bool s.has) := cell_of_row w1 _ 4 _ _ _ hs; have k5 : w1.cell? ⟨w.heap.size + 1, 5, none⟩ = some (.int .i64 s.tries) := cell_of_row w1 _ 5 _ _ _ hs)
    | (go_at_call 38; refine (time_any _ _).mono ?_; rintro e w2 ⟨rfl, rfl⟩)
    | (refine wpList_isload 23 _ rfl ?_; refine wpList_load_rowg 23 _ rfl rfl _ rfl _ _ _ _ (by first | exact row_new _ _ | exact row_old (row_new _ _) | exact row_old (row_old (row_new _ _)) | exact row_old (row_old (row_old (row_new _ _))) | assumption) Try.underlying23 rfl (by kernel_rfl) ?_))
  all_goals
    go_ret
    exact ⟨rfl, (((Grow.refl _).alloc _).alloc _).trans hg⟩
set_option maxHeartbeats 1000000 in
theorem scheck_nxa (p : Plan) (s : St) (hok : p.Ok) (h0 : 0 ≤ s.own) (h1 : s.own < p.nodes) (h2 : timeB s.since = true) (h3 : timeB s.first = true) (h4 : s.has = true) (h6 : (s.state == 2) = false) (h7 : (s.state == 3) = false) (w : World) :
    Calls Try.prog 11 #[planV p, stV s] w fun e w' => e = .returned (.int .i64 210) ∧ Grow w w' := by
  have hC := Lib.hid (check_ok p hok)
  have hr0 := row_old (o' := .cells (stC s) 25) (row_new w (.cells (planC p) 23))
  have hs0 := st_row w p s
  clear hok
  go_enter Try.func11, Try.ntmps11
  go_wp2_with (first
    | (go_at_call 14; refine (hC.out _).mono ?_; rintro e w1 ⟨rfl, hg⟩; have hn : w1.cell? ⟨w.heap.size, 0, none⟩ = some (.int .i64 p.nodes) := cell_of_row w1 _ 0 _ _ _ (hg.row hr0); have hs := hg.row hs0; have k0 : w1.cell? ⟨w.heap.size + 1, 0, none⟩ = some (.int .i64 s.own) := cell_of_row w1 _ 0 _ _ _ hs; have k1 : w1.cell? ⟨w.heap.size + 1, 1, none⟩ = some (.int .i64 s.state) := cell_of_row w1 _ 1 _ _ _ hs; have k2 : w1.cell? ⟨w.heap.size + 1, 2, none⟩ = some (.int .i64 s.since) := cell_of_row w1 _ 2 _ _ _ hs; have k3 : w1.cell? ⟨w.heap.size + 1, 3, none⟩ = some (.int .i64 s.first) := cell_of_row w1 _ 3 _ _ _ hs; have k4 : w1.cell? ⟨w.heap.size + 1, 4, none⟩ = some (.bool s.has) := cell_of_row w1 _ 4 _ _ _ hs; have k5 : w1.cell? ⟨w.heap.size + 1, 5, none⟩ = some (.int .i64 s.tries) := cell_of_row w1 _ 5 _ _ _ hs)
    | (go_at_call 38; refine (time_any _ _).mono ?_; rintro e w2 ⟨rfl, rfl⟩)
    | (refine wpList_isload 23 _ rfl ?_; refine wpList_load_rowg 23 _ rfl rfl _ rfl _ _ _ _ (by first | exact row_new _ _ | exact row_old (row_new _ _) | exact row_old (row_old (row_new _ _)) | exact row_old (row_old (row_old (row_new _ _))) | assumption) Try.underlying23 rfl (by kernel_rfl) ?_))
  all_goals
    go_ret
    exact ⟨rfl, (((Grow.refl _).alloc _).alloc _).trans hg⟩
set_option maxHeartbeats 1000000 in
theorem scheck_n3a (p : Plan) (s : St) (hok : p.Ok) (h0 : 0 ≤ s.own) (h1 : s.own < p.nodes) (h2 : timeB s.since = true) (h3 : timeB s.first = true) (h4 : s.has = true) (h6 : (s.state == 2) = false) (h7 : (s.state == 3) = true) (h8 : ¬ 1 ≤ s.tries) (w : World) :
    Calls Try.prog 11 #[planV p, stV s] w fun e w' => e = .returned (.int .i64 210) ∧ Grow w w' := by
  have hC := Lib.hid (check_ok p hok)
  have hr0 := row_old (o' := .cells (stC s) 25) (row_new w (.cells (planC p) 23))
  have hs0 := st_row w p s
  clear hok
  go_enter Try.func11, Try.ntmps11
  go_wp2_with (first
    | (go_at_call 14; refine (hC.out _).mono ?_; rintro e w1 ⟨rfl, hg⟩; have hn : w1.cell? ⟨w.heap.size, 0, none⟩ = some (.int .i64 p.nodes) := cell_of_row w1 _ 0 _ _ _ (hg.row hr0); have hs := hg.row hs0; have k0 : w1.cell? ⟨w.heap.size + 1, 0, none⟩ = some (.int .i64 s.own) := cell_of_row w1 _ 0 _ _ _ hs; have k1 : w1.cell? ⟨w.heap.size + 1, 1, none⟩ = some (.int .i64 s.state) := cell_of_row w1 _ 1 _ _ _ hs; have k2 : w1.cell? ⟨w.heap.size + 1, 2, none⟩ = some (.int .i64 s.since) := cell_of_row w1 _ 2 _ _ _ hs; have k3 : w1.cell? ⟨w.heap.size + 1, 3, none⟩ = some (.int .i64 s.first) := cell_of_row w1 _ 3 _ _ _ hs; have k4 : w1.cell? ⟨w.heap.size + 1, 4, none⟩ = some (.bool s.has) := cell_of_row w1 _ 4 _ _ _ hs; have k5 : w1.cell? ⟨w.heap.size + 1, 5, none⟩ = some (.int .i64 s.tries) := cell_of_row w1 _ 5 _ _ _ hs)
    | (go_at_call 38; refine (time_any _ _).mono ?_; rintro e w2 ⟨rfl, rfl⟩)
    | (refine wpList_isload 23 _ rfl ?_; refine wpList_load_rowg 23 _ rfl rfl _ rfl _ _ _ _ (by first | exact row_new _ _ | exact row_old (row_new _ _) | exact row_old (row_old (row_new _ _)) | exact row_old (row_old (row_old (row_new _ _))) | assumption) Try.underlying23 rfl (by kernel_rfl) ?_))
  all_goals
    go_ret
    exact ⟨rfl, (((Grow.refl _).alloc _).alloc _).trans hg⟩
set_option maxHeartbeats 1000000 in
theorem scheck_m3a (p : Plan) (s : St) (hok : p.Ok) (h0 : 0 ≤ s.own) (h1 : s.own < p.nodes) (h2 : timeB s.since = true) (h3 : timeB s.first = true) (h4 : s.has = true) (h6 : (s.state == 2) = false) (h7 : (s.state == 3) = true) (h8 : 1 ≤ s.tries) (h9 : ¬ s.tries ≤ 3) (w : World) :
    Calls Try.prog 11 #[planV p, stV s] w fun e w' => e = .returned (.int .i64 210) ∧ Grow w w' := by
  have hC := Lib.hid (check_ok p hok)
  have hr0 := row_old (o' := .cells (stC s) 25) (row_new w (.cells (planC p) 23))
  have hs0 := st_row w p s
  clear hok
  go_enter Try.func11, Try.ntmps11
  go_wp2_with (first
    | (go_at_call 14; refine (hC.out _).mono ?_; rintro e w1 ⟨rfl, hg⟩; have hn : w1.cell? ⟨w.heap.size, 0, none⟩ = some (.int .i64 p.nodes) := cell_of_row w1 _ 0 _ _ _ (hg.row hr0); have hs := hg.row hs0; have k0 : w1.cell? ⟨w.heap.size + 1, 0, none⟩ = some (.int .i64 s.own) := cell_of_row w1 _ 0 _ _ _ hs; have k1 : w1.cell? ⟨w.heap.size + 1, 1, none⟩ = some (.int .i64 s.state) := cell_of_row w1 _ 1 _ _ _ hs; have k2 : w1.cell? ⟨w.heap.size + 1, 2, none⟩ = some (.int .i64 s.since) := cell_of_row w1 _ 2 _ _ _ hs; have k3 : w1.cell? ⟨w.heap.size + 1, 3, none⟩ = some (.int .i64 s.first) := cell_of_row w1 _ 3 _ _ _ hs; have k4 : w1.cell? ⟨w.heap.size + 1, 4, none⟩ = some (.bool s.has) := cell_of_row w1 _ 4 _ _ _ hs; have k5 : w1.cell? ⟨w.heap.size + 1, 5, none⟩ = some (.int .i64 s.tries) := cell_of_row w1 _ 5 _ _ _ hs)
    | (go_at_call 38; refine (time_any _ _).mono ?_; rintro e w2 ⟨rfl, rfl⟩)
    | (refine wpList_isload 23 _ rfl ?_; refine wpList_load_rowg 23 _ rfl rfl _ rfl _ _ _ _ (by first | exact row_new _ _ | exact row_old (row_new _ _) | exact row_old (row_old (row_new _ _)) | exact row_old (row_old (row_old (row_new _ _))) | assumption) Try.underlying23 rfl (by kernel_rfl) ?_))
  all_goals
    go_ret
    exact ⟨rfl, (((Grow.refl _).alloc _).alloc _).trans hg⟩
set_option maxHeartbeats 1000000 in
theorem scheck_o3a (p : Plan) (s : St) (hok : p.Ok) (h0 : 0 ≤ s.own) (h1 : s.own < p.nodes) (h2 : timeB s.since = true) (h3 : timeB s.first = true) (h4 : s.has = true) (h6 : (s.state == 2) = false) (h7 : (s.state == 3) = true) (h8 : 1 ≤ s.tries) (h9 : s.tries ≤ 3) (w : World) :
    Calls Try.prog 11 #[planV p, stV s] w fun e w' => e = .returned (.int .i64 210) ∧ Grow w w' := by
  have hC := Lib.hid (check_ok p hok)
  have hr0 := row_old (o' := .cells (stC s) 25) (row_new w (.cells (planC p) 23))
  have hs0 := st_row w p s
  clear hok
  go_enter Try.func11, Try.ntmps11
  go_wp2_with (first
    | (go_at_call 14; refine (hC.out _).mono ?_; rintro e w1 ⟨rfl, hg⟩; have hn : w1.cell? ⟨w.heap.size, 0, none⟩ = some (.int .i64 p.nodes) := cell_of_row w1 _ 0 _ _ _ (hg.row hr0); have hs := hg.row hs0; have k0 : w1.cell? ⟨w.heap.size + 1, 0, none⟩ = some (.int .i64 s.own) := cell_of_row w1 _ 0 _ _ _ hs; have k1 : w1.cell? ⟨w.heap.size + 1, 1, none⟩ = some (.int .i64 s.state) := cell_of_row w1 _ 1 _ _ _ hs; have k2 : w1.cell? ⟨w.heap.size + 1, 2, none⟩ = some (.int .i64 s.since) := cell_of_row w1 _ 2 _ _ _ hs; have k3 : w1.cell? ⟨w.heap.size + 1, 3, none⟩ = some (.int .i64 s.first) := cell_of_row w1 _ 3 _ _ _ hs; have k4 : w1.cell? ⟨w.heap.size + 1, 4, none⟩ = some (.bool s.has) := cell_of_row w1 _ 4 _ _ _ hs; have k5 : w1.cell? ⟨w.heap.size + 1, 5, none⟩ = some (.int .i64 s.tries) := cell_of_row w1 _ 5 _ _ _ hs)
    | (go_at_call 38; refine (time_any _ _).mono ?_; rintro e w2 ⟨rfl, rfl⟩)
    | (refine wpList_isload 23 _ rfl ?_; refine wpList_load_rowg 23 _ rfl rfl _ rfl _ _ _ _ (by first | exact row_new _ _ | exact row_old (row_new _ _) | exact row_old (row_old (row_new _ _)) | exact row_old (row_old (row_old (row_new _ _))) | assumption) Try.underlying23 rfl (by kernel_rfl) ?_))
  all_goals
    go_ret
    exact ⟨rfl, (((Grow.refl _).alloc _).alloc _).trans hg⟩
set_option maxHeartbeats 1000000 in
theorem scheck_yes2b (p : Plan) (s : St) (hok : p.Ok) (h0 : 0 ≤ s.own) (h1 : s.own < p.nodes) (h2 : timeB s.since = true) (h3 : timeB s.first = true) (h4 : s.has = false) (h5 : (s.first == 0) = true) (h6 : (s.state == 2) = true) (h7 : (s.tries == 0) = true) (w : World) :
    Calls Try.prog 11 #[planV p, stV s] w fun e w' => e = .returned (.int .i64 0) ∧ Grow w w' := by
  have hC := Lib.hid (check_ok p hok)
  have hr0 := row_old (o' := .cells (stC s) 25) (row_new w (.cells (planC p) 23))
  have hs0 := st_row w p s
  clear hok
  go_enter Try.func11, Try.ntmps11
  go_wp2_with (first
    | (go_at_call 14; refine (hC.out _).mono ?_; rintro e w1 ⟨rfl, hg⟩; have hn : w1.cell? ⟨w.heap.size, 0, none⟩ = some (.int .i64 p.nodes) := cell_of_row w1 _ 0 _ _ _ (hg.row hr0); have hs := hg.row hs0; have k0 : w1.cell? ⟨w.heap.size + 1, 0, none⟩ = some (.int .i64 s.own) := cell_of_row w1 _ 0 _ _ _ hs; have k1 : w1.cell? ⟨w.heap.size + 1, 1, none⟩ = some (.int .i64 s.state) := cell_of_row w1 _ 1 _ _ _ hs; have k2 : w1.cell? ⟨w.heap.size + 1, 2, none⟩ = some (.int .i64 s.since) := cell_of_row w1 _ 2 _ _ _ hs; have k3 : w1.cell? ⟨w.heap.size + 1, 3, none⟩ = some (.int .i64 s.first) := cell_of_row w1 _ 3 _ _ _ hs; have k4 : w1.cell? ⟨w.heap.size + 1, 4, none⟩ = some (.bool s.has) := cell_of_row w1 _ 4 _ _ _ hs; have k5 : w1.cell? ⟨w.heap.size + 1, 5, none⟩ = some (.int .i64 s.tries) := cell_of_row w1 _ 5 _ _ _ hs)
    | (go_at_call 38; refine (time_any _ _).mono ?_; rintro e w2 ⟨rfl, rfl⟩)
    | (refine wpList_isload 23 _ rfl ?_; refine wpList_load_rowg 23 _ rfl rfl _ rfl _ _ _ _ (by first | exact row_new _ _ | exact row_old (row_new _ _) | exact row_old (row_old (row_new _ _)) | exact row_old (row_old (row_old (row_new _ _))) | assumption) Try.underlying23 rfl (by kernel_rfl) ?_))
  all_goals
    go_ret
    exact ⟨rfl, (((Grow.refl _).alloc _).alloc _).trans hg⟩
set_option maxHeartbeats 1000000 in
theorem scheck_n2b (p : Plan) (s : St) (hok : p.Ok) (h0 : 0 ≤ s.own) (h1 : s.own < p.nodes) (h2 : timeB s.since = true) (h3 : timeB s.first = true) (h4 : s.has = false) (h5 : (s.first == 0) = true) (h6 : (s.state == 2) = true) (h7 : (s.tries == 0) = false) (w : World) :
    Calls Try.prog 11 #[planV p, stV s] w fun e w' => e = .returned (.int .i64 210) ∧ Grow w w' := by
  have hC := Lib.hid (check_ok p hok)
  have hr0 := row_old (o' := .cells (stC s) 25) (row_new w (.cells (planC p) 23))
  have hs0 := st_row w p s
  clear hok
  go_enter Try.func11, Try.ntmps11
  go_wp2_with (first
    | (go_at_call 14; refine (hC.out _).mono ?_; rintro e w1 ⟨rfl, hg⟩; have hn : w1.cell? ⟨w.heap.size, 0, none⟩ = some (.int .i64 p.nodes) := cell_of_row w1 _ 0 _ _ _ (hg.row hr0); have hs := hg.row hs0; have k0 : w1.cell? ⟨w.heap.size + 1, 0, none⟩ = some (.int .i64 s.own) := cell_of_row w1 _ 0 _ _ _ hs; have k1 : w1.cell? ⟨w.heap.size + 1, 1, none⟩ = some (.int .i64 s.state) := cell_of_row w1 _ 1 _ _ _ hs; have k2 : w1.cell? ⟨w.heap.size + 1, 2, none⟩ = some (.int .i64 s.since) := cell_of_row w1 _ 2 _ _ _ hs; have k3 : w1.cell? ⟨w.heap.size + 1, 3, none⟩ = some (.int .i64 s.first) := cell_of_row w1 _ 3 _ _ _ hs; have k4 : w1.cell? ⟨w.heap.size + 1, 4, none⟩ = some (.bool s.has) := cell_of_row w1 _ 4 _ _ _ hs; have k5 : w1.cell? ⟨w.heap.size + 1, 5, none⟩ = some (.int .i64 s.tries) := cell_of_row w1 _ 5 _ _ _ hs)
    | (go_at_call 38; refine (time_any _ _).mono ?_; rintro e w2 ⟨rfl, rfl⟩)
    | (refine wpList_isload 23 _ rfl ?_; refine wpList_load_rowg 23 _ rfl rfl _ rfl _ _ _ _ (by first | exact row_new _ _ | exact row_old (row_new _ _) | exact row_old (row_old (row_new _ _)) | exact row_old (row_old (row_old (row_new _ _))) | assumption) Try.underlying23 rfl (by kernel_rfl) ?_))
  all_goals
    go_ret
    exact ⟨rfl, (((Grow.refl _).alloc _).alloc _).trans hg⟩
set_option maxHeartbeats 1000000 in
theorem scheck_nxb (p : Plan) (s : St) (hok : p.Ok) (h0 : 0 ≤ s.own) (h1 : s.own < p.nodes) (h2 : timeB s.since = true) (h3 : timeB s.first = true) (h4 : s.has = false) (h5 : (s.first == 0) = true) (h6 : (s.state == 2) = false) (h7 : (s.state == 3) = false) (w : World) :
    Calls Try.prog 11 #[planV p, stV s] w fun e w' => e = .returned (.int .i64 210) ∧ Grow w w' := by
  have hC := Lib.hid (check_ok p hok)
  have hr0 := row_old (o' := .cells (stC s) 25) (row_new w (.cells (planC p) 23))
  have hs0 := st_row w p s
  clear hok
  go_enter Try.func11, Try.ntmps11
  go_wp2_with (first
    | (go_at_call 14; refine (hC.out _).mono ?_; rintro e w1 ⟨rfl, hg⟩; have hn : w1.cell? ⟨w.heap.size, 0, none⟩ = some (.int .i64 p.nodes) := cell_of_row w1 _ 0 _ _ _ (hg.row hr0); have hs := hg.row hs0; have k0 : w1.cell? ⟨w.heap.size + 1, 0, none⟩ = some (.int .i64 s.own) := cell_of_row w1 _ 0 _ _ _ hs; have k1 : w1.cell? ⟨w.heap.size + 1, 1, none⟩ = some (.int .i64 s.state) := cell_of_row w1 _ 1 _ _ _ hs; have k2 : w1.cell? ⟨w.heap.size + 1, 2, none⟩ = some (.int .i64 s.since) := cell_of_row w1 _ 2 _ _ _ hs; have k3 : w1.cell? ⟨w.heap.size + 1, 3, none⟩ = some (.int .i64 s.first) := cell_of_row w1 _ 3 _ _ _ hs; have k4 : w1.cell? ⟨w.heap.size + 1, 4, none⟩ = some (.bool s.has) := cell_of_row w1 _ 4 _ _ _ hs; have k5 : w1.cell? ⟨w.heap.size + 1, 5, none⟩ = some (.int .i64 s.tries) := cell_of_row w1 _ 5 _ _ _ hs)
    | (go_at_call 38; refine (time_any _ _).mono ?_; rintro e w2 ⟨rfl, rfl⟩)
    | (refine wpList_isload 23 _ rfl ?_; refine wpList_load_rowg 23 _ rfl rfl _ rfl _ _ _ _ (by first | exact row_new _ _ | exact row_old (row_new _ _) | exact row_old (row_old (row_new _ _)) | exact row_old (row_old (row_old (row_new _ _))) | assumption) Try.underlying23 rfl (by kernel_rfl) ?_))
  all_goals
    go_ret
    exact ⟨rfl, (((Grow.refl _).alloc _).alloc _).trans hg⟩
set_option maxHeartbeats 1000000 in
theorem scheck_n3b (p : Plan) (s : St) (hok : p.Ok) (h0 : 0 ≤ s.own) (h1 : s.own < p.nodes) (h2 : timeB s.since = true) (h3 : timeB s.first = true) (h4 : s.has = false) (h5 : (s.first == 0) = true) (h6 : (s.state == 2) = false) (h7 : (s.state == 3) = true) (h8 : ¬ 1 ≤ s.tries) (w : World) :
    Calls Try.prog 11 #[planV p, stV s] w fun e w' => e = .returned (.int .i64 210) ∧ Grow w w' := by
  have hC := Lib.hid (check_ok p hok)
  have hr0 := row_old (o' := .cells (stC s) 25) (row_new w (.cells (planC p) 23))
  have hs0 := st_row w p s
  clear hok
  go_enter Try.func11, Try.ntmps11
  go_wp2_with (first
    | (go_at_call 14; refine (hC.out _).mono ?_; rintro e w1 ⟨rfl, hg⟩; have hn : w1.cell? ⟨w.heap.size, 0, none⟩ = some (.int .i64 p.nodes) := cell_of_row w1 _ 0 _ _ _ (hg.row hr0); have hs := hg.row hs0; have k0 : w1.cell? ⟨w.heap.size + 1, 0, none⟩ = some (.int .i64 s.own) := cell_of_row w1 _ 0 _ _ _ hs; have k1 : w1.cell? ⟨w.heap.size + 1, 1, none⟩ = some (.int .i64 s.state) := cell_of_row w1 _ 1 _ _ _ hs; have k2 : w1.cell? ⟨w.heap.size + 1, 2, none⟩ = some (.int .i64 s.since) := cell_of_row w1 _ 2 _ _ _ hs; have k3 : w1.cell? ⟨w.heap.size + 1, 3, none⟩ = some (.int .i64 s.first) := cell_of_row w1 _ 3 _ _ _ hs; have k4 : w1.cell? ⟨w.heap.size + 1, 4, none⟩ = some (.bool s.has) := cell_of_row w1 _ 4 _ _ _ hs; have k5 : w1.cell? ⟨w.heap.size + 1, 5, none⟩ = some (.int .i64 s.tries) := cell_of_row w1 _ 5 _ _ _ hs)
    | (go_at_call 38; refine (time_any _ _).mono ?_; rintro e w2 ⟨rfl, rfl⟩)
    | (refine wpList_isload 23 _ rfl ?_; refine wpList_load_rowg 23 _ rfl rfl _ rfl _ _ _ _ (by first | exact row_new _ _ | exact row_old (row_new _ _) | exact row_old (row_old (row_new _ _)) | exact row_old (row_old (row_old (row_new _ _))) | assumption) Try.underlying23 rfl (by kernel_rfl) ?_))
  all_goals
    go_ret
    exact ⟨rfl, (((Grow.refl _).alloc _).alloc _).trans hg⟩
set_option maxHeartbeats 1000000 in
theorem scheck_m3b (p : Plan) (s : St) (hok : p.Ok) (h0 : 0 ≤ s.own) (h1 : s.own < p.nodes) (h2 : timeB s.since = true) (h3 : timeB s.first = true) (h4 : s.has = false) (h5 : (s.first == 0) = true) (h6 : (s.state == 2) = false) (h7 : (s.state == 3) = true) (h8 : 1 ≤ s.tries) (h9 : ¬ s.tries ≤ 3) (w : World) :
    Calls Try.prog 11 #[planV p, stV s] w fun e w' => e = .returned (.int .i64 210) ∧ Grow w w' := by
  have hC := Lib.hid (check_ok p hok)
  have hr0 := row_old (o' := .cells (stC s) 25) (row_new w (.cells (planC p) 23))
  have hs0 := st_row w p s
  clear hok
  go_enter Try.func11, Try.ntmps11
  go_wp2_with (first
    | (go_at_call 14; refine (hC.out _).mono ?_; rintro e w1 ⟨rfl, hg⟩; have hn : w1.cell? ⟨w.heap.size, 0, none⟩ = some (.int .i64 p.nodes) := cell_of_row w1 _ 0 _ _ _ (hg.row hr0); have hs := hg.row hs0; have k0 : w1.cell? ⟨w.heap.size + 1, 0, none⟩ = some (.int .i64 s.own) := cell_of_row w1 _ 0 _ _ _ hs; have k1 : w1.cell? ⟨w.heap.size + 1, 1, none⟩ = some (.int .i64 s.state) := cell_of_row w1 _ 1 _ _ _ hs; have k2 : w1.cell? ⟨w.heap.size + 1, 2, none⟩ = some (.int .i64 s.since) := cell_of_row w1 _ 2 _ _ _ hs; have k3 : w1.cell? ⟨w.heap.size + 1, 3, none⟩ = some (.int .i64 s.first) := cell_of_row w1 _ 3 _ _ _ hs; have k4 : w1.cell? ⟨w.heap.size + 1, 4, none⟩ = some (.bool s.has) := cell_of_row w1 _ 4 _ _ _ hs; have k5 : w1.cell? ⟨w.heap.size + 1, 5, none⟩ = some (.int .i64 s.tries) := cell_of_row w1 _ 5 _ _ _ hs)
    | (go_at_call 38; refine (time_any _ _).mono ?_; rintro e w2 ⟨rfl, rfl⟩)
    | (refine wpList_isload 23 _ rfl ?_; refine wpList_load_rowg 23 _ rfl rfl _ rfl _ _ _ _ (by first | exact row_new _ _ | exact row_old (row_new _ _) | exact row_old (row_old (row_new _ _)) | exact row_old (row_old (row_old (row_new _ _))) | assumption) Try.underlying23 rfl (by kernel_rfl) ?_))
  all_goals
    go_ret
    exact ⟨rfl, (((Grow.refl _).alloc _).alloc _).trans hg⟩
set_option maxHeartbeats 1000000 in
theorem scheck_yes3b (p : Plan) (s : St) (hok : p.Ok) (h0 : 0 ≤ s.own) (h1 : s.own < p.nodes) (h2 : timeB s.since = true) (h3 : timeB s.first = true) (h4 : s.has = false) (h5 : (s.first == 0) = true) (h6 : (s.state == 2) = false) (h7 : (s.state == 3) = true) (h8 : 1 ≤ s.tries) (h9 : s.tries ≤ 3) (w : World) :
    Calls Try.prog 11 #[planV p, stV s] w fun e w' => e = .returned (.int .i64 0) ∧ Grow w w' := by
  have hC := Lib.hid (check_ok p hok)
  have hr0 := row_old (o' := .cells (stC s) 25) (row_new w (.cells (planC p) 23))
  have hs0 := st_row w p s
  clear hok
  go_enter Try.func11, Try.ntmps11
  go_wp2_with (first
    | (go_at_call 14; refine (hC.out _).mono ?_; rintro e w1 ⟨rfl, hg⟩; have hn : w1.cell? ⟨w.heap.size, 0, none⟩ = some (.int .i64 p.nodes) := cell_of_row w1 _ 0 _ _ _ (hg.row hr0); have hs := hg.row hs0; have k0 : w1.cell? ⟨w.heap.size + 1, 0, none⟩ = some (.int .i64 s.own) := cell_of_row w1 _ 0 _ _ _ hs; have k1 : w1.cell? ⟨w.heap.size + 1, 1, none⟩ = some (.int .i64 s.state) := cell_of_row w1 _ 1 _ _ _ hs; have k2 : w1.cell? ⟨w.heap.size + 1, 2, none⟩ = some (.int .i64 s.since) := cell_of_row w1 _ 2 _ _ _ hs; have k3 : w1.cell? ⟨w.heap.size + 1, 3, none⟩ = some (.int .i64 s.first) := cell_of_row w1 _ 3 _ _ _ hs; have k4 : w1.cell? ⟨w.heap.size + 1, 4, none⟩ = some (.bool s.has) := cell_of_row w1 _ 4 _ _ _ hs; have k5 : w1.cell? ⟨w.heap.size + 1, 5, none⟩ = some (.int .i64 s.tries) := cell_of_row w1 _ 5 _ _ _ hs)
    | (go_at_call 38; refine (time_any _ _).mono ?_; rintro e w2 ⟨rfl, rfl⟩)
    | (refine wpList_isload 23 _ rfl ?_; refine wpList_load_rowg 23 _ rfl rfl _ rfl _ _ _ _ (by first | exact row_new _ _ | exact row_old (row_new _ _) | exact row_old (row_old (row_new _ _)) | exact row_old (row_old (row_old (row_new _ _))) | assumption) Try.underlying23 rfl (by kernel_rfl) ?_))
  all_goals
    go_ret
    exact ⟨rfl, (((Grow.refl _).alloc _).alloc _).trans hg⟩
end Go.Proofs.Ytelmgipnlflmaaa
