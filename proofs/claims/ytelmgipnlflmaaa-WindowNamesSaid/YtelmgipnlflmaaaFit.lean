/-
  plan.Round of a plan that is known; plan.Fit at the wishes of the chapters' examples. Conditions: the plan's first three; at the wishes: none.
-/
import Derived.Test.YtelmgipnlflmaaaFails
namespace Go.Proofs.Ytelmgipnlflmaaa
open Go.RowKit

set_option maxHeartbeats 400000 in
theorem known_any (p : Plan) (h : p.Known) (w : World) :
    Calls Try.prog 46 #[planV p] w fun e w' => e = .returned (.bool true) ∧ Grow w w' := by
  have h1 := nodes_any p
  have h2 := air_any p
  have h3 := slot_any p
  rw [decide_eq_true h.c1] at h1
  rw [decide_eq_true h.c2] at h2
  rw [decide_eq_true h.c3] at h3
  have H1 := Lib.hid h1
  have H2 := Lib.hid h2
  have H3 := Lib.hid h3
  clear h1 h2 h3 h
  go_enter Try.func46, Try.ntmps46
  have hr0 := row_new w (.cells (planC p) 82)
  go_wp2_with (first | (go_at_call 72; refine (H1.out _).mono ?_; rintro e w1 ⟨rfl, hg1⟩; have hr1 := hg1.row hr0) | (go_at_call 73; refine (H2.out _).mono ?_; rintro e w2 ⟨rfl, hg2⟩; have hr2 := hg2.row hr1) | (go_at_call 74; refine (H3.out _).mono ?_; rintro e w3 ⟨rfl, hg3⟩) | (refine wpList_isload 82 _ rfl ?_; refine wpList_load_rowg 82 _ rfl rfl _ rfl _ _ _ _ (by first | exact row_new _ _ | exact row_old (row_new _ _) | exact row_old (row_old (row_new _ _)) | exact row_old (row_old (row_old (row_new _ _))) | assumption) Try.underlying82 rfl (by kernel_rfl) ?_))
  go_ret
  exact ⟨rfl, ((((Grow.refl _).alloc _).trans hg1).trans hg2).trans hg3⟩

set_option maxRecDepth 100000 in
set_option maxHeartbeats 400000 in
theorem Round_any (p : Plan) (h : p.Known) (w : World) :
    Calls Try.prog 16 #[planV p] w fun e w' => e = .returned (.int .i64 p.R) ∧ Grow w w' := by
  unfold planV planC
  go_enter Try.func16, Try.ntmps16
  go_wp2_with (first | (go_at_call 46; refine (known_any p h _).mono ?_; rintro e w1 ⟨rfl, hg1⟩; have hr1 := hg1.row (row_new _ _); simp only [World.size_alloc] at hr1) | (go_at_call 47; refine (round_any p h _).mono ?_; rintro e w2 ⟨rfl, hg2⟩) | (refine wpList_isload 82 _ rfl ?_; refine wpList_load_rowg 82 _ rfl rfl _ rfl _ _ _ _ (by first | exact row_new _ _ | exact row_old (row_new _ _) | exact row_old (row_old (row_new _ _)) | exact row_old (row_old (row_old (row_new _ _))) | assumption) Try.underlying82 rfl (by kernel_rfl) ?_) | (refine wpList_isload 23 _ rfl ?_; refine wpList_load_rowg 23 _ rfl rfl _ rfl _ _ _ _ (by first | exact row_new _ _ | exact row_old (row_new _ _) | exact row_old (row_old (row_new _ _)) | exact row_old (row_old (row_old (row_new _ _))) | assumption) Try.underlying23 rfl (by kernel_rfl) ?_))
  go_ret
  exact ⟨rfl, (((Grow.refl _).alloc _).alloc _).trans (hg1.trans hg2)⟩

theorem set_pi (p : Plan) (x : Int) : (planC p).setIfInBounds 9 (.int .i64 x) = planC { p with pi := x } := rfl
theorem set_window (p : Plan) (x : Int) : (planC p).setIfInBounds 4 (.int .i64 x) = planC { p with window := x } := rfl
theorem set_cap (p : Plan) (x : Int) : (planC p).setIfInBounds 10 (.int .i64 x) = planC { p with cap := x } := rfl
theorem set_off (p : Plan) (x : Int) : (planC p).setIfInBounds 3 (.int .i64 x) = planC { p with sendOff := x } := rfl
theorem set_delta (p : Plan) (x : Int) : (planC p).setIfInBounds 11 (.int .i64 x) = planC { p with delta := x } := rfl
theorem set_horizon (p : Plan) (x : Int) : (planC p).setIfInBounds 15 (.int .i64 x) = planC { p with horizon := x } := rfl
theorem set_slot (p : Plan) (x : Int) : (planC p).setIfInBounds 2 (.int .i64 x) = planC { p with slot := x } := rfl
theorem plan_cell {W : World} {B : Nat} {p : Plan} {t : TypeId} (h : W.heap[B]? = some (.cells (planC p) t (0, 0))) (j : Nat) (hj : j < 16) : ∃ v : Int, W.cell? ⟨B, j, none⟩ = some (.int .i64 v) := by
  rw [cell_of_row W B j _ _ _ h]
  have hk : j = 0 ∨ j = 1 ∨ j = 2 ∨ j = 3 ∨ j = 4 ∨ j = 5 ∨ j = 6 ∨ j = 7 ∨ j = 8 ∨ j = 9 ∨ j = 10 ∨ j = 11 ∨ j = 12 ∨ j = 13 ∨ j = 14 ∨ j = 15 := by omega
  rcases hk with rfl | rfl | rfl | rfl | rfl | rfl | rfl | rfl | rfl | rfl | rfl | rfl | rfl | rfl | rfl | rfl <;> exact ⟨_, rfl⟩

/-- The fields as 'least' sets them, one behind the other. -/
def Plan.s1 (p : Plan) : Plan := { p with pi := p.lPi }
def Plan.s2 (p : Plan) : Plan := { p with window := p.lWindow }
def Plan.s3 (p : Plan) : Plan := { p with cap := p.lCap }
def Plan.s4 (p : Plan) : Plan := { p with sendOff := p.lOff }
def Plan.s5 (p : Plan) : Plan := { p with delta := p.lDelta }
def Plan.s6 (p : Plan) : Plan := { p with horizon := 40 * p.R }
structure Leasts (p p1 p2 p3 p4 p5 p6 : Plan) : Prop where
  (e1 : p1 = p.s1) (e2 : p2 = p1.s2) (e3 : p3 = p2.s3) (e4 : p4 = p3.s4) (e5 : p5 = p4.s5) (e6 : p6 = p5.s6)
  (k : p.Known) (k1 : p1.Known) (k2 : p2.Known) (k3 : p3.Known) (k4 : p4.Known) (k5 : p5.Known) (k6 : p6.Known)
  (a1 : p1.c4) (a3 : p3.c4) (a4 : p4.c4) (b3 : p3.c5) (b4 : p4.c9) (c3 : p3.c6)

theorem row_store {W : World} {B j : Nat} {p q : Plan} {x : Int} {t : TypeId} (h : W.heap[B]? = some (.cells (planC p) t (0, 0))) (he : (planC p).setIfInBounds j (.int .i64 x) = planC q) : (W.setCell ⟨B, j, none⟩ (.int .i64 x)).heap[B]? = some (.cells (planC q) t (0, 0)) := by
  rw [← he]
  exact setCell_row h _

set_option maxRecDepth 100000 in
set_option maxHeartbeats 1000000 in
theorem least_any (p p1 p2 p3 p4 p5 p6 : Plan) (h : Leasts p p1 p2 p3 p4 p5 p6) (B : Nat) (w : World) (hrow : w.heap[B]? = some (.cells (planC p) 82)) :
    Calls Try.prog 81 #[.pointer (some ⟨B, 0, none⟩)] w fun e w' => e = .returned (.tuple #[]) ∧ w'.heap[B]? = some (Obj.cells (planC p6) 82) ∧ Turns B w w' := by
  obtain ⟨rfl, e2, e3, e4, e5, e6, k, k1, k2, k3, k4, k5, k6, a1, a3, a4, b3, b4, c3⟩ := h
  have hp1 : (planC p).setIfInBounds 9 (.int .i64 p.lPi) = planC p.s1 := set_pi p _
  have hp2 : (planC p.s1).setIfInBounds 4 (.int .i64 p.s1.lWindow) = planC p2 := by rw [e2]; exact set_window p.s1 _
  have hp3 : (planC p2).setIfInBounds 10 (.int .i64 p2.lCap) = planC p3 := by rw [e3]; exact set_cap p2 _
  have hp4 : (planC p3).setIfInBounds 3 (.int .i64 p3.lOff) = planC p4 := by rw [e4]; exact set_off p3 _
  have hp5 : (planC p4).setIfInBounds 11 (.int .i64 p4.lDelta) = planC p5 := by rw [e5]; exact set_delta p4 _
  have hp6 : (planC p5).setIfInBounds 15 (.int .i64 (40 * p5.R)) = planC p6 := by rw [e6]; exact set_horizon p5 _
  have hR := R_bd k5
  have w1 := iw (40 * p5.R) (by omega) (by omega)
  have H1 := Lib.hid hp1
  have H2 := Lib.hid hp2
  have H3 := Lib.hid hp3
  have H4 := Lib.hid hp4
  have H5 := Lib.hid hp5
  have H6 := Lib.hid hp6
  generalize p.s1 = q1 at *
  clear hp1 hp2 hp3 hp4 hp5 hp6 e2 e3 e4 e5 e6
  go_enter Try.func81, Try.ntmps81
  go_wp2_with (first
    | (go_at_call 102; refine (lPi_any p k _).mono ?_; rintro e w1 ⟨rfl, hg1⟩; have hr1 := hg1.row hrow; obtain ⟨v1, hc1⟩ := plan_cell hr1 9 (by omega); have hf1 := frozen_of_row (j := 9) hr1; have hr1' := row_store hr1 H1.out)
    | (go_at_call 103; refine (lWindow_any q1 k1 a1 _).mono ?_; rintro e w2 ⟨rfl, hg2⟩; have hr2 := hg2.row hr1'; obtain ⟨v2, hc2⟩ := plan_cell hr2 4 (by omega); have hf2 := frozen_of_row (j := 4) hr2; have hr2' := row_store hr2 H2.out)
    | (go_at_call 104; refine (lCap_any p2 k2 _).mono ?_; rintro e w3 ⟨rfl, hg3⟩; have hr3 := hg3.row hr2'; obtain ⟨v3, hc3⟩ := plan_cell hr3 10 (by omega); have hf3 := frozen_of_row (j := 10) hr3; have hr3' := row_store hr3 H3.out)
    | (go_at_call 105; refine (lOff_any p3 k3 a3 b3 c3 _).mono ?_; rintro e w4 ⟨rfl, hg4⟩; have hr4 := hg4.row hr3'; obtain ⟨v4, hc4⟩ := plan_cell hr4 3 (by omega); have hf4 := frozen_of_row (j := 3) hr4; have hr4' := row_store hr4 H4.out)
    | (go_at_call 106; refine (lDelta_any p4 k4 a4 b4 _).mono ?_; rintro e w5 ⟨rfl, hg5⟩; have hr5 := hg5.row hr4'; obtain ⟨v5, hc5⟩ := plan_cell hr5 11 (by omega); have hf5 := frozen_of_row (j := 11) hr5; have hr5' := row_store hr5 H5.out)
    | (go_at_call 47; refine (round_any p5 k5 _).mono ?_; rintro e w6 ⟨rfl, hg6⟩; have hr6 := hg6.row hr5'; obtain ⟨v6, hc6⟩ := plan_cell hr6 15 (by omega); have hf6 := frozen_of_row (j := 15) hr6; have hr6' := row_store hr6 H6.out)
    | (refine wpList_isload 82 _ rfl ?_; refine wpList_load_rowg 82 _ rfl rfl _ rfl _ _ _ _ (by first | exact row_new _ _ | exact row_old (row_new _ _) | exact row_old (row_old (row_new _ _)) | exact row_old (row_old (row_old (row_new _ _))) | assumption) Try.underlying82 rfl (by kernel_rfl) ?_))
  go_end0
  refine ⟨rfl, hr6', ?_⟩
  exact (((((((((((Turns.of_grow hg1).trans (Turns.set (p := ⟨B, 9, none⟩) rfl _)).trans (Turns.of_grow hg2)).trans (Turns.set (p := ⟨B, 4, none⟩) rfl _)).trans (Turns.of_grow hg3)).trans (Turns.set (p := ⟨B, 10, none⟩) rfl _)).trans (Turns.of_grow hg4)).trans (Turns.set (p := ⟨B, 3, none⟩) rfl _)).trans (Turns.of_grow hg5)).trans (Turns.set (p := ⟨B, 11, none⟩) rfl _)).trans (Turns.of_grow hg6)).trans (Turns.set (p := ⟨B, 15, none⟩) rfl _)
end Go.Proofs.Ytelmgipnlflmaaa
