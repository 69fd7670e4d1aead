/-
  Package table: whether a plan has a place, how long a node listens and waits. Conditions: those that stand ahead of each.
-/
import Derived.Test.YtelmgipnlflmaaaFit
namespace Go.Proofs.Ytelmgipnlflmaaa
open Go.RowKit

def Plan.has (p : Plan) (r s : Int) : Prop := p.Ok ∧ 0 ≤ r ∧ r ≤ 2147483647 ∧ 0 ≤ s ∧ s < p.nodes
instance (p : Plan) (r s : Int) : Decidable (p.has r s) := by unfold Plan.has; infer_instance

set_option maxHeartbeats 400000 in
theorem has_yes (p : Plan) (r s : Int) (h : p.has r s) (w : World) :
    Calls Try.prog 77 #[planV p, .agg #[.int .i64 r, .int .i64 s]] w fun e w' => e = .returned (.bool true) ∧ Grow w w' := by
  obtain ⟨h0, h1, h2, h3, h4⟩ := h
  have hC := Lib.hid (check_ok p h0)
  clear h0
  have hr0 := row_old (o' := .cells #[.int .i64 r, .int .i64 s] 52) (row_new w (.cells (planC p) 23))
  have hp0 := row_new (w.alloc (.cells (planC p) 23)) (.cells #[.int .i64 r, .int .i64 s] 52)
  simp only [World.size_alloc] at hp0
  go_enter Try.func77, Try.ntmps77
  go_wp2_with (first | (go_at_call 14; refine (hC.out _).mono ?_; rintro e w1 ⟨rfl, hg⟩; have hn : w1.cell? ⟨w.heap.size, 0, none⟩ = some (.int .i64 p.nodes) := cell_of_row w1 _ 0 _ _ _ (hg.row hr0); have hp1 : w1.cell? ⟨w.heap.size + 1, 0, none⟩ = some (.int .i64 r) := cell_of_row w1 _ 0 _ _ _ (hg.row hp0); have hp2 : w1.cell? ⟨w.heap.size + 1, 1, none⟩ = some (.int .i64 s) := cell_of_row w1 _ 1 _ _ _ (hg.row hp0)) | (refine wpList_isload 23 _ rfl ?_; refine wpList_load_rowg 23 _ rfl rfl _ rfl _ _ _ _ (by first | exact row_new _ _ | exact row_old (row_new _ _) | exact row_old (row_old (row_new _ _)) | exact row_old (row_old (row_old (row_new _ _))) | assumption) Try.underlying23 rfl (by kernel_rfl) ?_))
  go_ret
  exact ⟨rfl, (((Grow.refl _).alloc _).alloc _).trans hg⟩
set_option maxHeartbeats 400000 in
theorem has_no0 (p : Plan) (r s : Int) (h : ¬ p.Ok) (w : World) :
    Calls Try.prog 77 #[planV p, .agg #[.int .i64 r, .int .i64 s]] w fun e w' => e = .returned (.bool false) ∧ Grow w w' := by
  have hC := Lib.hid (check_no p h)
  clear h
  go_enter Try.func77, Try.ntmps77
  go_wp2_with (first | (go_at_call 14; refine (hC.out _).mono ?_; rintro e w1 ⟨rfl, hg⟩; obtain ⟨hc, hf⟩ := hg.cells) | (refine wpList_isload 23 _ rfl ?_; refine wpList_load_rowg 23 _ rfl rfl _ rfl _ _ _ _ (by first | exact row_new _ _ | exact row_old (row_new _ _) | exact row_old (row_old (row_new _ _)) | exact row_old (row_old (row_old (row_new _ _))) | assumption) Try.underlying23 rfl (by kernel_rfl) ?_))
  go_ret
  exact ⟨rfl, (((Grow.refl _).alloc _).alloc _).trans hg⟩
set_option maxHeartbeats 400000 in
theorem has_no1 (p : Plan) (r s : Int) (h0 : p.Ok) (h : ¬ 0 ≤ r) (w : World) :
    Calls Try.prog 77 #[planV p, .agg #[.int .i64 r, .int .i64 s]] w fun e w' => e = .returned (.bool false) ∧ Grow w w' := by
  have hC := Lib.hid (check_ok p h0)
  clear h0
  go_enter Try.func77, Try.ntmps77
  go_wp2_with (first | (go_at_call 14; refine (hC.out _).mono ?_; rintro e w1 ⟨rfl, hg⟩; obtain ⟨hc, hf⟩ := hg.cells) | (refine wpList_isload 23 _ rfl ?_; refine wpList_load_rowg 23 _ rfl rfl _ rfl _ _ _ _ (by first | exact row_new _ _ | exact row_old (row_new _ _) | exact row_old (row_old (row_new _ _)) | exact row_old (row_old (row_old (row_new _ _))) | assumption) Try.underlying23 rfl (by kernel_rfl) ?_))
  go_ret
  exact ⟨rfl, (((Grow.refl _).alloc _).alloc _).trans hg⟩
set_option maxHeartbeats 400000 in
theorem has_no2 (p : Plan) (r s : Int) (h0 : p.Ok) (h1 : 0 ≤ r) (h : ¬ r ≤ 2147483647) (w : World) :
    Calls Try.prog 77 #[planV p, .agg #[.int .i64 r, .int .i64 s]] w fun e w' => e = .returned (.bool false) ∧ Grow w w' := by
  have hC := Lib.hid (check_ok p h0)
  clear h0
  go_enter Try.func77, Try.ntmps77
  go_wp2_with (first | (go_at_call 14; refine (hC.out _).mono ?_; rintro e w1 ⟨rfl, hg⟩; obtain ⟨hc, hf⟩ := hg.cells) | (refine wpList_isload 23 _ rfl ?_; refine wpList_load_rowg 23 _ rfl rfl _ rfl _ _ _ _ (by first | exact row_new _ _ | exact row_old (row_new _ _) | exact row_old (row_old (row_new _ _)) | exact row_old (row_old (row_old (row_new _ _))) | assumption) Try.underlying23 rfl (by kernel_rfl) ?_))
  go_ret
  exact ⟨rfl, (((Grow.refl _).alloc _).alloc _).trans hg⟩
set_option maxHeartbeats 400000 in
theorem has_no3 (p : Plan) (r s : Int) (h0 : p.Ok) (h1 : 0 ≤ r) (h2 : r ≤ 2147483647) (h : ¬ 0 ≤ s) (w : World) :
    Calls Try.prog 77 #[planV p, .agg #[.int .i64 r, .int .i64 s]] w fun e w' => e = .returned (.bool false) ∧ Grow w w' := by
  have hC := Lib.hid (check_ok p h0)
  clear h0
  go_enter Try.func77, Try.ntmps77
  go_wp2_with (first | (go_at_call 14; refine (hC.out _).mono ?_; rintro e w1 ⟨rfl, hg⟩; obtain ⟨hc, hf⟩ := hg.cells) | (refine wpList_isload 23 _ rfl ?_; refine wpList_load_rowg 23 _ rfl rfl _ rfl _ _ _ _ (by first | exact row_new _ _ | exact row_old (row_new _ _) | exact row_old (row_old (row_new _ _)) | exact row_old (row_old (row_old (row_new _ _))) | assumption) Try.underlying23 rfl (by kernel_rfl) ?_))
  go_ret
  exact ⟨rfl, (((Grow.refl _).alloc _).alloc _).trans hg⟩
set_option maxHeartbeats 400000 in
theorem has_no4 (p : Plan) (r s : Int) (h0 : p.Ok) (h1 : 0 ≤ r) (h2 : r ≤ 2147483647) (h3 : 0 ≤ s) (h : ¬ s < p.nodes) (w : World) :
    Calls Try.prog 77 #[planV p, .agg #[.int .i64 r, .int .i64 s]] w fun e w' => e = .returned (.bool false) ∧ Grow w w' := by
  have hC := Lib.hid (check_ok p h0)
  clear h0
  have hr0 := row_old (o' := .cells #[.int .i64 r, .int .i64 s] 52) (row_new w (.cells (planC p) 23))
  have hp0 := row_new (w.alloc (.cells (planC p) 23)) (.cells #[.int .i64 r, .int .i64 s] 52)
  simp only [World.size_alloc] at hp0
  go_enter Try.func77, Try.ntmps77
  go_wp2_with (first | (go_at_call 14; refine (hC.out _).mono ?_; rintro e w1 ⟨rfl, hg⟩; have hn : w1.cell? ⟨w.heap.size, 0, none⟩ = some (.int .i64 p.nodes) := cell_of_row w1 _ 0 _ _ _ (hg.row hr0); have hp1 : w1.cell? ⟨w.heap.size + 1, 0, none⟩ = some (.int .i64 r) := cell_of_row w1 _ 0 _ _ _ (hg.row hp0); have hp2 : w1.cell? ⟨w.heap.size + 1, 1, none⟩ = some (.int .i64 s) := cell_of_row w1 _ 1 _ _ _ (hg.row hp0)) | (refine wpList_isload 23 _ rfl ?_; refine wpList_load_rowg 23 _ rfl rfl _ rfl _ _ _ _ (by first | exact row_new _ _ | exact row_old (row_new _ _) | exact row_old (row_old (row_new _ _)) | exact row_old (row_old (row_old (row_new _ _))) | assumption) Try.underlying23 rfl (by kernel_rfl) ?_))
  go_ret
  exact ⟨ret_bool (by simp; omega), (((Grow.refl _).alloc _).alloc _).trans hg⟩
theorem has_no (p : Plan) (r s : Int) (h : ¬ p.has r s) (w : World) :
    Calls Try.prog 77 #[planV p, .agg #[.int .i64 r, .int .i64 s]] w fun e w' => e = .returned (.bool false) ∧ Grow w w' := by
  by_cases h0 : p.Ok
  · by_cases h1 : 0 ≤ r
    · by_cases h2 : r ≤ 2147483647
      · by_cases h3 : 0 ≤ s
        · by_cases h4 : s < p.nodes
          · exact (h ⟨h0, h1, h2, h3, h4⟩).elim
          · exact has_no4 p r s h0 h1 h2 h3 h4 w
        · exact has_no3 p r s h0 h1 h2 h3 w
      · exact has_no2 p r s h0 h1 h2 w
    · exact has_no1 p r s h0 h1 w
  · exact has_no0 p r s h0 w

theorem slot_bd {p : Plan} (h : p.Ok) : 446 ≤ p.slot ∧ p.slot ≤ 1048576 := by
  have := h.c3
  have h8 := h.c8
  have := off_bd h.known h.c4 h.c5 h.c6 h.c7
  have := pi_bd h.known h.c4
  have := window_bd h.known h.c4 h.c5
  have := cap_bd h.known h.c6
  have := h.c2
  unfold Plan.c8 Plan.lSlot at h8
  unfold Plan.c3 at *
  unfold Plan.c2 at *
  omega
theorem node_bd {p : Plan} (h : p.Ok) (n : Int) (h0 : 0 ≤ n) (h1 : n < p.nodes) : 0 ≤ n * p.slot ∧ n * p.slot ≤ 16777216 := by
  have hs := slot_bd h
  have hn := h.c1
  unfold Plan.c1 at hn
  constructor
  · exact Int.mul_nonneg h0 (by omega)
  · exact Int.le_trans (Int.mul_le_mul (show n ≤ 16 by omega) hs.2 (by omega) (by omega)) (by omega)

set_option maxHeartbeats 400000 in
theorem time_wait (p : Plan) (n : Int) (h : p.Ok) (h0 : 0 ≤ n) (h1 : n < p.nodes) (w : World) :
    Calls Try.prog 64 #[planV p, .int .i64 n, .int .i64 1] w fun e w' => e = .returned (.tuple #[.int .i64 (n * p.slot + p.R), .int .i64 0]) ∧ Grow w w' := by
  have hb := node_bd h n h0 h1
  have hR := R_bd h.known
  have hH := Lib.hid (has_yes p 0 n ⟨h, by omega, by omega, h0, h1⟩)
  have hRd := Lib.hid (Round_any p h.known)
  obtain ⟨b1, b2⟩ := hb
  obtain ⟨b3, b4⟩ := hR
  clear h
  go_enter Try.func64, Try.ntmps64
  have hr0 := row_new w (.cells (planC p) 23)
  go_wp2_with (first
    | (go_at_call 77; refine (hH.out _).mono ?_; rintro e w1 ⟨rfl, hg⟩; have hr1 := hg.row hr0; have hn : w1.cell? ⟨w.heap.size, 2, none⟩ = some (.int .i64 p.slot) := cell_of_row w1 _ 2 _ _ _ hr1)
    | (go_at_call 16; refine (hRd.out _).mono ?_; rintro e w2 ⟨rfl, hg2⟩) | (refine wpList_isload 23 _ rfl ?_; refine wpList_load_rowg 23 _ rfl rfl _ rfl _ _ _ _ (by first | exact row_new _ _ | exact row_old (row_new _ _) | exact row_old (row_old (row_new _ _)) | exact row_old (row_old (row_old (row_new _ _))) | assumption) Try.underlying23 rfl (by kernel_rfl) ?_))
  go_ret2
  exact ⟨rfl, (((Grow.refl _).alloc _).trans hg).trans hg2⟩
set_option maxHeartbeats 400000 in
theorem time_listen (p : Plan) (n : Int) (h : p.Ok) (h0 : 0 ≤ n) (h1 : n < p.nodes) (w : World) :
    Calls Try.prog 64 #[planV p, .int .i64 n, .int .i64 0] w fun e w' => e = .returned (.tuple #[.int .i64 (n * p.slot + 2 * p.R + p.R), .int .i64 0]) ∧ Grow w w' := by
  have hb := node_bd h n h0 h1
  have hR := R_bd h.known
  have hH := Lib.hid (has_yes p 0 n ⟨h, by omega, by omega, h0, h1⟩)
  have hRd := Lib.hid (Round_any p h.known)
  obtain ⟨b1, b2⟩ := hb
  obtain ⟨b3, b4⟩ := hR
  clear h
  go_enter Try.func64, Try.ntmps64
  have hr0 := row_new w (.cells (planC p) 23)
  go_wp2_with (first
    | (go_at_call 77; refine (hH.out _).mono ?_; rintro e w1 ⟨rfl, hg⟩; have hr1 := hg.row hr0; have hn : w1.cell? ⟨w.heap.size, 2, none⟩ = some (.int .i64 p.slot) := cell_of_row w1 _ 2 _ _ _ hr1; have tok := Lib.hid hr1)
    | (go_at_call 16; have tk := tok; clear tok; refine (hRd.out _).mono ?_; rintro e w2 ⟨rfl, hg2⟩; have hr2 := hg2.row hr1)
    | (go_at_call 16; refine (hRd.out _).mono ?_; rintro e w3 ⟨rfl, hg3⟩) | (refine wpList_isload 23 _ rfl ?_; refine wpList_load_rowg 23 _ rfl rfl _ rfl _ _ _ _ (by first | exact row_new _ _ | exact row_old (row_new _ _) | exact row_old (row_old (row_new _ _)) | exact row_old (row_old (row_old (row_new _ _))) | assumption) Try.underlying23 rfl (by kernel_rfl) ?_))
  go_ret2
  exact ⟨rfl, ((((Grow.refl _).alloc _).trans hg).trans hg2).trans hg3⟩
set_option maxHeartbeats 400000 in
theorem wait_any (p : Plan) (n : Int) (h : p.Ok) (h0 : 0 ≤ n) (h1 : n < p.nodes) (w : World) :
    Calls Try.prog 36 #[planV p, .int .i64 n] w fun e w' => e = .returned (.tuple #[.int .i64 (n * p.slot + p.R), .int .i64 0]) ∧ Grow w w' := by
  have hT := Lib.hid (time_wait p n h h0 h1)
  clear h h0 h1
  go_enter Try.func36, Try.ntmps36
  go_wp2_with (first | (go_at_call 64; refine (hT.out _).mono ?_; rintro e w1 ⟨rfl, hg⟩) | (refine wpList_isload 23 _ rfl ?_; refine wpList_load_rowg 23 _ rfl rfl _ rfl _ _ _ _ (by first | exact row_new _ _ | exact row_old (row_new _ _) | exact row_old (row_old (row_new _ _)) | exact row_old (row_old (row_old (row_new _ _))) | assumption) Try.underlying23 rfl (by kernel_rfl) ?_))
  go_ret2
  exact ⟨rfl, ((Grow.refl _).alloc _).trans hg⟩
set_option maxHeartbeats 400000 in
theorem listen_any (p : Plan) (n : Int) (h : p.Ok) (h0 : 0 ≤ n) (h1 : n < p.nodes) (w : World) :
    Calls Try.prog 35 #[planV p, .int .i64 n] w fun e w' => e = .returned (.tuple #[.int .i64 (n * p.slot + 2 * p.R + p.R), .int .i64 0]) ∧ Grow w w' := by
  have hT := Lib.hid (time_listen p n h h0 h1)
  clear h h0 h1
  go_enter Try.func35, Try.ntmps35
  go_wp2_with (first | (go_at_call 64; refine (hT.out _).mono ?_; rintro e w1 ⟨rfl, hg⟩) | (refine wpList_isload 23 _ rfl ?_; refine wpList_load_rowg 23 _ rfl rfl _ rfl _ _ _ _ (by first | exact row_new _ _ | exact row_old (row_new _ _) | exact row_old (row_old (row_new _ _)) | exact row_old (row_old (row_old (row_new _ _))) | assumption) Try.underlying23 rfl (by kernel_rfl) ?_))
  go_ret2
  exact ⟨rfl, ((Grow.refl _).alloc _).trans hg⟩
end Go.Proofs.Ytelmgipnlflmaaa
