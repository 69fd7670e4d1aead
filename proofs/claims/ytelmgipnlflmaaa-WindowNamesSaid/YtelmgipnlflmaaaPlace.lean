/-
  Package table: Of; package window: Place. Conditions: those that stand ahead of each.
-/
import Derived.Test.YtelmgipnlflmaaaWindow
import Derived.Test.YtelmgipnlflmaaaTail
namespace Go.Proofs.Ytelmgipnlflmaaa
open Go.RowKit

/-- A plan that may be has a place at that reading. -/
def Plan.timed (p : Plan) (x : Int) : Prop := p.Ok ∧ 0 ≤ x ∧ x ≤ 2147483647 * p.R
instance (p : Plan) (x : Int) : Decidable (p.timed x) := by unfold Plan.timed; infer_instance
def Plan.pr (p : Plan) (x : Int) : Int := x / p.slot / p.nodes
def Plan.ps (p : Plan) (x : Int) : Int := x / p.slot % p.nodes
theorem timed_bd {p : Plan} {x : Int} (h : p.timed x) : x ≤ 36028797018963968 ∧ 0 ≤ x / p.slot ∧ x / p.slot ≤ x ∧ p.has (p.pr x) (p.ps x) := by
  obtain ⟨h0, h1, h2⟩ := h
  have hR := R_bd h0.known
  have hs := slot_bd h0
  have hn := h0.c1
  unfold Plan.c1 at hn
  have a1 : 0 ≤ x / p.slot := Int.ediv_nonneg h1 (by omega)
  have a2 : x / p.slot ≤ x := Int.ediv_le_self _ h1
  have e : p.pr x = x / (p.slot * p.nodes) := by
    unfold Plan.pr
    rw [Int.ediv_ediv, if_neg (fun hh => absurd hh.1 (by omega)), Int.sub_zero]
  have e2 : p.slot * p.nodes = p.R := by unfold Plan.R; rw [Int.mul_comm]
  refine ⟨by omega, a1, a2, h0, ?_, ?_, ?_, ?_⟩
  · unfold Plan.pr
    exact Int.ediv_nonneg a1 (by omega)
  · rw [e, e2]
    exact Int.ediv_le_of_le_mul (by omega) h2
  · unfold Plan.ps
    exact Int.emod_nonneg _ (by omega)
  · unfold Plan.ps
    exact Int.emod_lt_of_pos _ (by omega)
theorem of_zero_place (w : World) (p : Plan) : ((w.alloc (.cells (planC p) 23)).alloc (.cells #[.int .i64 0, .int .i64 0] 52)).heap[w.heap.size + 1]? = some (.cells #[.int .i64 0, .int .i64 0] 52) := by
  have := row_new (w.alloc (.cells (planC p) 23)) (.cells #[.int .i64 0, .int .i64 0] 52)
  simpa using this
set_option maxRecDepth 100000 in
set_option maxHeartbeats 1000000 in
theorem Of_no0 (p : Plan) (x : Int) (h : ¬ p.Ok) (w : World) :
    Calls Try.prog 55 #[planV p, .int .i64 x] w fun e w' => e = .returned (.tuple #[placeV 0 0, .int .i64 90]) ∧ Grow w w' := by
  have hC := Lib.hid (check_no p h)
  have hr0 := row_old (o' := .cells #[.int .i64 0, .int .i64 0] 52) (row_new w (.cells (planC p) 23))
  have hz0 := of_zero_place w p
  clear h
  go_enter Try.func55, Try.ntmps55
  go_wp2_with (first
    | (go_at_call 14; refine (hC.out _).mono ?_; rintro e w1 ⟨rfl, hg⟩; have hr1 := hg.row hr0; have hz1 := hg.row hz0)
    | (refine wpList_isstore 52 _ _ rfl ?_; refine wpList_store_row rfl 52 _ _ rfl (w.heap.size + 1) #[.int .i64 0, .int .i64 0] rfl rfl 52 _ hz1 (by kernel_rfl) rfl (by kernel_rfl) ?_)
    | (refine wpList_isload 23 _ rfl ?_; refine wpList_load_rowg 23 _ rfl rfl _ rfl _ _ _ _ (by first | (with_reducible first | exact hr1 | exact hr0) | exact row_new _ _ | exact row_old (row_new _ _)) Try.underlying23 rfl (by kernel_rfl) ?_))
  have hres := results_cell_tmp (P := Try.prog) (fn := Try.f55) (p := 4) (q := 5) (ty := 52) rfl
  refine bodyPost_ret (v := .tuple #[placeV 0 0, .int .i64 90]) ?_ rfl ⟨rfl, ?_⟩
  · exact hres _ _ (w.heap.size + 1) _ #[.int .i64 0, .int .i64 0] _ _ rfl (setRow_heap _ _ _ _ _ _ hz1) Try.underlying52 rfl (by kernel_rfl)
  · exact ((((Grow.refl _).alloc _).alloc _).trans hg).setRow (by omega) _
set_option maxRecDepth 100000 in
set_option maxHeartbeats 1000000 in
theorem Of_no1 (p : Plan) (x : Int) (h : p.Ok) (hx : x < 0) (w : World) :
    Calls Try.prog 55 #[planV p, .int .i64 x] w fun e w' => e = .returned (.tuple #[placeV 0 0, .int .i64 90]) ∧ Grow w w' := by
  have hC := Lib.hid (check_ok p h)
  have hr0 := row_old (o' := .cells #[.int .i64 0, .int .i64 0] 52) (row_new w (.cells (planC p) 23))
  have hz0 := of_zero_place w p
  clear h
  go_enter Try.func55, Try.ntmps55
  go_wp2_with (first
    | (go_at_call 14; refine (hC.out _).mono ?_; rintro e w1 ⟨rfl, hg⟩; have hr1 := hg.row hr0; have hz1 := hg.row hz0)
    | (refine wpList_isstore 52 _ _ rfl ?_; refine wpList_store_row rfl 52 _ _ rfl (w.heap.size + 1) #[.int .i64 0, .int .i64 0] rfl rfl 52 _ hz1 (by kernel_rfl) rfl (by kernel_rfl) ?_)
    | (refine wpList_isload 23 _ rfl ?_; refine wpList_load_rowg 23 _ rfl rfl _ rfl _ _ _ _ (by first | (with_reducible first | exact hr1 | exact hr0) | exact row_new _ _ | exact row_old (row_new _ _)) Try.underlying23 rfl (by kernel_rfl) ?_))
  have hres := results_cell_tmp (P := Try.prog) (fn := Try.f55) (p := 4) (q := 5) (ty := 52) rfl
  refine bodyPost_ret (v := .tuple #[placeV 0 0, .int .i64 90]) ?_ rfl ⟨rfl, ?_⟩
  · exact hres _ _ (w.heap.size + 1) _ #[.int .i64 0, .int .i64 0] _ _ rfl (setRow_heap _ _ _ _ _ _ hz1) Try.underlying52 rfl (by kernel_rfl)
  · exact ((((Grow.refl _).alloc _).alloc _).trans hg).setRow (by omega) _
set_option maxRecDepth 100000 in
set_option maxHeartbeats 1000000 in
theorem Of_no2 (p : Plan) (x : Int) (h : p.Ok) (hx : 0 ≤ x) (hy : 2147483647 * p.R < x) (w : World) :
    Calls Try.prog 55 #[planV p, .int .i64 x] w fun e w' => e = .returned (.tuple #[placeV 0 0, .int .i64 90]) ∧ Grow w w' := by
  have hC := Lib.hid (check_ok p h)
  have hRd := Lib.hid (Round_any p h.known)
  have hR := R_bd h.known
  have q0 := iw (2147483647 * p.R) (by omega) (by omega)
  have hd0 : decide (x < 0) = false := by simp; omega
  have hr0 := row_old (o' := .cells #[.int .i64 0, .int .i64 0] 52) (row_new w (.cells (planC p) 23))
  have hz0 := of_zero_place w p
  clear h
  go_enter Try.func55, Try.ntmps55
  go_wp2_with (first
    | (go_at_call 14; refine (hC.out _).mono ?_; rintro e w1 ⟨rfl, hg⟩; have hr1 := hg.row hr0; have hz1 := hg.row hz0)
    | (go_at_call 16; refine (hRd.out _).mono ?_; rintro e w2 ⟨rfl, hg2⟩; have hz2 := hg2.row hz1)
    | (refine wpList_isstore 52 _ _ rfl ?_; refine wpList_store_row rfl 52 _ _ rfl (w.heap.size + 1) #[.int .i64 0, .int .i64 0] rfl rfl 52 _ hz2 (by kernel_rfl) rfl (by kernel_rfl) ?_)
    | (refine wpList_isload 23 _ rfl ?_; refine wpList_load_rowg 23 _ rfl rfl _ rfl _ _ _ _ (by first | (with_reducible first | exact hr1 | exact hr0) | exact row_new _ _ | exact row_old (row_new _ _)) Try.underlying23 rfl (by kernel_rfl) ?_))
  have hres := results_cell_tmp (P := Try.prog) (fn := Try.f55) (p := 4) (q := 5) (ty := 52) rfl
  refine bodyPost_ret (v := .tuple #[placeV 0 0, .int .i64 90]) ?_ rfl ⟨rfl, ?_⟩
  · exact hres _ _ (w.heap.size + 1) _ #[.int .i64 0, .int .i64 0] _ _ rfl (setRow_heap _ _ _ _ _ _ hz2) Try.underlying52 rfl (by kernel_rfl)
  · exact ((((Grow.refl _).alloc _).alloc _).trans (hg.trans hg2)).setRow (by omega) _
theorem Of_no (p : Plan) (x : Int) (h : ¬ p.timed x) (w : World) :
    Calls Try.prog 55 #[planV p, .int .i64 x] w fun e w' => e = .returned (.tuple #[placeV 0 0, .int .i64 90]) ∧ Grow w w' := by
  by_cases h0 : p.Ok
  · by_cases h1 : x < 0
    · exact Of_no1 p x h0 h1 w
    · exact Of_no2 p x h0 (by omega) (Int.lt_of_not_ge fun hh => h ⟨h0, by omega, hh⟩) w
  · exact Of_no0 p x h0 w
set_option maxRecDepth 100000 in
set_option maxHeartbeats 1000000 in
theorem Of_ok (p : Plan) (x : Int) (h : p.timed x) (w : World) :
    Calls Try.prog 55 #[planV p, .int .i64 x] w fun e w' => e = .returned (.tuple #[placeV (p.pr x) (p.ps x), .int .i64 0]) ∧ Grow w w' := by
  obtain ⟨t1, t2, t3, t4⟩ := timed_bd h
  obtain ⟨h0, h1, h2⟩ := h
  have hC := Lib.hid (check_ok p h0)
  have hRd := Lib.hid (Round_any p h0.known)
  have hs := slot_bd h0
  have hR := R_bd h0.known
  have hn : 4 ≤ p.nodes := h0.c1.1
  have hp1 := t4.2.1
  have hp2 := t4.2.2.1
  have hp3 := t4.2.2.2.1
  have hp4 := t4.2.2.2.2
  have hn2 : p.nodes ≤ 16 := h0.c1.2.1
  unfold Plan.pr Plan.ps at *
  have q0 := iw (2147483647 * p.R) (by omega) (by omega)
  have hd0 : decide (x < 0) = false := by simp; omega
  have q1 := quo_of x p.slot h1
  have q2 := iw (x / p.slot) (by omega) (by omega)
  have q3 := quo_of (x / p.slot) p.nodes t2
  have q4 := iw (x / p.slot / p.nodes) (by omega) (by omega)
  have q5 : (x / p.slot).tmod p.nodes = x / p.slot % p.nodes := Int.tmod_eq_emod_of_nonneg t2
  have q6 := iw (x / p.slot % p.nodes) (by omega) (by omega)
  have q7 : ¬ p.slot = 0 := by omega
  have q8 : ¬ p.nodes = 0 := by omega
  have hr0 := row_old (o' := .cells #[.int .i64 0, .int .i64 0] 52) (row_new w (.cells (planC p) 23))
  have hz0 := of_zero_place w p
  clear h0 hs hR hn hn2 hp1 hp2 hp3 hp4 t1 t2 t3 t4
  go_enter Try.func55, Try.ntmps55
  go_wp2_with (first
    | (go_at_call 14; refine (hC.out _).mono ?_; rintro e w1 ⟨rfl, hg⟩; have hr1 := hg.row hr0; have hz1 := hg.row hz0)
    | (go_at_call 16; refine (hRd.out _).mono ?_; rintro e w2 ⟨rfl, hg2⟩; have hr2 := hg2.row hr1; have hz2 := hg2.row hz1; have k2 : w2.cell? ⟨w.heap.size, 2, none⟩ = some (.int .i64 p.slot) := cell_of_row w2 _ 2 _ _ _ hr2; have k0 : w2.cell? ⟨w.heap.size, 0, none⟩ = some (.int .i64 p.nodes) := cell_of_row w2 _ 0 _ _ _ hr2; have hzz : w.heap.size < w2.heap.size := (Array.getElem?_eq_some_iff.1 hr2).1)
    | (refine wpList_isload 23 _ rfl ?_; refine wpList_load_rowg 23 _ rfl rfl _ rfl _ _ _ _ (by first | (with_reducible first | exact hr2 | exact hr1 | exact hr0) | exact row_new _ _ | exact row_old (row_new _ _)) Try.underlying23 rfl (by kernel_rfl) ?_))
  refine wp_region_grow (by kernel_rfl) (by kernel_rfl) ?_
  repeat
    apply wpQuiet_op rfl
    · intro W hW
      first
        | (obtain ⟨hc, hf⟩ := hW.cells
           go_simp
           first
             | exact rfl
             | exact ⟨rfl, rfl⟩)
    simp only [Act.put, List.setIfInBounds_toArray, List.set_cons_zero, List.set_cons_succ]
  refine wpQuiet_nil ?_
  intro W hW
  have hz := hW.size
  obtain ⟨hc, hf⟩ := hW.cells
  have hz3 := hW.row hz2
  have hgW := (hg.trans hg2).trans hW
  clear hc hf hz hW
  go_wp2_with fail
  refine wp_region_grow_tail 7 (by kernel_rfl) (by kernel_rfl) ?_
  simp only [List.take_succ_cons, List.take_zero, List.drop_succ_cons, List.drop_zero]
  repeat
    apply wpQuiet_op rfl
    · intro W hW
      first
        | (obtain ⟨hc, hf⟩ := hW.cells
           go_simp
           first
             | exact rfl
             | exact ⟨rfl, rfl⟩)
    simp only [Act.put, List.setIfInBounds_toArray, List.set_cons_zero, List.set_cons_succ]
  refine wpQuiet_nil ?_
  intro W hW
  have hz := hW.size
  obtain ⟨hc, hf⟩ := hW.cells
  have hz4 := hW.row hz3
  go_wp2_with (refine wpList_isstore 52 _ _ rfl ?_; refine wpList_store_row rfl 52 _ _ rfl (w.heap.size + 1) #[.int .i64 (x / p.slot / p.nodes), .int .i64 (x / p.slot % p.nodes)] rfl rfl 52 _ hz4 (by kernel_rfl) rfl (by kernel_rfl) ?_)
  have hres := results_cell_tmp (P := Try.prog) (fn := Try.f55) (p := 4) (q := 5) (ty := 52) rfl
  refine bodyPost_ret (v := .tuple #[placeV (x / p.slot / p.nodes) (x / p.slot % p.nodes), .int .i64 0]) ?_ rfl ⟨rfl, ?_⟩
  · exact hres _ _ (w.heap.size + 1) _ #[.int .i64 (x / p.slot / p.nodes), .int .i64 (x / p.slot % p.nodes)] _ _ rfl (setRow_heap _ _ _ _ _ _ hz4) Try.underlying52 rfl (by kernel_rfl)
  · exact ((((Grow.refl _).alloc _).alloc _).trans (hgW.trans hW)).setRow (by omega) _
set_option maxRecDepth 100000 in
set_option maxHeartbeats 1000000 in
theorem Place_no (p : Plan) (x : Int) (h : ¬ p.timed x) (w : World) :
    Calls Try.prog 23 #[planV p, .int .i64 x] w fun e w' => e = .returned (.tuple #[placeV 0 0, .bool false]) ∧ Grow w w' := by
  have hO := Lib.hid (Of_no p x h)
  have hr0 := row_old (o' := .cells #[.int .i64 0, .int .i64 0] 52) (row_new w (.cells (planC p) 23))
  have hz0 := of_zero_place w p
  clear h
  go_enter Try.func23, Try.ntmps23
  go_wp2_with (first
    | (go_at_call 55; refine (hO.out _).mono ?_; rintro e w1 ⟨rfl, hg⟩; have hn1 := row_new w1 (.cells #[.int .i64 0, .int .i64 0] 52); have hr1 := row_old (o' := .cells #[.int .i64 0, .int .i64 0] 52) (hg.row hr0); have hz1 := row_old (o' := .cells #[.int .i64 0, .int .i64 0] 52) (hg.row hz0))
    | (refine wpList_isstore 52 _ _ rfl ?_; first
        | (refine wpList_store_row rfl 52 _ _ rfl (w.heap.size + 1) #[.int .i64 0, .int .i64 0] rfl rfl 52 _ hz1 (by kernel_rfl) rfl (by kernel_rfl) ?_)
        | (refine wpList_store_new 52 _ _ rfl rfl _ #[.int .i64 0, .int .i64 0] _ _ rfl rfl (by kernel_rfl) rfl (by kernel_rfl) ?_))
    | (refine wpList_isload 23 _ rfl ?_; refine wpList_load_rowg 23 _ rfl rfl _ rfl _ _ _ _ (by first | (with_reducible first | exact hr1 | exact hr0) | exact row_new _ _ | exact row_old (row_new _ _)) Try.underlying23 rfl (by kernel_rfl) ?_) | (refine wpList_isload 52 _ rfl ?_; refine wpList_load_rowg 52 _ rfl rfl _ rfl _ _ _ _ (by first | (with_reducible first | exact hn2 | exact hn1) | exact row_new _ _ | exact row_old (row_new _ _)) Try.underlying52 rfl (by kernel_rfl) ?_))
  have hres := results_cell_tmp (P := Try.prog) (fn := Try.f23) (p := 4) (q := 5) (ty := 52) rfl
  refine bodyPost_ret (v := .tuple #[placeV 0 0, .bool false]) ?_ rfl ⟨rfl, ?_⟩
  · exact hres _ _ (w.heap.size + 1) _ #[.int .i64 0, .int .i64 0] _ _ rfl (setRow_heap _ _ _ _ _ _ hz1) Try.underlying52 rfl (by kernel_rfl)
  · exact (((((Grow.refl _).alloc _).alloc _).trans hg).alloc _).setRow (by omega) _
set_option maxRecDepth 100000 in
set_option maxHeartbeats 1000000 in
theorem Place_out (p : Plan) (x : Int) (h : p.timed x) (hv : (verd (p.exp (p.pr x) (p.ps x) - p.window) (p.exp (p.pr x) (p.ps x) + p.window) x == 2) = false) (w : World) :
    Calls Try.prog 23 #[planV p, .int .i64 x] w fun e w' => e = .returned (.tuple #[placeV 0 0, .bool false]) ∧ Grow w w' := by
  have hO := Lib.hid (Of_ok p x h)
  obtain ⟨t1, _, _, t4⟩ := timed_bd h
  have hJ := Judge_in p (p.pr x) (p.ps x) x t4 (mayB_iff.2 ⟨by have := h.2.1; omega, by omega⟩)
  generalize verd (p.exp (p.pr x) (p.ps x) - p.window) (p.exp (p.pr x) (p.ps x) + p.window) x = vd at *
  have HJ := Lib.hid hJ
  have hv2 : (vd != 2) = true := by simp [bne, hv]
  clear hJ t1 t4
  have hr0 := row_old (o' := .cells #[.int .i64 0, .int .i64 0] 52) (row_new w (.cells (planC p) 23))
  have hz0 := of_zero_place w p
  clear h
  go_enter Try.func23, Try.ntmps23
  go_wp2_with (first
    | (go_at_call 55; refine (hO.out _).mono ?_; rintro e w1 ⟨rfl, hg⟩; have hn1 := row_new w1 (.cells #[.int .i64 (p.pr x), .int .i64 (p.ps x)] 52); have hr1 := row_old (o' := .cells #[.int .i64 (p.pr x), .int .i64 (p.ps x)] 52) (hg.row hr0); have hz1 := row_old (o' := .cells #[.int .i64 (p.pr x), .int .i64 (p.ps x)] 52) (hg.row hz0))
    | (go_at_call 25; refine (HJ.out _).mono ?_; rintro e w2 ⟨rfl, hg2⟩; have hn2 := hg2.row hn1; have hz2 := hg2.row hz1)
    | (refine wpList_isstore 52 _ _ rfl ?_; first
        | (refine wpList_store_row rfl 52 _ _ rfl (w.heap.size + 1) #[.int .i64 0, .int .i64 0] rfl rfl 52 _ hz2 (by kernel_rfl) rfl (by kernel_rfl) ?_)
        | (refine wpList_store_new 52 _ _ rfl rfl _ #[.int .i64 (p.pr x), .int .i64 (p.ps x)] _ _ rfl rfl (by kernel_rfl) rfl (by kernel_rfl) ?_))
    | (refine wpList_isload 23 _ rfl ?_; refine wpList_load_rowg 23 _ rfl rfl _ rfl _ _ _ _ (by first | (with_reducible first | exact hr1 | exact hr0) | exact row_new _ _ | exact row_old (row_new _ _)) Try.underlying23 rfl (by kernel_rfl) ?_) | (refine wpList_isload 52 _ rfl ?_; refine wpList_load_rowg 52 _ rfl rfl _ rfl _ _ _ _ (by first | (with_reducible first | exact hn2 | exact hn1) | exact row_new _ _ | exact row_old (row_new _ _)) Try.underlying52 rfl (by kernel_rfl) ?_))
  have hres := results_cell_tmp (P := Try.prog) (fn := Try.f23) (p := 4) (q := 5) (ty := 52) rfl
  refine bodyPost_ret (v := .tuple #[placeV 0 0, .bool false]) ?_ rfl ⟨rfl, ?_⟩
  · exact hres _ _ (w.heap.size + 1) _ #[.int .i64 0, .int .i64 0] _ _ rfl (setRow_heap _ _ _ _ _ _ hz2) Try.underlying52 rfl (by kernel_rfl)
  · exact ((((((Grow.refl _).alloc _).alloc _).trans hg).alloc _).trans hg2).setRow (by omega) _
set_option maxRecDepth 100000 in
set_option maxHeartbeats 1000000 in
theorem Place_in (p : Plan) (x : Int) (h : p.timed x) (hv : (verd (p.exp (p.pr x) (p.ps x) - p.window) (p.exp (p.pr x) (p.ps x) + p.window) x == 2) = true) (w : World) :
    Calls Try.prog 23 #[planV p, .int .i64 x] w fun e w' => e = .returned (.tuple #[placeV (p.pr x) (p.ps x), .bool true]) ∧ Grow w w' := by
  have hO := Lib.hid (Of_ok p x h)
  obtain ⟨t1, _, _, t4⟩ := timed_bd h
  have hJ := Judge_in p (p.pr x) (p.ps x) x t4 (mayB_iff.2 ⟨by have := h.2.1; omega, by omega⟩)
  generalize verd (p.exp (p.pr x) (p.ps x) - p.window) (p.exp (p.pr x) (p.ps x) + p.window) x = vd at *
  have HJ := Lib.hid hJ
  have hv2 : (vd != 2) = false := by simp [bne, hv]
  clear hJ t1 t4
  have hr0 := row_old (o' := .cells #[.int .i64 0, .int .i64 0] 52) (row_new w (.cells (planC p) 23))
  have hz0 := of_zero_place w p
  clear h
  go_enter Try.func23, Try.ntmps23
  go_wp2_with (first
    | (go_at_call 55; refine (hO.out _).mono ?_; rintro e w1 ⟨rfl, hg⟩; have hn1 := row_new w1 (.cells #[.int .i64 (p.pr x), .int .i64 (p.ps x)] 52); have hr1 := row_old (o' := .cells #[.int .i64 (p.pr x), .int .i64 (p.ps x)] 52) (hg.row hr0); have hz1 := row_old (o' := .cells #[.int .i64 (p.pr x), .int .i64 (p.ps x)] 52) (hg.row hz0))
    | (go_at_call 25; refine (HJ.out _).mono ?_; rintro e w2 ⟨rfl, hg2⟩; have hn2 := hg2.row hn1; have hz2 := hg2.row hz1)
    | (refine wpList_isstore 52 _ _ rfl ?_; first
        | (refine wpList_store_row rfl 52 _ _ rfl (w.heap.size + 1) #[.int .i64 (p.pr x), .int .i64 (p.ps x)] rfl rfl 52 _ hz2 (by kernel_rfl) rfl (by kernel_rfl) ?_)
        | (refine wpList_store_new 52 _ _ rfl rfl _ #[.int .i64 (p.pr x), .int .i64 (p.ps x)] _ _ rfl rfl (by kernel_rfl) rfl (by kernel_rfl) ?_))
    | (refine wpList_isload 23 _ rfl ?_; refine wpList_load_rowg 23 _ rfl rfl _ rfl _ _ _ _ (by first | (with_reducible first | exact hr1 | exact hr0) | exact row_new _ _ | exact row_old (row_new _ _)) Try.underlying23 rfl (by kernel_rfl) ?_) | (refine wpList_isload 52 _ rfl ?_; refine wpList_load_rowg 52 _ rfl rfl _ rfl _ _ _ _ (by first | (with_reducible first | exact hn2 | exact hn1) | exact row_new _ _ | exact row_old (row_new _ _)) Try.underlying52 rfl (by kernel_rfl) ?_))
  have hres := results_cell_tmp (P := Try.prog) (fn := Try.f23) (p := 4) (q := 5) (ty := 52) rfl
  refine bodyPost_ret (v := .tuple #[placeV (p.pr x) (p.ps x), .bool true]) ?_ rfl ⟨rfl, ?_⟩
  · exact hres _ _ (w.heap.size + 1) _ #[.int .i64 (p.pr x), .int .i64 (p.ps x)] _ _ rfl (setRow_heap _ _ _ _ _ _ hz2) Try.underlying52 rfl (by kernel_rfl)
  · exact ((((((Grow.refl _).alloc _).alloc _).trans hg).alloc _).trans hg2).setRow (by omega) _
end Go.Proofs.Ytelmgipnlflmaaa
