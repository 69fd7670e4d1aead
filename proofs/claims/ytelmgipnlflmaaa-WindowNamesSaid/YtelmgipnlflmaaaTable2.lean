/-
  Package table: a place's number, when it begins, is sent, and is expected. Conditions: those that stand ahead of each.
-/
import Derived.Test.YtelmgipnlflmaaaTable
import Derived.Test.YtelmgipnlflmaaaStore
import Derived.Test.YtelmgipnlflmaaaMid
namespace Go.Proofs.Ytelmgipnlflmaaa
open Go.RowKit

abbrev placeV (r s : Int) : Value := .agg #[.int .i64 r, .int .i64 s]
def spotC (p : Plan) (r s : Int) : Array Value := #[.int .i64 p.nodes, .int .i64 p.k, .int .i64 p.slot, .int .i64 p.sendOff, .int .i64 p.window, .int .i64 p.air, .int .i64 p.dmin, .int .i64 p.dmax, .int .i64 p.rho, .int .i64 p.pi, .int .i64 p.cap, .int .i64 p.delta, .int .i64 p.queue, .int .i64 p.burst, .int .i64 p.payload, .int .i64 p.horizon, .int .i64 r, .int .i64 s]
abbrev spotV (p : Plan) (r s : Int) : Value := .agg (spotC p r s)
theorem spotC_eq (p : Plan) (r s : Int) : spotC p r s = planC p ++ #[.int .i64 r, .int .i64 s] := rfl
theorem planC_size (p : Plan) : (planC p).size = 16 := rfl
theorem spot_plan (p : Plan) (r s : Int) {w : World} {g : Nat} {t : TypeId} {fr : Nat × Nat} (h : w.heap[g]? = some (.cells (spotC p r s) t fr)) : w.rangeAt g 0 (planC p).toList :=
  range_of_row h 0 (planC p) fun j v hj => by
    have hlt : j < (planC p).size := by
      have := (List.getElem?_eq_some_iff.1 hj).1
      simpa using this
    rw [spotC_eq, Nat.zero_add, Array.getElem?_append_left hlt]
    simpa using hj
theorem spot_place (p : Plan) (r s : Int) {w : World} {g : Nat} {t : TypeId} {fr : Nat × Nat} (h : w.heap[g]? = some (.cells (spotC p r s) t fr)) : w.rangeAt g 16 (#[.int .i64 r, .int .i64 s] : Array Value).toList :=
  range_of_row h 16 #[.int .i64 r, .int .i64 s] fun j v hj => by
    match j, hj with
    | 0, hj => exact hj
    | 1, hj => exact hj
    | j + 2, hj => simp at hj

def Plan.num (p : Plan) (r s : Int) : Int := r * p.nodes + s
def Plan.beg (p : Plan) (r s : Int) : Int := p.num r s * p.slot
def Plan.snd (p : Plan) (r s : Int) : Int := p.beg r s + p.sendOff
def Plan.mid (p : Plan) : Int := (p.dmin + p.dmax) / 2
def Plan.exp (p : Plan) (r s : Int) : Int := p.snd r s + p.mid
theorem num_bd {p : Plan} {r s : Int} (h : p.has r s) : 0 ≤ r * p.nodes ∧ r * p.nodes ≤ 34359738352 ∧ 0 ≤ p.num r s ∧ p.num r s ≤ 34359738367 := by
  obtain ⟨h0, h1, h2, h3, h4⟩ := h
  have hn := h0.c1
  unfold Plan.c1 at hn
  unfold Plan.num
  have a1 : 0 ≤ r * p.nodes := Int.mul_nonneg h1 (by omega)
  have a2 : r * p.nodes ≤ 2147483647 * 16 := Int.mul_le_mul h2 (by omega) (by omega) (by omega)
  omega
theorem beg_bd {p : Plan} {r s : Int} (h : p.has r s) : 0 ≤ p.beg r s ∧ p.beg r s ≤ 36028797017915392 := by
  have hn := num_bd h
  have hs := slot_bd h.1
  unfold Plan.beg
  constructor
  · exact Int.mul_nonneg hn.2.2.1 (by omega)
  · exact Int.le_trans (Int.mul_le_mul hn.2.2.2 hs.2 (by omega) (by omega)) (by omega)
theorem snd_bd {p : Plan} {r s : Int} (h : p.has r s) : 0 ≤ p.snd r s ∧ p.snd r s ≤ 36028797018963968 := by
  have hb := beg_bd h
  have ho := off_bd h.1.known h.1.c4 h.1.c5 h.1.c6 h.1.c7
  unfold Plan.snd
  omega
theorem mid_bd {p : Plan} (h : p.Ok) : 0 ≤ p.mid ∧ p.mid ≤ 1048576 := by
  have hc := h.c2
  unfold Plan.c2 at hc
  unfold Plan.mid
  omega
theorem exp_bd {p : Plan} {r s : Int} (h : p.has r s) : 0 ≤ p.exp r s ∧ p.exp r s ≤ 36028797020012544 := by
  have hb := snd_bd h
  have ho := mid_bd h.1
  unfold Plan.exp
  omega

set_option maxHeartbeats 1000000 in
theorem snumber_any (p : Plan) (r s : Int) (h : p.has r s) (w : World) :
    Calls Try.prog 107 #[spotV p r s] w fun e w' => e = .returned (.int .i64 (p.num r s)) ∧ Grow w w' := by
  obtain ⟨b1, b2, b3, b4⟩ := num_bd h
  obtain ⟨h0, h1, h2, h3, h4⟩ := h
  clear h0
  unfold Plan.num at *
  unfold spotV spotC
  go_enter Try.func107, Try.ntmps107
  go_wp2
  go_ret
  exact ⟨rfl, (Grow.refl _).alloc _⟩
set_option maxRecDepth 100000 in
set_option maxHeartbeats 1000000 in
theorem sbegin_any (p : Plan) (r s : Int) (h : p.has r s) (w : World) :
    Calls Try.prog 83 #[spotV p r s] w fun e w' => e = .returned (.int .i64 (p.beg r s)) ∧ Grow w w' := by
  obtain ⟨b1, b2⟩ := beg_bd h
  have w1 : IntKind.i64.wrap (p.num r s * p.slot) = p.num r s * p.slot := iw _ (by unfold Plan.beg at *; omega) (by unfold Plan.beg at *; omega)
  clear b1 b2
  unfold spotV spotC
  go_enter Try.func83, Try.ntmps83
  go_wp2
  refine wp_region_grow (by kernel_rfl) (by kernel_rfl) ?_
  repeat
    apply wpQuiet_op rfl
    · intro W hW
      first
        | exact quiet_load_row 93 _ rfl _ rfl _ _ _ _ (hW.row (by first | exact row_new _ _ | exact row_old (row_new _ _) | exact row_old (row_old (row_new _ _)) | exact row_old (row_old (row_old (row_new _ _))) | assumption)) Try.underlying93 rfl (by kernel_rfl)
        | (obtain ⟨hc, hf⟩ := hW.cells
           go_simp
           first
             | (go_at_call 107; exact Calls.grow hW (snumber_any p r s h _))
             | exact rfl
             | exact ⟨rfl, rfl⟩)
    simp only [Act.put, List.setIfInBounds_toArray, List.set_cons_zero, List.set_cons_succ]
  refine wpQuiet_nil ?_
  intro W hW
  have hz := hW.size
  obtain ⟨hc, hf⟩ := hW.cells
  go_wp2
  go_ret
  exact ⟨rfl, ((Grow.refl _).alloc _).trans hW⟩
set_option maxRecDepth 100000 in
set_option maxHeartbeats 1000000 in
theorem ssends_any (p : Plan) (r s : Int) (h : p.has r s) (w : World) :
    Calls Try.prog 78 #[spotV p r s] w fun e w' => e = .returned (.int .i64 (p.snd r s)) ∧ Grow w w' := by
  obtain ⟨b1, b2⟩ := snd_bd h
  have w1 : IntKind.i64.wrap (p.beg r s + p.sendOff) = p.beg r s + p.sendOff := iw _ (by unfold Plan.snd at *; omega) (by unfold Plan.snd at *; omega)
  clear b1 b2
  unfold spotV spotC
  go_enter Try.func78, Try.ntmps78
  go_wp2
  refine wp_region_grow (by kernel_rfl) (by kernel_rfl) ?_
  repeat
    apply wpQuiet_op rfl
    · intro W hW
      first
        | exact quiet_load_row 93 _ rfl _ rfl _ _ _ _ (hW.row (by first | exact row_new _ _ | exact row_old (row_new _ _) | exact row_old (row_old (row_new _ _)) | exact row_old (row_old (row_old (row_new _ _))) | assumption)) Try.underlying93 rfl (by kernel_rfl)
        | (obtain ⟨hc, hf⟩ := hW.cells
           go_simp
           first
             | (go_at_call 83; exact Calls.grow hW (sbegin_any p r s h _))
             | exact rfl
             | exact ⟨rfl, rfl⟩)
    simp only [Act.put, List.setIfInBounds_toArray, List.set_cons_zero, List.set_cons_succ]
  refine wpQuiet_nil ?_
  intro W hW
  have hz := hW.size
  obtain ⟨hc, hf⟩ := hW.cells
  go_wp2
  go_ret
  exact ⟨rfl, ((Grow.refl _).alloc _).trans hW⟩
set_option maxHeartbeats 1000000 in
theorem middle_any (p : Plan) (h : p.c2) (w : World) :
    Calls Try.prog 79 #[planV p] w fun e w' => e = .returned (.int .i64 p.mid) ∧ Grow w w' := by
  obtain ⟨h1, h2, h3, h4, h5⟩ := h
  unfold planV planC
  go_enter Try.func79, Try.ntmps79
  go_wp2
  go_ret
  exact ⟨rfl, (Grow.refl _).alloc _⟩
set_option maxRecDepth 100000 in
set_option maxHeartbeats 1000000 in
theorem sexpected_any (p : Plan) (r s : Int) (h : p.has r s) (w : World) :
    Calls Try.prog 53 #[spotV p r s] w fun e w' => e = .returned (.int .i64 (p.exp r s)) ∧ Grow w w' := by
  obtain ⟨b1, b2⟩ := exp_bd h
  have w1 : IntKind.i64.wrap (p.snd r s + p.mid) = p.snd r s + p.mid := iw _ (by unfold Plan.exp at *; omega) (by unfold Plan.exp at *; omega)
  clear b1 b2
  unfold spotV spotC
  go_enter Try.func53, Try.ntmps53
  go_wp2
  refine wp_region_grow (by kernel_rfl) (by kernel_rfl) ?_
  repeat
    apply wpQuiet_op rfl
    · intro W hW
      first
        | exact quiet_load_row 93 _ rfl _ rfl _ _ _ _ (hW.row (by first | exact row_new _ _ | exact row_old (row_new _ _) | exact row_old (row_old (row_new _ _)) | exact row_old (row_old (row_old (row_new _ _))) | assumption)) Try.underlying93 rfl (by kernel_rfl)
        | exact quiet_load_mid 23 _ rfl _ _ rfl _ _ (spot_plan p r s (hW.row (by first | exact row_new _ _ | exact row_old (row_new _ _) | exact row_old (row_old (row_new _ _)) | exact row_old (row_old (row_old (row_new _ _))) | assumption))) Try.underlying23 rfl (by kernel_rfl)
        | (obtain ⟨hc, hf⟩ := hW.cells
           go_simp
           first
             | (go_at_call 78; exact Calls.grow hW (ssends_any p r s h _))
             | (go_at_call 79; exact Calls.grow hW (middle_any p h.1.c2 _))
             | exact rfl
             | exact ⟨rfl, rfl⟩)
    simp only [Act.put, List.setIfInBounds_toArray, List.set_cons_zero, List.set_cons_succ]
  refine wpQuiet_nil ?_
  intro W hW
  have hz := hW.size
  obtain ⟨hc, hf⟩ := hW.cells
  go_wp2
  go_ret
  exact ⟨rfl, ((Grow.refl _).alloc _).trans hW⟩
set_option maxRecDepth 100000 in
set_option maxHeartbeats 1000000 in
theorem answer_expected (p : Plan) (r s : Int) (h : p.has r s) (w : World) :
    Calls Try.prog 52 #[spotV p r s, .agg #[.func (.func 53) #[spotV p r s] #[]]] w fun e w' => e = .returned (.tuple #[.int .i64 (p.exp r s), .int .i64 0]) ∧ Grow w w' := by
  have hH := Lib.hid (has_yes p r s h)
  have hE := Lib.hid (sexpected_any p r s h)
  clear h
  have hr0 := row_old (o' := .cells #[.func (.func 53) #[spotV p r s] #[]] 96) (row_new w (.cells (spotC p r s) 93))
  have ha0 := row_new (w.alloc (.cells (spotC p r s) 93)) (.cells #[.func (.func 53) #[spotV p r s] #[]] 96)
  simp only [World.size_alloc] at ha0
  go_enter Try.func52, Try.ntmps52
  go_wp2_with (first
    | (go_at_call 77; refine (hH.out _).mono ?_; rintro e w1 ⟨rfl, hg⟩; have k0 : w1.cell? ⟨w.heap.size + 1, 0, none⟩ = some (.func (.func 53) #[spotV p r s] #[]) := cell_of_row w1 _ 0 _ _ _ (hg.row ha0))
    | (go_at_call 53; refine (hE.out _).mono ?_; rintro e w2 ⟨rfl, hg2⟩)
    | (refine wpList_isload 23 _ rfl ?_; refine wpList_load_midg 23 _ rfl rfl _ _ rfl _ _ (spot_plan p r s (by first | exact row_new _ _ | exact row_old (row_new _ _) | exact row_old (row_old (row_new _ _)) | exact row_old (row_old (row_old (row_new _ _))) | assumption)) Try.underlying23 rfl (by kernel_rfl) ?_)
    | (refine wpList_isload 52 _ rfl ?_; refine wpList_load_midg 52 _ rfl rfl _ _ rfl _ _ (spot_place p r s (by first | exact row_new _ _ | exact row_old (row_new _ _) | exact row_old (row_old (row_new _ _)) | exact row_old (row_old (row_old (row_new _ _))) | assumption)) Try.underlying52 rfl (by kernel_rfl) ?_))
  go_ret2
  exact ⟨rfl, ((((Grow.refl _).alloc _).alloc _).trans hg).trans hg2⟩
set_option maxRecDepth 100000 in
set_option maxHeartbeats 1000000 in
theorem answer_expected_no (p : Plan) (r s : Int) (h : ¬ p.has r s) (w : World) :
    Calls Try.prog 52 #[spotV p r s, .agg #[.func (.func 53) #[spotV p r s] #[]]] w fun e w' => e = .returned (.tuple #[.int .i64 0, .int .i64 90]) ∧ Grow w w' := by
  have hH := Lib.hid (has_no p r s h)
  clear h
  go_enter Try.func52, Try.ntmps52
  go_wp2_with (first
    | (go_at_call 77; refine (hH.out _).mono ?_; rintro e w1 ⟨rfl, hg⟩)
    | (refine wpList_isload 23 _ rfl ?_; refine wpList_load_midg 23 _ rfl rfl _ _ rfl _ _ (spot_plan p r s (by first | exact row_new _ _ | exact row_old (row_new _ _) | exact row_old (row_old (row_new _ _)) | exact row_old (row_old (row_old (row_new _ _))) | assumption)) Try.underlying23 rfl (by kernel_rfl) ?_)
    | (refine wpList_isload 52 _ rfl ?_; refine wpList_load_midg 52 _ rfl rfl _ _ rfl _ _ (spot_place p r s (by first | exact row_new _ _ | exact row_old (row_new _ _) | exact row_old (row_old (row_new _ _)) | exact row_old (row_old (row_old (row_new _ _))) | assumption)) Try.underlying52 rfl (by kernel_rfl) ?_))
  go_ret2
  exact ⟨rfl, (((Grow.refl _).alloc _).alloc _).trans hg⟩
set_option maxRecDepth 100000 in
set_option maxHeartbeats 1000000 in
theorem answer_begin (p : Plan) (r s : Int) (h : p.has r s) (w : World) :
    Calls Try.prog 52 #[spotV p r s, .agg #[.func (.func 83) #[spotV p r s] #[]]] w fun e w' => e = .returned (.tuple #[.int .i64 (p.beg r s), .int .i64 0]) ∧ Grow w w' := by
  have hH := Lib.hid (has_yes p r s h)
  have hE := Lib.hid (sbegin_any p r s h)
  clear h
  have hr0 := row_old (o' := .cells #[.func (.func 83) #[spotV p r s] #[]] 96) (row_new w (.cells (spotC p r s) 93))
  have ha0 := row_new (w.alloc (.cells (spotC p r s) 93)) (.cells #[.func (.func 83) #[spotV p r s] #[]] 96)
  simp only [World.size_alloc] at ha0
  go_enter Try.func52, Try.ntmps52
  go_wp2_with (first
    | (go_at_call 77; refine (hH.out _).mono ?_; rintro e w1 ⟨rfl, hg⟩; have k0 : w1.cell? ⟨w.heap.size + 1, 0, none⟩ = some (.func (.func 83) #[spotV p r s] #[]) := cell_of_row w1 _ 0 _ _ _ (hg.row ha0))
    | (go_at_call 83; refine (hE.out _).mono ?_; rintro e w2 ⟨rfl, hg2⟩)
    | (refine wpList_isload 23 _ rfl ?_; refine wpList_load_midg 23 _ rfl rfl _ _ rfl _ _ (spot_plan p r s (by first | exact row_new _ _ | exact row_old (row_new _ _) | exact row_old (row_old (row_new _ _)) | exact row_old (row_old (row_old (row_new _ _))) | assumption)) Try.underlying23 rfl (by kernel_rfl) ?_)
    | (refine wpList_isload 52 _ rfl ?_; refine wpList_load_midg 52 _ rfl rfl _ _ rfl _ _ (spot_place p r s (by first | exact row_new _ _ | exact row_old (row_new _ _) | exact row_old (row_old (row_new _ _)) | exact row_old (row_old (row_old (row_new _ _))) | assumption)) Try.underlying52 rfl (by kernel_rfl) ?_))
  go_ret2
  exact ⟨rfl, ((((Grow.refl _).alloc _).alloc _).trans hg).trans hg2⟩
set_option maxRecDepth 100000 in
set_option maxHeartbeats 1000000 in
theorem answer_begin_no (p : Plan) (r s : Int) (h : ¬ p.has r s) (w : World) :
    Calls Try.prog 52 #[spotV p r s, .agg #[.func (.func 83) #[spotV p r s] #[]]] w fun e w' => e = .returned (.tuple #[.int .i64 0, .int .i64 90]) ∧ Grow w w' := by
  have hH := Lib.hid (has_no p r s h)
  clear h
  go_enter Try.func52, Try.ntmps52
  go_wp2_with (first
    | (go_at_call 77; refine (hH.out _).mono ?_; rintro e w1 ⟨rfl, hg⟩)
    | (refine wpList_isload 23 _ rfl ?_; refine wpList_load_midg 23 _ rfl rfl _ _ rfl _ _ (spot_plan p r s (by first | exact row_new _ _ | exact row_old (row_new _ _) | exact row_old (row_old (row_new _ _)) | exact row_old (row_old (row_old (row_new _ _))) | assumption)) Try.underlying23 rfl (by kernel_rfl) ?_)
    | (refine wpList_isload 52 _ rfl ?_; refine wpList_load_midg 52 _ rfl rfl _ _ rfl _ _ (spot_place p r s (by first | exact row_new _ _ | exact row_old (row_new _ _) | exact row_old (row_old (row_new _ _)) | exact row_old (row_old (row_old (row_new _ _))) | assumption)) Try.underlying52 rfl (by kernel_rfl) ?_))
  go_ret2
  exact ⟨rfl, (((Grow.refl _).alloc _).alloc _).trans hg⟩
end Go.Proofs.Ytelmgipnlflmaaa
