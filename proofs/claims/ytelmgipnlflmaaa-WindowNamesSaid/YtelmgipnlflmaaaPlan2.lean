/-
  Package plan: its greater functions, of a plan whose first three conditions hold.
-/
import Derived.Test.YtelmgipnlflmaaaPlan
namespace Go.Proofs.Ytelmgipnlflmaaa
open Go.RowKit

set_option maxHeartbeats 400000 in
theorem round_any (p : Plan) (h : p.Known) (w : World) :
    Calls Try.prog 47 #[planV p] w fun e w' => e = .returned (.int .i64 p.R) ∧ Grow w w' := by
  have hR := R_bd h
  unfold planV planC
  unfold Plan.R at *
  obtain ⟨hR1, hR2⟩ := hR
  go_enter Try.func47, Try.ntmps47
  go_wp2
  go_ret
  exact ⟨rfl, (Grow.refl _).alloc _⟩
set_option maxHeartbeats 400000 in
theorem e_any (p : Plan) (h : p.Known) (w : World) :
    Calls Try.prog 111 #[planV p] w fun e w' => e = .returned (.int .i64 p.e) ∧ Grow w w' := by
  have he := e_bd h
  obtain ⟨_, ⟨_, _, h1, h2, h3⟩, _⟩ := h
  unfold planV planC
  unfold Plan.e at *
  obtain ⟨he1, he2⟩ := he
  go_enter Try.func111, Try.ntmps111
  go_wp2
  go_ret
  exact ⟨rfl, (Grow.refl _).alloc _⟩
theorem quo_of (x y : Int) (hx : 0 ≤ x) : x.tdiv y = x / y := Int.tdiv_eq_ediv_of_nonneg hx
theorem iw (n : Int) (h1 : -9223372036854775808 ≤ n) (h2 : n ≤ 9223372036854775807) : IntKind.i64.wrap n = n := IntWalk.i64_in n ⟨h1, h2⟩
set_option maxRecDepth 100000 in
set_option maxHeartbeats 400000 in
theorem g_any (p : Plan) (h : p.Known) (w : World) :
    Calls Try.prog 110 #[planV p] w fun e w' => e = .returned (.int .i64 p.g) ∧ Grow w w' := by
  have hR := R_bd h
  have hq := q_bd h
  obtain ⟨_, _, ⟨_, _, h3, h4⟩⟩ := id h
  have w1 := iw (2 * p.R) (by omega) (by omega)
  have hr : ¬ p.rho = 0 := by omega
  have w2 := quo_of (2 * p.R) p.rho (by omega)
  have w3 := iw (2 * p.R / p.rho) (by omega) (by omega)
  have w4 := iw (2 * p.R / p.rho + 4) (by omega) (by omega)
  have w5 := iw (2 * (2 * p.R / p.rho + 4)) (by omega) (by omega)
  clear hq hR h3 h4
  unfold planV planC
  go_enter Try.func110, Try.ntmps110
  go_wp2
  refine wp_region_grow (by kernel_rfl) (by kernel_rfl) ?_
  repeat
    apply wpQuiet_op rfl
    · intro W hW
      first
        | exact quiet_load_row 82 _ rfl _ rfl _ _ _ _ (hW.row (by first | exact row_new _ _ | exact row_old (row_new _ _) | exact row_old (row_old (row_new _ _)) | exact row_old (row_old (row_old (row_new _ _))) | assumption)) Try.underlying82 rfl (by kernel_rfl)
        | (obtain ⟨hc, hf⟩ := hW.cells
           go_simp
           first
             | (go_at_call 47; exact Calls.grow hW (round_any p h _))
             | exact rfl
             | exact ⟨rfl, rfl⟩)
    simp only [Act.put, List.setIfInBounds_toArray, List.set_cons_zero, List.set_cons_succ]
  refine wpQuiet_nil ?_
  intro W hW
  have hz := hW.size
  obtain ⟨hc, hf⟩ := hW.cells
  go_wp2
  go_ret
  exact ⟨rfl, ((Grow.refl _).alloc _).trans hW⟩
set_option maxRecDepth 100000 in
set_option maxHeartbeats 400000 in
theorem a_any (p : Plan) (h : p.Known) (w : World) :
    Calls Try.prog 109 #[planV p] w fun e w' => e = .returned (.int .i64 p.a) ∧ Grow w w' := by
  have hg := g_bd h
  have he := e_bd h
  have w1 := iw (p.e + p.g) (by omega) (by omega)
  have w2 := iw (2 * (p.e + p.g)) (by omega) (by omega)
  clear hg he
  unfold planV planC
  go_enter Try.func109, Try.ntmps109
  go_wp2
  refine wp_region_grow (by kernel_rfl) (by kernel_rfl) ?_
  repeat
    apply wpQuiet_op rfl
    · intro W hW
      first
        | exact quiet_load_row 82 _ rfl _ rfl _ _ _ _ (hW.row (by first | exact row_new _ _ | exact row_old (row_new _ _) | exact row_old (row_old (row_new _ _)) | exact row_old (row_old (row_old (row_new _ _))) | assumption)) Try.underlying82 rfl (by kernel_rfl)
        | (obtain ⟨hc, hf⟩ := hW.cells
           go_simp
           first
             | (go_at_call 111; exact Calls.grow hW (e_any p h _))
             | (go_at_call 110; exact Calls.grow hW (g_any p h _))
             | exact rfl
             | exact ⟨rfl, rfl⟩)
    simp only [Act.put, List.setIfInBounds_toArray, List.set_cons_zero, List.set_cons_succ]
  refine wpQuiet_nil ?_
  intro W hW
  have hz := hW.size
  obtain ⟨hc, hf⟩ := hW.cells
  go_wp2
  go_ret
  exact ⟨rfl, ((Grow.refl _).alloc _).trans hW⟩
set_option maxRecDepth 100000 in
set_option maxHeartbeats 400000 in
theorem lPi_any (p : Plan) (h : p.Known) (w : World) :
    Calls Try.prog 102 #[planV p] w fun e w' => e = .returned (.int .i64 p.lPi) ∧ Grow w w' := by
  have hg := g_bd h
  have he := e_bd h
  have ha := a_bd h
  have w1 := iw (p.a + p.g) (by omega) (by omega)
  have w2 := iw (2 * (p.a + p.g)) (by omega) (by omega)
  have w3 := iw (2 * (p.a + p.g) + p.e) (by omega) (by omega)
  clear hg he ha
  unfold planV planC
  go_enter Try.func102, Try.ntmps102
  go_wp2
  refine wp_region_grow (by kernel_rfl) (by kernel_rfl) ?_
  repeat
    apply wpQuiet_op rfl
    · intro W hW
      first
        | exact quiet_load_row 82 _ rfl _ rfl _ _ _ _ (hW.row (by first | exact row_new _ _ | exact row_old (row_new _ _) | exact row_old (row_old (row_new _ _)) | exact row_old (row_old (row_old (row_new _ _))) | assumption)) Try.underlying82 rfl (by kernel_rfl)
        | (obtain ⟨hc, hf⟩ := hW.cells
           go_simp
           first
             | (go_at_call 111; exact Calls.grow hW (e_any p h _))
             | (go_at_call 110; exact Calls.grow hW (g_any p h _))
             | (go_at_call 109; exact Calls.grow hW (a_any p h _))
             | exact rfl
             | exact ⟨rfl, rfl⟩)
    simp only [Act.put, List.setIfInBounds_toArray, List.set_cons_zero, List.set_cons_succ]
  refine wpQuiet_nil ?_
  intro W hW
  have hz := hW.size
  obtain ⟨hc, hf⟩ := hW.cells
  go_wp2
  go_ret
  exact ⟨rfl, ((Grow.refl _).alloc _).trans hW⟩
set_option maxRecDepth 100000 in
set_option maxHeartbeats 400000 in
theorem lWindow_any (p : Plan) (h : p.Known) (h4 : p.c4) (w : World) :
    Calls Try.prog 103 #[planV p] w fun e w' => e = .returned (.int .i64 p.lWindow) ∧ Grow w w' := by
  have hg := g_bd h
  have he := e_bd h
  have ha := a_bd h
  have w1 : IntKind.i64.wrap (p.pi + p.e) = p.pi + p.e := by
    obtain ⟨h1, h2⟩ := h4
    unfold Plan.lPi at h1
    exact iw _ (by omega) (by omega)
  clear hg he ha
  unfold planV planC
  go_enter Try.func103, Try.ntmps103
  go_wp2
  refine wp_region_grow (by kernel_rfl) (by kernel_rfl) ?_
  repeat
    apply wpQuiet_op rfl
    · intro W hW
      first
        | exact quiet_load_row 82 _ rfl _ rfl _ _ _ _ (hW.row (by first | exact row_new _ _ | exact row_old (row_new _ _) | exact row_old (row_old (row_new _ _)) | exact row_old (row_old (row_old (row_new _ _))) | assumption)) Try.underlying82 rfl (by kernel_rfl)
        | (obtain ⟨hc, hf⟩ := hW.cells
           go_simp
           first
             | (go_at_call 111; exact Calls.grow hW (e_any p h _))
             | exact rfl
             | exact ⟨rfl, rfl⟩)
    simp only [Act.put, List.setIfInBounds_toArray, List.set_cons_zero, List.set_cons_succ]
  refine wpQuiet_nil ?_
  intro W hW
  have hz := hW.size
  obtain ⟨hc, hf⟩ := hW.cells
  go_wp2
  go_ret
  exact ⟨rfl, ((Grow.refl _).alloc _).trans hW⟩
set_option maxRecDepth 100000 in
set_option maxHeartbeats 400000 in
theorem lCap_any (p : Plan) (h : p.Known) (w : World) :
    Calls Try.prog 104 #[planV p] w fun e w' => e = .returned (.int .i64 p.lCap) ∧ Grow w w' := by
  have hg := g_bd h
  have he := e_bd h
  have ha := a_bd h
  have w1 := iw (2 * p.g) (by omega) (by omega)
  have w2 := iw (p.a + 2 * p.g) (by omega) (by omega)
  have w3 := iw (2 * p.e) (by omega) (by omega)
  have w4 := iw (p.a + 2 * p.g + 2 * p.e) (by omega) (by omega)
  clear hg he ha
  unfold planV planC
  go_enter Try.func104, Try.ntmps104
  go_wp2
  refine wp_region_grow (by kernel_rfl) (by kernel_rfl) ?_
  repeat
    apply wpQuiet_op rfl
    · intro W hW
      first
        | exact quiet_load_row 82 _ rfl _ rfl _ _ _ _ (hW.row (by first | exact row_new _ _ | exact row_old (row_new _ _) | exact row_old (row_old (row_new _ _)) | exact row_old (row_old (row_old (row_new _ _))) | assumption)) Try.underlying82 rfl (by kernel_rfl)
        | (obtain ⟨hc, hf⟩ := hW.cells
           go_simp
           first
             | (go_at_call 111; exact Calls.grow hW (e_any p h _))
             | (go_at_call 110; exact Calls.grow hW (g_any p h _))
             | (go_at_call 109; exact Calls.grow hW (a_any p h _))
             | exact rfl
             | exact ⟨rfl, rfl⟩)
    simp only [Act.put, List.setIfInBounds_toArray, List.set_cons_zero, List.set_cons_succ]
  refine wpQuiet_nil ?_
  intro W hW
  have hz := hW.size
  obtain ⟨hc, hf⟩ := hW.cells
  go_wp2
  go_ret
  exact ⟨rfl, ((Grow.refl _).alloc _).trans hW⟩
theorem pi_bd {p : Plan} (h : p.Known) (h4 : p.c4) : 78 ≤ p.pi ∧ p.pi ≤ 1048576 := by
  have := g_bd h
  have := e_bd h
  have := a_bd h
  obtain ⟨h1, h2⟩ := h4
  unfold Plan.lPi at h1
  omega
theorem window_bd {p : Plan} (h : p.Known) (h4 : p.c4) (h5 : p.c5) : 84 ≤ p.window ∧ p.window ≤ 1048576 := by
  have := pi_bd h h4
  have := e_bd h
  obtain ⟨h1, h2⟩ := h5
  unfold Plan.lWindow at h1
  omega
theorem cap_bd {p : Plan} (h : p.Known) (h6 : p.c6) : 56 ≤ p.cap ∧ p.cap ≤ 1048576 := by
  have := g_bd h
  have := e_bd h
  have := a_bd h
  obtain ⟨h1, h2⟩ := h6
  unfold Plan.lCap at h1
  omega
set_option maxHeartbeats 400000 in
theorem lOff_any (p : Plan) (h : p.Known) (h4 : p.c4) (h5 : p.c5) (h6 : p.c6) (w : World) :
    Calls Try.prog 105 #[planV p] w fun e w' => e = .returned (.int .i64 p.lOff) ∧ Grow w w' := by
  obtain ⟨a1, a2⟩ := pi_bd h h4
  obtain ⟨b1, b2⟩ := window_bd h h4 h5
  obtain ⟨c1, c2⟩ := cap_bd h h6
  unfold planV planC
  go_enter Try.func105, Try.ntmps105
  go_wp2
  go_ret
  exact ⟨rfl, (Grow.refl _).alloc _⟩
theorem off_bd {p : Plan} (h : p.Known) (h4 : p.c4) (h5 : p.c5) (h6 : p.c6) (h7 : p.c7) : 218 ≤ p.sendOff ∧ p.sendOff ≤ 1048576 := by
  have := pi_bd h h4
  have := window_bd h h4 h5
  have := cap_bd h h6
  obtain ⟨h1, h2⟩ := h7
  unfold Plan.lOff at h1
  omega
set_option maxHeartbeats 400000 in
theorem lSlot_any (p : Plan) (h : p.Known) (h4 : p.c4) (h5 : p.c5) (h6 : p.c6) (h7 : p.c7) (w : World) :
    Calls Try.prog 82 #[planV p] w fun e w' => e = .returned (.int .i64 p.lSlot) ∧ Grow w w' := by
  obtain ⟨a1, a2⟩ := pi_bd h h4
  obtain ⟨b1, b2⟩ := window_bd h h4 h5
  obtain ⟨c1, c2⟩ := cap_bd h h6
  obtain ⟨d1, d2⟩ := off_bd h h4 h5 h6 h7
  obtain ⟨_, ⟨e1, e2, e3, e4, e5⟩, _⟩ := h
  unfold planV planC
  go_enter Try.func82, Try.ntmps82
  go_wp2
  go_ret
  exact ⟨rfl, (Grow.refl _).alloc _⟩
theorem dq_bd {p : Plan} (h : p.c9) : 1 ≤ (p.queue + p.burst - 1) / p.burst ∧ (p.queue + p.burst - 1) / p.burst ≤ 71 := by
  obtain ⟨h1, h2, h3, h4, _, _⟩ := h
  constructor
  · exact (Int.le_ediv_iff_mul_le (by omega)).2 (by omega)
  · exact Int.le_trans (Int.ediv_le_self _ (by omega)) (by omega)
theorem dr_bd {p : Plan} (h : p.Known) (h9 : p.c9) : 0 ≤ ((p.queue + p.burst - 1) / p.burst + 3) * p.R ∧ ((p.queue + p.burst - 1) / p.burst + 3) * p.R ≤ 74 * 16777216 := by
  have h1 := dq_bd h9
  have h2 := R_bd h
  constructor
  · exact Int.mul_nonneg (by omega) (by omega)
  · exact Int.mul_le_mul (by omega) (by omega) (by omega) (by omega)
set_option maxRecDepth 100000 in
set_option maxHeartbeats 400000 in
theorem lDelta_any (p : Plan) (h : p.Known) (h4 : p.c4) (h9 : p.c9) (w : World) :
    Calls Try.prog 106 #[planV p] w fun e w' => e = .returned (.int .i64 p.lDelta) ∧ Grow w w' := by
  have hq := dq_bd h9
  have hr := dr_bd h h9
  have hp := pi_bd h h4
  obtain ⟨b1, b2, b3, b4, _, _⟩ := h9
  have w1 := iw (p.queue + p.burst) (by omega) (by omega)
  have w2 := iw (p.queue + p.burst - 1) (by omega) (by omega)
  have w3 := quo_of (p.queue + p.burst - 1) p.burst (by omega)
  have w4 := iw ((p.queue + p.burst - 1) / p.burst) (by omega) (by omega)
  have w5 := iw ((p.queue + p.burst - 1) / p.burst + 3) (by omega) (by omega)
  have w6 := iw (((p.queue + p.burst - 1) / p.burst + 3) * p.R) (by omega) (by omega)
  have w7 := iw (2 * p.pi) (by omega) (by omega)
  have w8 := iw (((p.queue + p.burst - 1) / p.burst + 3) * p.R + 2 * p.pi) (by omega) (by omega)
  have hb : ¬ p.burst = 0 := by omega
  clear hq hr hp b1 b2 b3 b4
  unfold planV planC
  go_enter Try.func106, Try.ntmps106
  go_wp2
  refine wp_region_grow (by kernel_rfl) (by kernel_rfl) ?_
  repeat
    apply wpQuiet_op rfl
    · intro W hW
      first
        | exact quiet_load_row 82 _ rfl _ rfl _ _ _ _ (hW.row (by first | exact row_new _ _ | exact row_old (row_new _ _) | exact row_old (row_old (row_new _ _)) | exact row_old (row_old (row_old (row_new _ _))) | assumption)) Try.underlying82 rfl (by kernel_rfl)
        | (obtain ⟨hc, hf⟩ := hW.cells
           go_simp
           first
             | (go_at_call 47; exact Calls.grow hW (round_any p h _))
             | exact rfl
             | exact ⟨rfl, rfl⟩)
    simp only [Act.put, List.setIfInBounds_toArray, List.set_cons_zero, List.set_cons_succ]
  refine wpQuiet_nil ?_
  intro W hW
  have hz := hW.size
  obtain ⟨hc, hf⟩ := hW.cells
  go_wp2
  go_ret
  exact ⟨rfl, ((Grow.refl _).alloc _).trans hW⟩

set_option maxRecDepth 100000 in
set_option maxHeartbeats 400000 in
theorem pi_any (p : Plan) (h : p.Known) (w : World) :
    Calls Try.prog 94 #[planV p] w fun e w' => e = .returned (.bool (decide p.c4)) ∧ Grow w w' := by
  unfold planV planC
  go_enter Try.func94, Try.ntmps94
  go_wp2
  refine wp_region_grow (by kernel_rfl) (by kernel_rfl) ?_
  repeat
    apply wpQuiet_op rfl
    · intro W hW
      first
        | exact quiet_load_row 82 _ rfl _ rfl _ _ _ _ (hW.row (by first | exact row_new _ _ | exact row_old (row_new _ _) | exact row_old (row_old (row_new _ _)) | exact row_old (row_old (row_old (row_new _ _))) | assumption)) Try.underlying82 rfl (by kernel_rfl)
        | (obtain ⟨hc, hf⟩ := hW.cells
           go_simp
           first
             | (go_at_call 102; exact Calls.grow hW (lPi_any p h _))
             | (go_at_call 101; exact Calls.grow hW (Calls.grows (in_any _ _ _ _)))
             | exact rfl
             | exact ⟨rfl, rfl⟩)
    simp only [Act.put, List.setIfInBounds_toArray, List.set_cons_zero, List.set_cons_succ]
  refine wpQuiet_nil ?_
  intro W hW
  have hz := hW.size
  obtain ⟨hc, hf⟩ := hW.cells
  go_wp2
  go_ret
  exact ⟨ret_bool (inB_dec _ _ _), ((Grow.refl _).alloc _).trans hW⟩
set_option maxRecDepth 100000 in
set_option maxHeartbeats 400000 in
theorem window_any (p : Plan) (h : p.Known) (h4 : p.c4) (w : World) :
    Calls Try.prog 95 #[planV p] w fun e w' => e = .returned (.bool (decide p.c5)) ∧ Grow w w' := by
  unfold planV planC
  go_enter Try.func95, Try.ntmps95
  go_wp2
  refine wp_region_grow (by kernel_rfl) (by kernel_rfl) ?_
  repeat
    apply wpQuiet_op rfl
    · intro W hW
      first
        | exact quiet_load_row 82 _ rfl _ rfl _ _ _ _ (hW.row (by first | exact row_new _ _ | exact row_old (row_new _ _) | exact row_old (row_old (row_new _ _)) | exact row_old (row_old (row_old (row_new _ _))) | assumption)) Try.underlying82 rfl (by kernel_rfl)
        | (obtain ⟨hc, hf⟩ := hW.cells
           go_simp
           first
             | (go_at_call 103; exact Calls.grow hW (lWindow_any p h h4 _))
             | (go_at_call 101; exact Calls.grow hW (Calls.grows (in_any _ _ _ _)))
             | exact rfl
             | exact ⟨rfl, rfl⟩)
    simp only [Act.put, List.setIfInBounds_toArray, List.set_cons_zero, List.set_cons_succ]
  refine wpQuiet_nil ?_
  intro W hW
  have hz := hW.size
  obtain ⟨hc, hf⟩ := hW.cells
  go_wp2
  go_ret
  exact ⟨ret_bool (inB_dec _ _ _), ((Grow.refl _).alloc _).trans hW⟩
set_option maxRecDepth 100000 in
set_option maxHeartbeats 400000 in
theorem limit_any (p : Plan) (h : p.Known) (w : World) :
    Calls Try.prog 96 #[planV p] w fun e w' => e = .returned (.bool (decide p.c6)) ∧ Grow w w' := by
  unfold planV planC
  go_enter Try.func96, Try.ntmps96
  go_wp2
  refine wp_region_grow (by kernel_rfl) (by kernel_rfl) ?_
  repeat
    apply wpQuiet_op rfl
    · intro W hW
      first
        | exact quiet_load_row 82 _ rfl _ rfl _ _ _ _ (hW.row (by first | exact row_new _ _ | exact row_old (row_new _ _) | exact row_old (row_old (row_new _ _)) | exact row_old (row_old (row_old (row_new _ _))) | assumption)) Try.underlying82 rfl (by kernel_rfl)
        | (obtain ⟨hc, hf⟩ := hW.cells
           go_simp
           first
             | (go_at_call 104; exact Calls.grow hW (lCap_any p h _))
             | (go_at_call 101; exact Calls.grow hW (Calls.grows (in_any _ _ _ _)))
             | exact rfl
             | exact ⟨rfl, rfl⟩)
    simp only [Act.put, List.setIfInBounds_toArray, List.set_cons_zero, List.set_cons_succ]
  refine wpQuiet_nil ?_
  intro W hW
  have hz := hW.size
  obtain ⟨hc, hf⟩ := hW.cells
  go_wp2
  go_ret
  exact ⟨ret_bool (inB_dec _ _ _), ((Grow.refl _).alloc _).trans hW⟩
set_option maxRecDepth 100000 in
set_option maxHeartbeats 400000 in
theorem sends_any (p : Plan) (h : p.Known) (h4 : p.c4) (h5 : p.c5) (h6 : p.c6) (w : World) :
    Calls Try.prog 97 #[planV p] w fun e w' => e = .returned (.bool (decide p.c7)) ∧ Grow w w' := by
  unfold planV planC
  go_enter Try.func97, Try.ntmps97
  go_wp2
  refine wp_region_grow (by kernel_rfl) (by kernel_rfl) ?_
  repeat
    apply wpQuiet_op rfl
    · intro W hW
      first
        | exact quiet_load_row 82 _ rfl _ rfl _ _ _ _ (hW.row (by first | exact row_new _ _ | exact row_old (row_new _ _) | exact row_old (row_old (row_new _ _)) | exact row_old (row_old (row_old (row_new _ _))) | assumption)) Try.underlying82 rfl (by kernel_rfl)
        | (obtain ⟨hc, hf⟩ := hW.cells
           go_simp
           first
             | (go_at_call 105; exact Calls.grow hW (lOff_any p h h4 h5 h6 _))
             | (go_at_call 101; exact Calls.grow hW (Calls.grows (in_any _ _ _ _)))
             | exact rfl
             | exact ⟨rfl, rfl⟩)
    simp only [Act.put, List.setIfInBounds_toArray, List.set_cons_zero, List.set_cons_succ]
  refine wpQuiet_nil ?_
  intro W hW
  have hz := hW.size
  obtain ⟨hc, hf⟩ := hW.cells
  go_wp2
  go_ret
  exact ⟨ret_bool (inB_dec _ _ _), ((Grow.refl _).alloc _).trans hW⟩
set_option maxRecDepth 100000 in
set_option maxHeartbeats 400000 in
theorem fits_any (p : Plan) (h : p.Known) (h4 : p.c4) (h5 : p.c5) (h6 : p.c6) (h7 : p.c7) (w : World) :
    Calls Try.prog 98 #[planV p] w fun e w' => e = .returned (.bool (decide p.c8)) ∧ Grow w w' := by
  unfold planV planC
  go_enter Try.func98, Try.ntmps98
  go_wp2
  refine wp_region_grow (by kernel_rfl) (by kernel_rfl) ?_
  repeat
    apply wpQuiet_op rfl
    · intro W hW
      first
        | exact quiet_load_row 82 _ rfl _ rfl _ _ _ _ (hW.row (by first | exact row_new _ _ | exact row_old (row_new _ _) | exact row_old (row_old (row_new _ _)) | exact row_old (row_old (row_old (row_new _ _))) | assumption)) Try.underlying82 rfl (by kernel_rfl)
        | (obtain ⟨hc, hf⟩ := hW.cells
           go_simp
           first
             | (go_at_call 82; exact Calls.grow hW (lSlot_any p h h4 h5 h6 h7 _))
             | exact rfl
             | exact ⟨rfl, rfl⟩)
    simp only [Act.put, List.setIfInBounds_toArray, List.set_cons_zero, List.set_cons_succ]
  refine wpQuiet_nil ?_
  intro W hW
  have hz := hW.size
  obtain ⟨hc, hf⟩ := hW.cells
  go_wp2
  go_ret
  exact ⟨rfl, ((Grow.refl _).alloc _).trans hW⟩
set_option maxRecDepth 100000 in
set_option maxHeartbeats 400000 in
theorem delta_any (p : Plan) (h : p.Known) (h4 : p.c4) (h9 : p.c9) (w : World) :
    Calls Try.prog 99 #[planV p] w fun e w' => e = .returned (.bool (decide p.c10)) ∧ Grow w w' := by
  have hR := R_bd h
  have w1 := iw (64 * p.R) (by omega) (by omega)
  clear hR
  unfold planV planC
  go_enter Try.func99, Try.ntmps99
  go_wp2
  refine wp_region_grow (by kernel_rfl) (by kernel_rfl) ?_
  repeat
    apply wpQuiet_op rfl
    · intro W hW
      first
        | exact quiet_load_row 82 _ rfl _ rfl _ _ _ _ (hW.row (by first | exact row_new _ _ | exact row_old (row_new _ _) | exact row_old (row_old (row_new _ _)) | exact row_old (row_old (row_old (row_new _ _))) | assumption)) Try.underlying82 rfl (by kernel_rfl)
        | (obtain ⟨hc, hf⟩ := hW.cells
           go_simp
           first
             | (go_at_call 106; exact Calls.grow hW (lDelta_any p h h4 h9 _))
             | (go_at_call 47; exact Calls.grow hW (round_any p h _))
             | (go_at_call 101; exact Calls.grow hW (Calls.grows (in_any _ _ _ _)))
             | exact rfl
             | exact ⟨rfl, rfl⟩)
    simp only [Act.put, List.setIfInBounds_toArray, List.set_cons_zero, List.set_cons_succ]
  refine wpQuiet_nil ?_
  intro W hW
  have hz := hW.size
  obtain ⟨hc, hf⟩ := hW.cells
  go_wp2
  go_ret
  exact ⟨ret_bool (inB_dec _ _ _), ((Grow.refl _).alloc _).trans hW⟩
set_option maxRecDepth 100000 in
set_option maxHeartbeats 400000 in
theorem horizon_any (p : Plan) (h : p.Known) (w : World) :
    Calls Try.prog 100 #[planV p] w fun e w' => e = .returned (.bool (decide p.c11)) ∧ Grow w w' := by
  have hR := R_bd h
  have w1 := iw (40 * p.R) (by omega) (by omega)
  clear hR
  unfold planV planC
  go_enter Try.func100, Try.ntmps100
  go_wp2
  refine wp_region_grow (by kernel_rfl) (by kernel_rfl) ?_
  repeat
    apply wpQuiet_op rfl
    · intro W hW
      first
        | exact quiet_load_row 82 _ rfl _ rfl _ _ _ _ (hW.row (by first | exact row_new _ _ | exact row_old (row_new _ _) | exact row_old (row_old (row_new _ _)) | exact row_old (row_old (row_old (row_new _ _))) | assumption)) Try.underlying82 rfl (by kernel_rfl)
        | (obtain ⟨hc, hf⟩ := hW.cells
           go_simp
           first
             | (go_at_call 47; exact Calls.grow hW (round_any p h _))
             | (go_at_call 101; exact Calls.grow hW (Calls.grows (in_any _ _ _ _)))
             | exact rfl
             | exact ⟨rfl, rfl⟩)
    simp only [Act.put, List.setIfInBounds_toArray, List.set_cons_zero, List.set_cons_succ]
  refine wpQuiet_nil ?_
  intro W hW
  have hz := hW.size
  obtain ⟨hc, hf⟩ := hW.cells
  go_wp2
  go_ret
  exact ⟨ret_bool (inB_dec _ _ _), ((Grow.refl _).alloc _).trans hW⟩
end Go.Proofs.Ytelmgipnlflmaaa
