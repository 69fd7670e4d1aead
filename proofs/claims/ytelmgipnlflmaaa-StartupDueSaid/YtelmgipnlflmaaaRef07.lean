/-
  The document's own plan check, of a plan that may be. Condition: the plan may be.
-/
import Derived.Test.YtelmgipnlflmaaaTable
namespace Go.Proofs.Ytelmgipnlflmaaa
open Go.RowKit

set_option maxHeartbeats 1000000 in
theorem rfirst_ok (p : Plan) (h : p.Known) (w : World) :
    Calls Try.prog 89 #[planV p] w fun e w' => e = .returned (.int .i64 0) ∧ Grow w w' := by
  obtain ⟨⟨a1, a2, a3, a4⟩, ⟨b1, b2, b3, b4, b5⟩, ⟨c1, c2, c3, c4⟩⟩ := h
  have a5 : p.k ≤ 16 := by omega
  unfold planV planC
  go_enter Try.func89, Try.ntmps89
  go_wp2
  go_ret
  exact ⟨rfl, (Grow.refl _).alloc _⟩
set_option maxHeartbeats 1000000 in
theorem rnumbers_ok (p : Plan) (h : p.Known) (w : World) :
    Calls Try.prog 90 #[planV p] w fun e w' => e = .returned (.tuple #[.int .i64 p.e, .int .i64 p.g, .int .i64 p.a]) ∧ Grow w w' := by
  have hR := R_bd h
  have hq := q_bd h
  have hg := g_bd h
  have he := e_bd h
  obtain ⟨_, ⟨_, _, b3, b4, b5⟩, ⟨_, _, c3, c4⟩⟩ := h
  unfold Plan.a
  unfold Plan.g at *
  unfold Plan.e at *
  unfold Plan.R at *
  obtain ⟨r1, r2⟩ := hR
  obtain ⟨q1, q2⟩ := hq
  obtain ⟨e1, e2⟩ := he
  have hr : ¬ p.rho = 0 := by omega
  unfold planV planC
  go_enter Try.func90, Try.ntmps90
  go_wp2
  go_ret3
  exact ⟨rfl, (Grow.refl _).alloc _⟩

theorem ceil_lt {a b : Int} (hb : 1 ≤ b) (_ha : 1 ≤ a) (h : a / b * b < a) : (a + b - 1) / b = a / b + 1 := by
  have h1 := Int.emod_add_mul_ediv a b
  have h2 := Int.emod_nonneg a (b := b) (by omega)
  have h3 := Int.emod_lt_of_pos a (b := b) (by omega)
  rw [Int.mul_comm b] at h1
  have e : a + b - 1 = (a % b - 1) + (a / b + 1) * b := by rw [Int.add_mul]; omega
  rw [e, Int.add_mul_ediv_right _ _ (by omega), Int.ediv_eq_zero_of_lt (by omega) (by omega)]
  omega
theorem ceil_eq {a b : Int} (hb : 1 ≤ b) (_ha : 1 ≤ a) (h : ¬ a / b * b < a) : (a + b - 1) / b = a / b := by
  have h1 := Int.emod_add_mul_ediv a b
  have h2 := Int.emod_nonneg a (b := b) (by omega)
  rw [Int.mul_comm b] at h1
  have e : a + b - 1 = (b - 1) + (a / b) * b := by omega
  rw [e, Int.add_mul_ediv_right _ _ (by omega), Int.ediv_eq_zero_of_lt (by omega) (by omega)]
  omega
set_option maxRecDepth 100000 in
set_option maxHeartbeats 2000000 in
theorem rfails_ok (p : Plan) (h : p.Ok) (w : World) :
    Calls Try.prog 65 #[planV p] w fun e w' => e = .returned (.int .i64 0) ∧ Grow w w' := by
  have hF := Lib.hid (rfirst_ok p h.known)
  have hN := Lib.hid (rnumbers_ok p h.known)
  obtain ⟨g1, g2⟩ := g_bd h.known
  obtain ⟨e1, e2⟩ := e_bd h.known
  obtain ⟨a1, a2⟩ := a_bd h.known
  obtain ⟨r1, r2⟩ := R_bd h.known
  have hdr := dr_bd h.known h.c9
  have hpi := pi_bd h.known h.c4
  have hwi := window_bd h.known h.c4 h.c5
  have hca := cap_bd h.known h.c6
  have hso := off_bd h.known h.c4 h.c5 h.c6 h.c7
  obtain ⟨c1, c2, c3, c4, c5, c6, c7, c8, c9, c10, c11⟩ := h
  unfold Plan.c4 Plan.lPi at c4
  unfold Plan.c5 Plan.lWindow at c5
  unfold Plan.c6 Plan.lCap at c6
  unfold Plan.c7 Plan.lOff at c7
  unfold Plan.c8 Plan.lSlot at c8
  unfold Plan.c2 at c2
  unfold Plan.c3 at c3
  unfold Plan.c9 at c9
  unfold Plan.c10 Plan.lDelta at c10
  unfold Plan.c11 at c11
  obtain ⟨k1, k2⟩ := c4
  obtain ⟨k3, k4⟩ := c5
  obtain ⟨k5, k6⟩ := c6
  obtain ⟨k7, k8⟩ := c7
  obtain ⟨m1, m2, m3, m4, m5⟩ := c2
  obtain ⟨m6, m7, m8, m9⟩ := c3
  obtain ⟨n1, n2, n3, n4, n5, n6⟩ := c9
  obtain ⟨k9, k10⟩ := c10
  obtain ⟨k11, k12⟩ := c11
  obtain ⟨hpi1, hpi2⟩ := hpi
  obtain ⟨hwi1, hwi2⟩ := hwi
  obtain ⟨hca1, hca2⟩ := hca
  obtain ⟨hso1, hso2⟩ := hso
  have j8 : p.sendOff + p.window + 2 * p.dmax + 2 * p.air + p.cap + p.pi + 8 ≤ p.slot := by omega
  have j4 : 2 * (p.a + p.g) + p.e ≤ p.pi := k1
  have q0 : 0 ≤ p.queue / p.burst := Int.ediv_nonneg (by omega) (by omega)
  have q1 : p.queue / p.burst ≤ 64 := Int.le_trans (Int.ediv_le_self _ (by omega)) (by omega)
  have q2 : p.queue / p.burst * p.burst ≤ p.queue := Int.ediv_mul_le p.queue (by omega)
  have q3 : 0 ≤ p.queue / p.burst * p.burst := Int.mul_nonneg q0 (by omega)
  have hb : ¬ p.burst = 0 := by omega
  by_cases hq : p.queue / p.burst * p.burst < p.queue
  · rw [ceil_lt n3 n1 hq] at k9 hdr
    obtain ⟨d1, d2⟩ := hdr
    unfold Plan.R at *
    clear c1 c8 k1
    unfold planV planC
    go_enter Try.func65, Try.ntmps65
    go_wp2_with (first
      | (go_at_call 89; refine (hF.out _).mono ?_; rintro e w1 ⟨rfl, hg⟩; obtain ⟨hc, hf⟩ := hg.cells; have hr1 := hg.row (row_new _ _); have hz : w.heap.size < w1.heap.size := (Array.getElem?_eq_some_iff.1 hr1).1)
      | (go_at_call 90; refine (hN.out _).mono ?_; rintro e w2 ⟨rfl, hg2⟩; obtain ⟨hc2, hf2⟩ := hg2.cells)
      | (refine wpList_isload 23 _ rfl ?_; refine wpList_load_rowg 23 _ rfl rfl _ rfl _ _ _ _ (by first | exact row_new _ _ | exact row_old (row_new _ _) | exact row_old (row_old (row_new _ _)) | exact row_old (row_old (row_old (row_new _ _))) | assumption) Try.underlying23 rfl (by kernel_rfl) ?_))
    go_ret
    exact ⟨rfl, (((Grow.refl _).alloc _).trans hg).trans hg2⟩
  · rw [ceil_eq n3 n1 hq] at k9 hdr
    obtain ⟨d1, d2⟩ := hdr
    unfold Plan.R at *
    clear c1 c8 k1
    unfold planV planC
    go_enter Try.func65, Try.ntmps65
    go_wp2_with (first
      | (go_at_call 89; refine (hF.out _).mono ?_; rintro e w1 ⟨rfl, hg⟩; obtain ⟨hc, hf⟩ := hg.cells; have hr1 := hg.row (row_new _ _); have hz : w.heap.size < w1.heap.size := (Array.getElem?_eq_some_iff.1 hr1).1)
      | (go_at_call 90; refine (hN.out _).mono ?_; rintro e w2 ⟨rfl, hg2⟩; obtain ⟨hc2, hf2⟩ := hg2.cells)
      | (refine wpList_isload 23 _ rfl ?_; refine wpList_load_rowg 23 _ rfl rfl _ rfl _ _ _ _ (by first | exact row_new _ _ | exact row_old (row_new _ _) | exact row_old (row_old (row_new _ _)) | exact row_old (row_old (row_old (row_new _ _))) | assumption) Try.underlying23 rfl (by kernel_rfl) ?_))
    go_ret
    exact ⟨rfl, (((Grow.refl _).alloc _).trans hg).trans hg2⟩
end Go.Proofs.Ytelmgipnlflmaaa
