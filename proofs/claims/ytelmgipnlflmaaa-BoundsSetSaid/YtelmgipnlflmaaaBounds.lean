/-
  Package bounds: what a plan's clocks do, of a plan that may be. Conditions: those that stand ahead of each.
-/
import Derived.Test.YtelmgipnlflmaaaNumber
namespace Go.Proofs.Ytelmgipnlflmaaa
open Go.RowKit

def goL (rho t : Int) : Int := mx 0 (t * (rho - 1) / rho - 1)
def goM (rho t : Int) : Int := (t * (rho + 1) + rho - 1) / rho + 1
def reL (rho x : Int) : Int := (x - 1) * rho / (rho + 1)
def reM (rho x : Int) : Int := ((x + 1) * rho + (rho - 1) - 1) / (rho - 1)
def turnsN (rho r cap t : Int) : Int := t / reL rho (r - cap) + 1

set_option maxHeartbeats 400000 in
theorem down_any (a b : Int) (ha : 0 ≤ a) (ha2 : a ≤ 4611686018427387904) (hb : 1 ≤ b) (w : World) :
    Calls Try.prog 91 #[.int .i64 a, .int .i64 b] w fun e w' => e = .returned (.int .i64 (a / b)) ∧ w = w' := by
  have h0 : ¬ b = 0 := by omega
  have w1 := quo_of a b ha
  have w2 := iw (a / b) (Int.le_trans (by omega) (Int.ediv_nonneg ha (by omega))) (Int.le_trans (Int.ediv_le_self b ha) (by omega))
  clear hb ha
  go_enter Try.func91, Try.ntmps91
  go_wp2
  go_ret
  exact ⟨rfl, rfl⟩
set_option maxHeartbeats 400000 in
theorem up_any (a b : Int) (ha : 0 ≤ a) (hb : 1 ≤ b) (hs : a + b ≤ 4611686018427387904) (w : World) :
    Calls Try.prog 92 #[.int .i64 a, .int .i64 b] w fun e w' => e = .returned (.int .i64 ((a + b - 1) / b)) ∧ w = w' := by
  have h0 : ¬ b = 0 := by omega
  have w0 := iw (a + b) (by omega) (by omega)
  have w00 := iw (a + b - 1) (by omega) (by omega)
  have w1 := quo_of (a + b - 1) b (by omega)
  have w2 := iw ((a + b - 1) / b) (Int.le_trans (by omega) (Int.ediv_nonneg (show 0 ≤ a + b - 1 by omega) (by omega))) (Int.le_trans (Int.ediv_le_self b (by omega)) (by omega))
  clear hb ha hs
  go_enter Try.func92, Try.ntmps92
  go_wp2
  go_ret
  exact ⟨rfl, rfl⟩

theorem mul_bd {a b x y : Int} (ha : 0 ≤ a) (hx : a ≤ x) (hb : 0 ≤ b) (hy : b ≤ y) : 0 ≤ a * b ∧ a * b ≤ x * y :=
  ⟨Int.mul_nonneg ha hb, Int.mul_le_mul hx hy hb (Int.le_trans ha hx)⟩
theorem quo_bd {a b : Int} (ha : 0 ≤ a) (hb : 1 ≤ b) : 0 ≤ a / b ∧ a / b ≤ a := ⟨Int.ediv_nonneg ha (by omega), Int.ediv_le_self b ha⟩
set_option maxRecDepth 100000 in
set_option maxHeartbeats 1000000 in
theorem goes_any (rho t : Int) (h1 : 4 ≤ rho) (h2 : rho ≤ 1048576) (h3 : 0 ≤ t) (h4 : t ≤ 4294967296) (w : World) :
    Calls Try.prog 67 #[.agg #[.int .i64 rho], .int .i64 t] w fun e w' => e = .returned (.tuple #[.int .i64 (goL rho t), .int .i64 (goM rho t)]) ∧ Grow w w' := by
  obtain ⟨a1, a2⟩ := mul_bd h3 h4 (show 0 ≤ rho - 1 by omega) (show rho - 1 ≤ 1048576 by omega)
  obtain ⟨a3, a4⟩ := mul_bd h3 h4 (show 0 ≤ rho + 1 by omega) (show rho + 1 ≤ 1048577 by omega)
  obtain ⟨a5, a6⟩ := quo_bd a1 (show 1 ≤ rho by omega)
  obtain ⟨a7, a8⟩ := quo_bd (show 0 ≤ t * (rho + 1) + rho - 1 by omega) (show 1 ≤ rho by omega)
  have w1 := iw (rho - 1) (by omega) (by omega)
  have w2 := iw (rho + 1) (by omega) (by omega)
  have w3 := iw (t * (rho - 1)) (by omega) (by omega)
  have w4 := iw (t * (rho + 1)) (by omega) (by omega)
  have w5 := iw (t * (rho - 1) / rho - 1) (by omega) (by omega)
  have w6 := iw ((t * (rho + 1) + rho - 1) / rho + 1) (by omega) (by omega)
  have D := Lib.hid (down_any (t * (rho - 1)) rho a1 (by omega) (by omega))
  have U := Lib.hid (up_any (t * (rho + 1)) rho a3 (by omega) (by omega))
  clear a2 a4 a6 a8
  unfold goL goM mx
  by_cases hq : 1 < t * (rho - 1) / rho
  · rw [if_pos (show t * (rho - 1) / rho - 1 > 0 by omega)]
    have h0 : 0 < t * (rho - 1) / rho - 1 := by omega
    clear a1 a3 a5 a7 h1 h2 h3 h4
    go_enter Try.func67, Try.ntmps67
    go_wp2
    refine wp_region_grow (by kernel_rfl) (by kernel_rfl) ?_
    repeat
      apply wpQuiet_op rfl
      · intro W hW
        first
          | (obtain ⟨hc, hf⟩ := hW.cells
             go_simp
             first
               | (go_at_call 91; exact Calls.grow hW (Calls.grows (D.out _)))
               | (go_at_call 92; exact Calls.grow hW (Calls.grows (U.out _)))
               | exact rfl
               | exact ⟨rfl, rfl⟩)
      simp only [Act.put, List.setIfInBounds_toArray, List.set_cons_zero, List.set_cons_succ]
    refine wpQuiet_nil ?_
    intro W hW
    have hz := hW.size
    obtain ⟨hc, hf⟩ := hW.cells
    go_wp2
    go_ret2
    exact ⟨rfl, ((Grow.refl _).alloc _).trans hW⟩
  · rw [if_neg (show ¬ t * (rho - 1) / rho - 1 > 0 by omega)]
    have h0 : ¬ 0 < t * (rho - 1) / rho - 1 := by omega
    clear a1 a3 a5 a7 h1 h2 h3 h4
    go_enter Try.func67, Try.ntmps67
    go_wp2
    refine wp_region_grow (by kernel_rfl) (by kernel_rfl) ?_
    repeat
      apply wpQuiet_op rfl
      · intro W hW
        first
          | (obtain ⟨hc, hf⟩ := hW.cells
             go_simp
             first
               | (go_at_call 91; exact Calls.grow hW (Calls.grows (D.out _)))
               | (go_at_call 92; exact Calls.grow hW (Calls.grows (U.out _)))
               | exact rfl
               | exact ⟨rfl, rfl⟩)
      simp only [Act.put, List.setIfInBounds_toArray, List.set_cons_zero, List.set_cons_succ]
    refine wpQuiet_nil ?_
    intro W hW
    have hz := hW.size
    obtain ⟨hc, hf⟩ := hW.cells
    go_wp2
    go_ret2
    exact ⟨rfl, ((Grow.refl _).alloc _).trans hW⟩
set_option maxRecDepth 100000 in
set_option maxHeartbeats 1000000 in
theorem real_any (rho x : Int) (h1 : 4 ≤ rho) (h2 : rho ≤ 1048576) (h3 : 2 ≤ x) (h4 : x ≤ 4294967296) (w : World) :
    Calls Try.prog 69 #[.agg #[.int .i64 rho], .int .i64 x] w fun e w' => e = .returned (.tuple #[.int .i64 (reL rho x), .int .i64 (reM rho x)]) ∧ Grow w w' := by
  obtain ⟨a1, a2⟩ := mul_bd (show 0 ≤ x - 1 by omega) (show x - 1 ≤ 4294967296 by omega) (show 0 ≤ rho by omega) h2
  obtain ⟨a3, a4⟩ := mul_bd (show 0 ≤ x + 1 by omega) (show x + 1 ≤ 4294967297 by omega) (show 0 ≤ rho by omega) h2
  have w1 := iw (x - 1) (by omega) (by omega)
  have w2 := iw (x + 1) (by omega) (by omega)
  have w3 := iw ((x - 1) * rho) (by omega) (by omega)
  have w4 := iw ((x + 1) * rho) (by omega) (by omega)
  have w5 := iw (rho - 1) (by omega) (by omega)
  have w6 := iw (rho + 1) (by omega) (by omega)
  have D := Lib.hid (down_any ((x - 1) * rho) (rho + 1) a1 (by omega) (by omega))
  have U := Lib.hid (up_any ((x + 1) * rho) (rho - 1) a3 (by omega) (by omega))
  have h0 : 0 < x - 1 := by omega
  have h00 : 1 < x := by omega
  clear a1 a2 a3 a4 h1 h2 h3 h4
  unfold reL reM
  go_enter Try.func69, Try.ntmps69
  go_wp2
  refine wp_region_grow (by kernel_rfl) (by kernel_rfl) ?_
  repeat
    apply wpQuiet_op rfl
    · intro W hW
      first
        | (obtain ⟨hc, hf⟩ := hW.cells
           go_simp
           first
             | (go_at_call 91; exact Calls.grow hW (Calls.grows (D.out _)))
             | (go_at_call 92; exact Calls.grow hW (Calls.grows (U.out _)))
             | exact rfl
             | exact ⟨rfl, rfl⟩)
    simp only [Act.put, List.setIfInBounds_toArray, List.set_cons_zero, List.set_cons_succ]
  refine wpQuiet_nil ?_
  intro W hW
  have hz := hW.size
  obtain ⟨hc, hf⟩ := hW.cells
  go_wp2
  go_ret2
  exact ⟨rfl, ((Grow.refl _).alloc _).trans hW⟩

theorem cap_lt {p : Plan} (h : p.Ok) : 56 ≤ p.cap ∧ p.cap ≤ p.slot := by
  have hc := cap_bd h.known h.c6
  have h8 := h.c8
  have := off_bd h.known h.c4 h.c5 h.c6 h.c7
  have := window_bd h.known h.c4 h.c5
  have := pi_bd h.known h.c4
  have := h.c2
  unfold Plan.c8 Plan.lSlot at h8
  unfold Plan.c2 at *
  omega
theorem rc_bd {p : Plan} (h : p.Ok) : 1338 ≤ p.R - p.cap ∧ p.R - p.cap ≤ 16777216 := by
  have hc := cap_lt h
  have hs := slot_bd h
  have hR := R_bd h.known
  have hn := h.c1
  unfold Plan.c1 at hn
  have h4 : 4 * p.slot ≤ p.R := Int.mul_le_mul_of_nonneg_right hn.1 (by omega)
  omega
theorem reL_bd {rho x : Int} (h1 : 4 ≤ rho) (h3 : 1338 ≤ x) (h4 : x ≤ 16777216) : 2 ≤ reL rho x ∧ reL rho x ≤ 16777216 := by
  unfold reL
  constructor
  · refine (Int.le_ediv_iff_mul_le (by omega)).2 ?_
    have : 1337 * rho ≤ (x - 1) * rho := Int.mul_le_mul_of_nonneg_right (by omega) (by omega)
    omega
  · refine Int.le_trans (Int.ediv_le_ediv (by omega) (Int.mul_le_mul_of_nonneg_left (show rho ≤ rho + 1 by omega) (show 0 ≤ x - 1 by omega))) ?_
    rw [Int.mul_ediv_cancel _ (by omega)]
    omega
theorem turns_bd {rho r cap t : Int} (h1 : 4 ≤ rho) (h3 : 1338 ≤ r - cap) (h4 : r - cap ≤ 16777216) (h5 : 0 ≤ t) (h6 : t ≤ 4294967296) : 1 ≤ turnsN rho r cap t ∧ turnsN rho r cap t ≤ 4294967297 := by
  have := reL_bd h1 h3 h4
  have := quo_bd h5 (show 1 ≤ reL rho (r - cap) by omega)
  unfold turnsN
  omega
set_option maxRecDepth 100000 in
set_option maxHeartbeats 1000000 in
theorem turns_any (rho r cap t : Int) (h1 : 4 ≤ rho) (h2 : rho ≤ 1048576) (h3 : 1338 ≤ r - cap) (h4 : r - cap ≤ 16777216) (h5 : 0 ≤ t) (h6 : t ≤ 4294967296) (w : World) :
    Calls Try.prog 76 #[.agg (ofC rho r cap), .int .i64 t] w fun e w' => e = .returned (.int .i64 (turnsN rho r cap t)) ∧ Grow w w' := by
  obtain ⟨b1, b2⟩ := reL_bd h1 h3 h4
  obtain ⟨b3, b4⟩ := turns_bd h1 h3 h4 h5 h6
  have w1 := iw (r - cap) (by omega) (by omega)
  unfold turnsN at *
  have w2 := iw (t / reL rho (r - cap) + 1) (by omega) (by omega)
  have RR := Lib.hid (real_any rho (r - cap) h1 h2 (by omega) (by omega))
  have D := Lib.hid (down_any t (reL rho (r - cap)) h5 (by omega) (by omega))
  have b5 : 1 < reL rho (r - cap) := by omega
  clear h1 h2 h3 h4 b1 b2 b3 b4
  unfold ofC
  go_enter Try.func76, Try.ntmps76
  go_wp2_with (first
    | (go_at_call 69; refine (RR.out _).mono ?_; rintro e w1 ⟨rfl, hg⟩)
    | (go_at_call 91; refine (D.out _).mono ?_; rintro e w2 ⟨rfl, rfl⟩))
  go_ret
  exact ⟨rfl, ((Grow.refl _).alloc _).trans hg⟩

def enL (rho r cap t : Int) : Int := goL rho t - cap * turnsN rho r cap t
def enM (rho r cap t : Int) : Int := goM rho t + cap * turnsN rho r cap t
theorem goL_bd {rho t : Int} (h1 : 4 ≤ rho) (h2 : rho ≤ 1048576) (h3 : 0 ≤ t) (h4 : t ≤ 4294967296) : 0 ≤ goL rho t ∧ goL rho t ≤ 4503599627370496 ∧ 0 ≤ goM rho t ∧ goM rho t ≤ 4503603923386368 := by
  obtain ⟨a1, a2⟩ := mul_bd h3 h4 (show 0 ≤ rho - 1 by omega) (show rho - 1 ≤ 1048576 by omega)
  obtain ⟨a3, a4⟩ := mul_bd h3 h4 (show 0 ≤ rho + 1 by omega) (show rho + 1 ≤ 1048577 by omega)
  obtain ⟨a5, a6⟩ := quo_bd a1 (show 1 ≤ rho by omega)
  obtain ⟨a7, a8⟩ := quo_bd (show 0 ≤ t * (rho + 1) + rho - 1 by omega) (show 1 ≤ rho by omega)
  unfold goL goM mx
  split <;> omega
set_option maxRecDepth 100000 in
set_option maxHeartbeats 1000000 in
theorem envelope_any (rho r cap t : Int) (h1 : 4 ≤ rho) (h2 : rho ≤ 1048576) (h3 : 1338 ≤ r - cap) (h4 : r - cap ≤ 16777216) (h5 : 0 ≤ t) (h6 : t ≤ 4294967296) (h7 : 0 ≤ cap) (h8 : cap ≤ 1048576) (w : World) :
    Calls Try.prog 51 #[.agg (ofC rho r cap), .int .i64 t] w fun e w' => e = .returned (.tuple #[.int .i64 (enL rho r cap t), .int .i64 (enM rho r cap t)]) ∧ Grow w w' := by
  obtain ⟨b1, b2⟩ := turns_bd h1 h3 h4 h5 h6
  obtain ⟨b3, b4, b5, b6⟩ := goL_bd h1 h2 h5 h6
  obtain ⟨b7, b8⟩ := mul_bd h7 h8 (show 0 ≤ turnsN rho r cap t by omega) b2
  have w1 := iw (cap * turnsN rho r cap t) (by omega) (by omega)
  have w2 := iw (goL rho t - cap * turnsN rho r cap t) (by omega) (by omega)
  have w3 := iw (goM rho t + cap * turnsN rho r cap t) (by omega) (by omega)
  have G := Lib.hid (goes_any rho t h1 h2 h5 h6)
  have T := Lib.hid (turns_any rho r cap t h1 h2 h3 h4 h5 h6)
  have hr0 := row_new w (.cells (ofC rho r cap) 88)
  clear h1 h2 h3 h4 h5 h6 h7 h8 b1 b2 b3 b4 b5 b6 b7 b8
  unfold enL enM
  unfold ofC
  go_enter Try.func51, Try.ntmps51
  go_wp2_with (go_at_call 67; refine (G.out _).mono ?_; rintro e w1 ⟨rfl, hg⟩; have hr1 := hg.row hr0; have k2 : w1.cell? ⟨w.heap.size, 2, none⟩ = some (.int .i64 cap) := cell_of_row w1 _ 2 _ _ _ hr1; have hzz : w.heap.size < w1.heap.size := (Array.getElem?_eq_some_iff.1 hr1).1)
  refine wp_region_grow (by kernel_rfl) (by kernel_rfl) ?_
  repeat
    apply wpQuiet_op rfl
    · intro W hW
      first
        | exact quiet_load_row 88 _ rfl _ rfl _ _ _ _ (hW.row (by first | exact row_new _ _ | exact row_old (row_new _ _) | exact row_old (row_old (row_new _ _)) | exact row_old (row_old (row_old (row_new _ _))) | assumption)) Try.underlying88 rfl (by kernel_rfl)
        | (obtain ⟨hc, hf⟩ := hW.cells
           go_simp
           first
             | (go_at_call 76; exact Calls.grow hW (T.out _))
             | exact rfl
             | exact ⟨rfl, rfl⟩)
    simp only [Act.put, List.setIfInBounds_toArray, List.set_cons_zero, List.set_cons_succ]
  refine wpQuiet_nil ?_
  intro W hW
  have hz := hW.size
  obtain ⟨hc, hf⟩ := hW.cells
  go_wp2
  go_ret2
  exact ⟨rfl, (((Grow.refl _).alloc _).trans hg).trans hW⟩
set_option maxRecDepth 100000 in
set_option maxHeartbeats 1000000 in
theorem env_clos (p : Plan) (t : Int) (h : p.Ok) (h0 : 0 ≤ t) (h1 : t ≤ 4294967296) (B : Nat) (w : World) (hB : w.cell? ⟨B, 0, none⟩ = some (.int .i64 t)) (hlt : B < w.heap.size) :
    Calls Try.prog 50 #[.agg (ofC p.rho p.R p.cap), .pointer (some ⟨B, 0, none⟩)] w fun e w' => e = .returned (.tuple #[.int .i64 (enL p.rho p.R p.cap t), .int .i64 (enM p.rho p.R p.cap t)]) ∧ Grow w w' := by
  have E := Lib.hid (envelope_any p.rho p.R p.cap t h.c3.2.2.1 h.c3.2.2.2 (rc_bd h).1 (rc_bd h).2 h0 h1 (by have := cap_lt h; omega) (by have := cap_lt h; have := slot_bd h; omega))
  have hne : ¬ B = w.heap.size := by omega
  clear h h0 h1
  unfold ofC
  go_enter Try.func50, Try.ntmps50
  go_wp2_with (first
    | (go_at_call 51; refine (E.out _).mono ?_; rintro e w1 ⟨rfl, hg⟩)
    | (refine wpList_isload 88 _ rfl ?_; refine wpList_load_rowg 88 _ rfl rfl _ rfl _ _ _ _ (by first | exact row_new _ _ | exact row_old (row_new _ _) | exact row_old (row_old (row_new _ _)) | exact row_old (row_old (row_old (row_new _ _))) | assumption) Try.underlying88 rfl (by kernel_rfl) ?_))
  go_ret2
  exact ⟨rfl, ((Grow.refl _).alloc _).trans hg⟩
set_option maxRecDepth 100000 in
set_option maxHeartbeats 1000000 in
theorem env_asked (p : Plan) (t : Int) (h : p.Ok) (h0 : 0 ≤ t) (h1 : t ≤ 4294967296) (B : Nat) (w : World) (hB : w.cell? ⟨B, 0, none⟩ = some (.int .i64 t)) (hlt : B < w.heap.size) :
    Calls Try.prog 49 #[planV p, .int .i64 t, .func (.func 50) #[] #[.pointer (some ⟨B, 0, none⟩)]] w fun e w' => e = .returned (.tuple #[.int .i64 (enL p.rho p.R p.cap t), .int .i64 (enM p.rho p.R p.cap t), .int .i64 0]) ∧ Grow w w' := by
  have NN := Lib.hid (number_ok p t h h0 h1)
  have CC := Lib.hid (env_clos p t h h0 h1 B)
  clear h h0 h1
  go_enter Try.func49, Try.ntmps49
  go_wp2_with (first
    | (go_at_call 75; refine (NN.out _).mono ?_; rintro e w1 ⟨rfl, hg⟩; have hlt1 : B < w1.heap.size := Nat.lt_of_lt_of_le hlt (Nat.le_trans (by simp) hg.size); have k1 : w1.cell? ⟨B, 0, none⟩ = some (.int .i64 t) := (hg.cells.1 B 0 (by simp; omega)).trans ((Below.cell ((Grow.refl w).alloc (.cells (planC p) 23)) (p := ⟨B, 0, none⟩) hlt).trans hB); have hne : ¬ B = w1.heap.size := by omega)
    | (go_at_call 50; refine (CC.out _ (cell_kept hlt1 k1) (by simp; omega)).mono ?_; rintro e w2 ⟨rfl, hg2⟩)
    | (refine wpList_store_new 88 _ _ rfl rfl _ (ofC p.rho p.R p.cap) _ _ rfl rfl (by kernel_rfl) rfl (by kernel_rfl) ?_)
    | (refine wpList_isload 23 _ rfl ?_; refine wpList_load_rowg 23 _ rfl rfl _ rfl _ _ _ _ (by first | exact row_new _ _ | exact row_old (row_new _ _) | exact row_old (row_old (row_new _ _)) | exact row_old (row_old (row_old (row_new _ _))) | assumption) Try.underlying23 rfl (by kernel_rfl) ?_) | (refine wpList_isload 88 _ rfl ?_; refine wpList_load_rowg 88 _ rfl rfl _ rfl _ _ _ _ (by first | exact row_new _ _ | exact row_old (row_new _ _) | exact row_old (row_old (row_new _ _)) | exact row_old (row_old (row_old (row_new _ _))) | assumption) Try.underlying88 rfl (by kernel_rfl) ?_))
  go_ret3
  exact ⟨rfl, ((((Grow.refl _).alloc _).trans hg).alloc _).trans hg2⟩
set_option maxRecDepth 100000 in
set_option maxHeartbeats 1000000 in
theorem Benv (p : Plan) (t : Int) (h : p.Ok) (h0 : 0 ≤ t) (h1 : t ≤ 4294967296) (w : World) :
    Calls Try.prog 19 #[planV p, .int .i64 t] w fun e w' => e = .returned (.tuple #[.int .i64 (enL p.rho p.R p.cap t), .int .i64 (enM p.rho p.R p.cap t), .int .i64 0]) ∧ Grow w w' := by
  have AA := Lib.hid (env_asked p t h h0 h1)
  clear h h0 h1
  go_enter Try.func19, Try.ntmps19
  go_wp2_with (first
    | (go_at_call 49; refine (AA.out (w.heap.size + 1) _ (cell_two_at w _ _ _) (by simp)).mono ?_; rintro e w1 ⟨rfl, hg⟩)
    | (refine wpList_isload 23 _ rfl ?_; refine wpList_load_rowg 23 _ rfl rfl _ rfl _ _ _ _ (by first | exact row_new _ _ | exact row_old (row_new _ _) | exact row_old (row_old (row_new _ _)) | exact row_old (row_old (row_old (row_new _ _))) | assumption) Try.underlying23 rfl (by kernel_rfl) ?_))
  go_ret3
  exact ⟨rfl, (((Grow.refl _).alloc _).alloc _).trans hg⟩
set_option maxRecDepth 100000 in
set_option maxHeartbeats 1000000 in
theorem goe_clos (p : Plan) (t : Int) (h : p.Ok) (h0 : 0 ≤ t) (h1 : t ≤ 4294967296) (B : Nat) (w : World) (hB : w.cell? ⟨B, 0, none⟩ = some (.int .i64 t)) (hlt : B < w.heap.size) :
    Calls Try.prog 66 #[.agg (ofC p.rho p.R p.cap), .pointer (some ⟨B, 0, none⟩)] w fun e w' => e = .returned (.tuple #[.int .i64 (goL p.rho t), .int .i64 (goM p.rho t)]) ∧ Grow w w' := by
  have E := Lib.hid (goes_any p.rho t h.c3.2.2.1 h.c3.2.2.2 h0 h1)
  have hne : ¬ B = w.heap.size := by omega
  clear h h0 h1
  unfold ofC
  go_enter Try.func66, Try.ntmps66
  go_wp2_with (first
    | (go_at_call 67; refine (E.out _).mono ?_; rintro e w1 ⟨rfl, hg⟩)
    | (refine wpList_isload 88 _ rfl ?_; refine wpList_load_rowg 88 _ rfl rfl _ rfl _ _ _ _ (by first | exact row_new _ _ | exact row_old (row_new _ _) | exact row_old (row_old (row_new _ _)) | exact row_old (row_old (row_old (row_new _ _))) | assumption) Try.underlying88 rfl (by kernel_rfl) ?_))
  go_ret2
  exact ⟨rfl, ((Grow.refl _).alloc _).trans hg⟩
set_option maxRecDepth 100000 in
set_option maxHeartbeats 1000000 in
theorem goe_asked (p : Plan) (t : Int) (h : p.Ok) (h0 : 0 ≤ t) (h1 : t ≤ 4294967296) (B : Nat) (w : World) (hB : w.cell? ⟨B, 0, none⟩ = some (.int .i64 t)) (hlt : B < w.heap.size) :
    Calls Try.prog 49 #[planV p, .int .i64 t, .func (.func 66) #[] #[.pointer (some ⟨B, 0, none⟩)]] w fun e w' => e = .returned (.tuple #[.int .i64 (goL p.rho t), .int .i64 (goM p.rho t), .int .i64 0]) ∧ Grow w w' := by
  have NN := Lib.hid (number_ok p t h h0 h1)
  have CC := Lib.hid (goe_clos p t h h0 h1 B)
  clear h h0 h1
  go_enter Try.func49, Try.ntmps49
  go_wp2_with (first
    | (go_at_call 75; refine (NN.out _).mono ?_; rintro e w1 ⟨rfl, hg⟩; have hlt1 : B < w1.heap.size := Nat.lt_of_lt_of_le hlt (Nat.le_trans (by simp) hg.size); have k1 : w1.cell? ⟨B, 0, none⟩ = some (.int .i64 t) := (hg.cells.1 B 0 (by simp; omega)).trans ((Below.cell ((Grow.refl w).alloc (.cells (planC p) 23)) (p := ⟨B, 0, none⟩) hlt).trans hB); have hne : ¬ B = w1.heap.size := by omega)
    | (go_at_call 66; refine (CC.out _ (cell_kept hlt1 k1) (by simp; omega)).mono ?_; rintro e w2 ⟨rfl, hg2⟩)
    | (refine wpList_store_new 88 _ _ rfl rfl _ (ofC p.rho p.R p.cap) _ _ rfl rfl (by kernel_rfl) rfl (by kernel_rfl) ?_)
    | (refine wpList_isload 23 _ rfl ?_; refine wpList_load_rowg 23 _ rfl rfl _ rfl _ _ _ _ (by first | exact row_new _ _ | exact row_old (row_new _ _) | exact row_old (row_old (row_new _ _)) | exact row_old (row_old (row_old (row_new _ _))) | assumption) Try.underlying23 rfl (by kernel_rfl) ?_) | (refine wpList_isload 88 _ rfl ?_; refine wpList_load_rowg 88 _ rfl rfl _ rfl _ _ _ _ (by first | exact row_new _ _ | exact row_old (row_new _ _) | exact row_old (row_old (row_new _ _)) | exact row_old (row_old (row_old (row_new _ _))) | assumption) Try.underlying88 rfl (by kernel_rfl) ?_))
  go_ret3
  exact ⟨rfl, ((((Grow.refl _).alloc _).trans hg).alloc _).trans hg2⟩
set_option maxRecDepth 100000 in
set_option maxHeartbeats 1000000 in
theorem Bgoe (p : Plan) (t : Int) (h : p.Ok) (h0 : 0 ≤ t) (h1 : t ≤ 4294967296) (w : World) :
    Calls Try.prog 40 #[planV p, .int .i64 t] w fun e w' => e = .returned (.tuple #[.int .i64 (goL p.rho t), .int .i64 (goM p.rho t), .int .i64 0]) ∧ Grow w w' := by
  have AA := Lib.hid (goe_asked p t h h0 h1)
  clear h h0 h1
  go_enter Try.func40, Try.ntmps40
  go_wp2_with (first
    | (go_at_call 49; refine (AA.out (w.heap.size + 1) _ (cell_two_at w _ _ _) (by simp)).mono ?_; rintro e w1 ⟨rfl, hg⟩)
    | (refine wpList_isload 23 _ rfl ?_; refine wpList_load_rowg 23 _ rfl rfl _ rfl _ _ _ _ (by first | exact row_new _ _ | exact row_old (row_new _ _) | exact row_old (row_old (row_new _ _)) | exact row_old (row_old (row_old (row_new _ _))) | assumption) Try.underlying23 rfl (by kernel_rfl) ?_))
  go_ret3
  exact ⟨rfl, (((Grow.refl _).alloc _).alloc _).trans hg⟩
set_option maxRecDepth 100000 in
set_option maxHeartbeats 1000000 in
theorem rea_clos (p : Plan) (t : Int) (h : p.Ok) (_h0 : 0 ≤ t) (h1 : t ≤ 4294967296) (h2 : 2 ≤ t) (B : Nat) (w : World) (hB : w.cell? ⟨B, 0, none⟩ = some (.int .i64 t)) (hlt : B < w.heap.size) :
    Calls Try.prog 68 #[.agg (ofC p.rho p.R p.cap), .pointer (some ⟨B, 0, none⟩)] w fun e w' => e = .returned (.tuple #[.int .i64 (reL p.rho t), .int .i64 (reM p.rho t)]) ∧ Grow w w' := by
  have E := Lib.hid (real_any p.rho t h.c3.2.2.1 h.c3.2.2.2 h2 h1)
  have hne : ¬ B = w.heap.size := by omega
  clear h _h0 h1
  unfold ofC
  go_enter Try.func68, Try.ntmps68
  go_wp2_with (first
    | (go_at_call 69; refine (E.out _).mono ?_; rintro e w1 ⟨rfl, hg⟩)
    | (refine wpList_isload 88 _ rfl ?_; refine wpList_load_rowg 88 _ rfl rfl _ rfl _ _ _ _ (by first | exact row_new _ _ | exact row_old (row_new _ _) | exact row_old (row_old (row_new _ _)) | exact row_old (row_old (row_old (row_new _ _))) | assumption) Try.underlying88 rfl (by kernel_rfl) ?_))
  go_ret2
  exact ⟨rfl, ((Grow.refl _).alloc _).trans hg⟩
set_option maxRecDepth 100000 in
set_option maxHeartbeats 1000000 in
theorem rea_asked (p : Plan) (t : Int) (h : p.Ok) (h0 : 0 ≤ t) (h1 : t ≤ 4294967296) (h2 : 2 ≤ t) (B : Nat) (w : World) (hB : w.cell? ⟨B, 0, none⟩ = some (.int .i64 t)) (hlt : B < w.heap.size) :
    Calls Try.prog 49 #[planV p, .int .i64 t, .func (.func 68) #[] #[.pointer (some ⟨B, 0, none⟩)]] w fun e w' => e = .returned (.tuple #[.int .i64 (reL p.rho t), .int .i64 (reM p.rho t), .int .i64 0]) ∧ Grow w w' := by
  have NN := Lib.hid (number_ok p t h h0 h1)
  have CC := Lib.hid (rea_clos p t h h0 h1 h2 B)
  clear h h0 h1
  go_enter Try.func49, Try.ntmps49
  go_wp2_with (first
    | (go_at_call 75; refine (NN.out _).mono ?_; rintro e w1 ⟨rfl, hg⟩; have hlt1 : B < w1.heap.size := Nat.lt_of_lt_of_le hlt (Nat.le_trans (by simp) hg.size); have k1 : w1.cell? ⟨B, 0, none⟩ = some (.int .i64 t) := (hg.cells.1 B 0 (by simp; omega)).trans ((Below.cell ((Grow.refl w).alloc (.cells (planC p) 23)) (p := ⟨B, 0, none⟩) hlt).trans hB); have hne : ¬ B = w1.heap.size := by omega)
    | (go_at_call 68; refine (CC.out _ (cell_kept hlt1 k1) (by simp; omega)).mono ?_; rintro e w2 ⟨rfl, hg2⟩)
    | (refine wpList_store_new 88 _ _ rfl rfl _ (ofC p.rho p.R p.cap) _ _ rfl rfl (by kernel_rfl) rfl (by kernel_rfl) ?_)
    | (refine wpList_isload 23 _ rfl ?_; refine wpList_load_rowg 23 _ rfl rfl _ rfl _ _ _ _ (by first | exact row_new _ _ | exact row_old (row_new _ _) | exact row_old (row_old (row_new _ _)) | exact row_old (row_old (row_old (row_new _ _))) | assumption) Try.underlying23 rfl (by kernel_rfl) ?_) | (refine wpList_isload 88 _ rfl ?_; refine wpList_load_rowg 88 _ rfl rfl _ rfl _ _ _ _ (by first | exact row_new _ _ | exact row_old (row_new _ _) | exact row_old (row_old (row_new _ _)) | exact row_old (row_old (row_old (row_new _ _))) | assumption) Try.underlying88 rfl (by kernel_rfl) ?_))
  go_ret3
  exact ⟨rfl, ((((Grow.refl _).alloc _).trans hg).alloc _).trans hg2⟩
set_option maxRecDepth 100000 in
set_option maxHeartbeats 1000000 in
theorem Brea (p : Plan) (t : Int) (h : p.Ok) (h0 : 0 ≤ t) (h1 : t ≤ 4294967296) (h2 : 2 ≤ t) (w : World) :
    Calls Try.prog 42 #[planV p, .int .i64 t] w fun e w' => e = .returned (.tuple #[.int .i64 (reL p.rho t), .int .i64 (reM p.rho t), .int .i64 0]) ∧ Grow w w' := by
  have AA := Lib.hid (rea_asked p t h h0 h1 h2)
  clear h h0 h1
  go_enter Try.func42, Try.ntmps42
  go_wp2_with (first
    | (go_at_call 49; refine (AA.out (w.heap.size + 1) _ (cell_two_at w _ _ _) (by simp)).mono ?_; rintro e w1 ⟨rfl, hg⟩)
    | (refine wpList_isload 23 _ rfl ?_; refine wpList_load_rowg 23 _ rfl rfl _ rfl _ _ _ _ (by first | exact row_new _ _ | exact row_old (row_new _ _) | exact row_old (row_old (row_new _ _)) | exact row_old (row_old (row_old (row_new _ _))) | assumption) Try.underlying23 rfl (by kernel_rfl) ?_))
  go_ret3
  exact ⟨rfl, (((Grow.refl _).alloc _).alloc _).trans hg⟩
end Go.Proofs.Ytelmgipnlflmaaa
