/-
  Package window: may, Judge. Conditions: those that stand ahead of each.
-/
import Derived.Test.YtelmgipnlflmaaaTable3
import Derived.Test.YtelmgipnlflmaaaGuard
namespace Go.Proofs.Ytelmgipnlflmaaa
open Go.RowKit

def mayB (x : Int) : Bool := decide (-4294967296 ≤ x) && decide (x ≤ 1152921504606846976)
theorem mayB_iff {x : Int} : mayB x = true ↔ -4294967296 ≤ x ∧ x ≤ 1152921504606846976 := by simp [mayB]
set_option maxHeartbeats 400000 in
theorem may_any (x : Int) (w : World) :
    Calls Try.prog 58 #[.int .i64 x] w fun e w' => e = .returned (.bool (mayB x)) ∧ w = w' := by
  by_cases h : -4294967296 ≤ x
  · go_enter Try.func58, Try.ntmps58
    go_wp2
    go_ret
    exact ⟨by simp [mayB, h], rfl⟩
  · go_enter Try.func58, Try.ntmps58
    go_wp2
    go_ret
    exact ⟨by simp [mayB]; omega, rfl⟩
/-- Early, in time, late. -/
def verd (a b x : Int) : Int := if x < a then 1 else if b < x then 3 else 2
set_option maxHeartbeats 400000 in
theorem says_any (a b x : Int) (B1 B2 B3 : Nat) (w : World) (h1 : w.cell? ⟨B1, 0, none⟩ = some (.int .i64 x)) (h2 : w.cell? ⟨B2, 0, none⟩ = some (.int .i64 a)) (h3 : w.cell? ⟨B3, 0, none⟩ = some (.int .i64 b)) :
    Calls Try.prog 59 #[.pointer (some ⟨B1, 0, none⟩), .pointer (some ⟨B2, 0, none⟩), .pointer (some ⟨B3, 0, none⟩)] w fun e w' => e = .returned (.int .i64 (verd a b x)) ∧ w = w' := by
  unfold verd
  by_cases h : x < a
  · rw [if_pos h]
    go_enter Try.func59, Try.ntmps59
    go_wp2
    go_ret
    exact ⟨rfl, rfl⟩
  · rw [if_neg h]
    by_cases h' : b < x
    · rw [if_pos h']
      go_enter Try.func59, Try.ntmps59
      go_wp2
      go_ret
      exact ⟨rfl, rfl⟩
    · rw [if_neg h']
      go_enter Try.func59, Try.ntmps59
      go_wp2
      go_ret
      exact ⟨rfl, rfl⟩
theorem row_new2 (w : World) (o o' : Obj) : ((w.alloc o).alloc o').heap[w.heap.size + 1]? = some o' := by
  have := row_new (w.alloc o) o'
  simpa using this
set_option maxRecDepth 100000 in
set_option maxHeartbeats 1000000 in
theorem Judge_no (p : Plan) (r s x : Int) (h : ¬ p.has r s) (w : World) :
    Calls Try.prog 25 #[planV p, placeV r s, .int .i64 x] w fun e w' => e = .returned (.tuple #[.int .i64 0, .int .i64 0, .int .i64 160]) ∧ Grow w w' := by
  have hE := Lib.hid (Expected_no p r s h)
  clear h
  go_enter Try.func25, Try.ntmps25
  go_wp2_with (first
    | (go_at_call 21; refine (hE.out _).mono ?_; rintro e w1 ⟨rfl, hg⟩)
    | (refine wpList_isload 23 _ rfl ?_; refine wpList_load_rowg 23 _ rfl rfl _ rfl _ _ _ _ (by first | exact row_new _ _ | exact row_old (row_new _ _) | exact row_old (row_old (row_new _ _)) | exact row_old (row_old (row_old (row_new _ _))) | assumption) Try.underlying23 rfl (by kernel_rfl) ?_))
  go_ret3
  exact ⟨rfl, ((((((Grow.refl _).alloc _).alloc _).alloc _).trans hg).alloc _).alloc _⟩
theorem rd_row (w : World) (p : Plan) (r s x : Int) : (((w.alloc (.cells (planC p) 23)).alloc (.cells #[.int .i64 r, .int .i64 s] 52)).alloc (.cells #[.int .i64 x] 2)).heap[w.heap.size + 1 + 1]? = some (.cells #[.int .i64 x] 2) := by
  have := row_new ((w.alloc (.cells (planC p) 23)).alloc (.cells #[.int .i64 r, .int .i64 s] 52)) (.cells #[.int .i64 x] 2)
  simpa using this
set_option maxRecDepth 100000 in
set_option maxHeartbeats 1000000 in
theorem Judge_out (p : Plan) (r s x : Int) (h : p.has r s) (hm : mayB x = false) (w : World) :
    Calls Try.prog 25 #[planV p, placeV r s, .int .i64 x] w fun e w' => e = .returned (.tuple #[.int .i64 0, .int .i64 0, .int .i64 160]) ∧ Grow w w' := by
  have hE := Lib.hid (Expected_yes p r s h)
  have hx0 := rd_row w p r s x
  have hM := may_any x
  rw [hm] at hM
  have HM := Lib.hid hM
  clear h hm hM
  go_enter Try.func25, Try.ntmps25
  go_wp2_with (first
    | (go_at_call 21; refine (hE.out _).mono ?_; rintro e w1 ⟨rfl, hg⟩; have hrX : ((w1.alloc (.cells #[.int .i64 (p.exp r s - p.window)] 2)).alloc (.cells #[.int .i64 (p.exp r s + p.window)] 2)).heap[w.heap.size + 1 + 1]? = some (.cells #[.int .i64 x] 2) := row_old (row_old (hg.row hx0)); have hrA : ((w1.alloc (.cells #[.int .i64 (p.exp r s - p.window)] 2)).alloc (.cells #[.int .i64 (p.exp r s + p.window)] 2)).heap[w1.heap.size]? = some (.cells #[.int .i64 (p.exp r s - p.window)] 2) := row_old (row_new _ _); have hrB : ((w1.alloc (.cells #[.int .i64 (p.exp r s - p.window)] 2)).alloc (.cells #[.int .i64 (p.exp r s + p.window)] 2)).heap[w1.heap.size + 1]? = some (.cells #[.int .i64 (p.exp r s + p.window)] 2) := row_new2 w1 _ _; have kx := cell_of_row _ _ 0 _ _ _ hrX; have hz1 : w.heap.size + 1 + 1 < w1.heap.size := (Array.getElem?_eq_some_iff.1 (hg.row hx0)).1; have hz2 : w.heap.size < w1.heap.size := (by omega))
    | (go_at_call 58; refine (HM.out _).mono ?_; rintro e w' ⟨rfl, rfl⟩)
    | (refine wpList_isload 23 _ rfl ?_; refine wpList_load_rowg 23 _ rfl rfl _ rfl _ _ _ _ (by first | exact row_new _ _ | exact row_old (row_new _ _) | exact row_old (row_old (row_new _ _)) | exact row_old (row_old (row_old (row_new _ _))) | assumption) Try.underlying23 rfl (by kernel_rfl) ?_))
  go_ret3
  exact ⟨rfl, ((((((Grow.refl _).alloc _).alloc _).alloc _).trans hg).alloc _).alloc _⟩
set_option maxRecDepth 100000 in
set_option maxHeartbeats 1000000 in
theorem Judge_in (p : Plan) (r s x : Int) (h : p.has r s) (hm : mayB x = true) (w : World) :
    Calls Try.prog 25 #[planV p, placeV r s, .int .i64 x] w fun e w' => e = .returned (.tuple #[.int .i64 (verd (p.exp r s - p.window) (p.exp r s + p.window) x), .int .i64 (x - p.exp r s), .int .i64 0]) ∧ Grow w w' := by
  have hE := Lib.hid (Expected_yes p r s h)
  have hx0 := rd_row w p r s x
  obtain ⟨m1, m2⟩ := mayB_iff.1 hm
  obtain ⟨b1, b2⟩ := exp_bd h
  have q1 := iw (x - p.exp r s) (by omega) (by omega)
  have hM := may_any x
  rw [hm] at hM
  have HM := Lib.hid hM
  clear h hm hM m1 m2 b1 b2
  go_enter Try.func25, Try.ntmps25
  go_wp2_with (first
    | (go_at_call 21; refine (hE.out _).mono ?_; rintro e w1 ⟨rfl, hg⟩; have hrX : ((w1.alloc (.cells #[.int .i64 (p.exp r s - p.window)] 2)).alloc (.cells #[.int .i64 (p.exp r s + p.window)] 2)).heap[w.heap.size + 1 + 1]? = some (.cells #[.int .i64 x] 2) := row_old (row_old (hg.row hx0)); have hrA : ((w1.alloc (.cells #[.int .i64 (p.exp r s - p.window)] 2)).alloc (.cells #[.int .i64 (p.exp r s + p.window)] 2)).heap[w1.heap.size]? = some (.cells #[.int .i64 (p.exp r s - p.window)] 2) := row_old (row_new _ _); have hrB : ((w1.alloc (.cells #[.int .i64 (p.exp r s - p.window)] 2)).alloc (.cells #[.int .i64 (p.exp r s + p.window)] 2)).heap[w1.heap.size + 1]? = some (.cells #[.int .i64 (p.exp r s + p.window)] 2) := row_new2 w1 _ _; have kx := cell_of_row _ _ 0 _ _ _ hrX; have hz1 : w.heap.size + 1 + 1 < w1.heap.size := (Array.getElem?_eq_some_iff.1 (hg.row hx0)).1; have hz2 : w.heap.size < w1.heap.size := (by omega))
    | (go_at_call 58; refine (HM.out _).mono ?_; rintro e w' ⟨rfl, rfl⟩)
    | (refine wpList_isload 23 _ rfl ?_; refine wpList_load_rowg 23 _ rfl rfl _ rfl _ _ _ _ (by first | exact row_new _ _ | exact row_old (row_new _ _) | exact row_old (row_old (row_new _ _)) | exact row_old (row_old (row_old (row_new _ _))) | assumption) Try.underlying23 rfl (by kernel_rfl) ?_))
  refine wp_region_grow (by kernel_rfl) (by kernel_rfl) ?_
  repeat
    apply wpQuiet_op rfl
    · intro W hW
      first
        | (obtain ⟨hc, hf⟩ := hW.cells
           go_simp
           first
             | (go_at_call 59; exact Calls.grow hW (Calls.grows (says_any _ _ _ _ _ _ _ (cell_of_row _ _ 0 _ _ _ (hW.row hrX)) (cell_of_row _ _ 0 _ _ _ (hW.row hrA)) (cell_of_row _ _ 0 _ _ _ (hW.row hrB)))))
             | exact rfl
             | exact ⟨rfl, rfl⟩)
    simp only [Act.put, List.setIfInBounds_toArray, List.set_cons_zero, List.set_cons_succ]
  refine wpQuiet_nil ?_
  intro W hW
  have hz := hW.size
  obtain ⟨hc, hf⟩ := hW.cells
  go_wp2
  go_ret3
  exact ⟨rfl, (((((((Grow.refl _).alloc _).alloc _).alloc _).trans hg).alloc _).alloc _).trans hW⟩
end Go.Proofs.Ytelmgipnlflmaaa
