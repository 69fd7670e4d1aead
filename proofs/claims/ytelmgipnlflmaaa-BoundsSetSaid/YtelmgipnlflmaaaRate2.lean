/-
  Package rate: when a clock reads so much; a clock is set. Conditions: those that stand ahead of each.
-/
import Derived.Test.YtelmgipnlflmaaaRate
namespace Go.Proofs.Ytelmgipnlflmaaa
open Go.RowKit

set_option maxRecDepth 100000 in
set_option maxHeartbeats 1000000 in
theorem When_never (c : Clk) (h : c.Ok) (x : Int) (hx : c.at 4294967296 < x) (w : World) :
    Calls Try.prog 17 #[clkV c, .int .i64 x] w fun e w' => e = .returned (.tuple #[.int .i64 0, .int .i64 61]) ∧ Grow w w' := by
  have hC := Lib.hid (ccheck_ok c h)
  have hR := Lib.hid (Reads_any c h 4294967296 h.fine.on2 (by omega))
  have hr0 := row_new w (.cells (clkC c) 43)
  clear h
  go_enter Try.func17, Try.ntmps17
  go_wp2_with (first
    | (go_at_call 44; refine (hC.out _).mono ?_; rintro e w1 ⟨rfl, hg⟩; have hr1 := hg.row hr0)
    | (go_at_call 15; refine (hR.out _).mono ?_; rintro e w2 ⟨rfl, hg2⟩)
    | (refine wpList_isload 43 _ rfl ?_; refine wpList_load_rowg 43 _ rfl rfl _ rfl _ _ _ _ (by first | exact row_new _ _ | exact row_old (row_new _ _) | exact row_old (row_old (row_new _ _)) | exact row_old (row_old (row_old (row_new _ _))) | assumption) Try.underlying43 rfl (by kernel_rfl) ?_))
  go_ret2
  exact ⟨rfl, (((Grow.refl _).alloc _).trans hg).trans hg2⟩
set_option maxRecDepth 100000 in
set_option maxHeartbeats 1000000 in
theorem When_on (c : Clk) (h : c.Ok) (x : Int) (hx : x ≤ c.at 4294967296) (hy : x ≤ c.adj) (w : World) :
    Calls Try.prog 17 #[clkV c, .int .i64 x] w fun e w' => e = .returned (.tuple #[.int .i64 c.on, .int .i64 0]) ∧ Grow w w' := by
  have hC := Lib.hid (ccheck_ok c h)
  have hR := Lib.hid (Reads_any c h 4294967296 h.fine.on2 (by omega))
  have hr0 := row_new w (.cells (clkC c) 43)
  clear h
  go_enter Try.func17, Try.ntmps17
  go_wp2_with (first
    | (go_at_call 44; refine (hC.out _).mono ?_; rintro e w1 ⟨rfl, hg⟩; have hr1 := hg.row hr0)
    | (go_at_call 15; refine (hR.out _).mono ?_; rintro e w2 ⟨rfl, hg2⟩; have hr2 := hg2.row hr1; have k2 : w2.cell? ⟨w.heap.size, 2, none⟩ = some (.int .i64 c.on) := cell_of_row w2 _ 2 _ _ _ hr2; have k3 : w2.cell? ⟨w.heap.size, 3, none⟩ = some (.int .i64 c.adj) := cell_of_row w2 _ 3 _ _ _ hr2)
    | (refine wpList_isload 43 _ rfl ?_; refine wpList_load_rowg 43 _ rfl rfl _ rfl _ _ _ _ (by first | exact row_new _ _ | exact row_old (row_new _ _) | exact row_old (row_old (row_new _ _)) | exact row_old (row_old (row_old (row_new _ _))) | assumption) Try.underlying43 rfl (by kernel_rfl) ?_))
  go_ret2
  exact ⟨rfl, (((Grow.refl _).alloc _).trans hg).trans hg2⟩
theorem when_bd {c : Clk} (h : c.Ok) {x : Int} (hx : x ≤ c.at 4294967296) (hy : c.adj < x) : 1 ≤ x - c.adj ∧ x - c.adj ≤ 8589934592 ∧ 0 ≤ c.on + c.ticks (x - c.adj) ∧ c.on + c.ticks (x - c.adj) ≤ 2251808403750912 := by
  have o1 := h.fine.on1
  have o2 := h.fine.on2
  have b := gone_bd h.fine (t := 4294967296 - c.on) (by omega) (by omega)
  unfold Clk.at at hx
  have b2 := ticks_bd h.fine (x := x - c.adj) (by omega) (by omega)
  omega
set_option maxRecDepth 100000 in
set_option maxHeartbeats 1000000 in
theorem When_at (c : Clk) (h : c.Ok) (x : Int) (hx : x ≤ c.at 4294967296) (hy : c.adj < x) (w : World) :
    Calls Try.prog 17 #[clkV c, .int .i64 x] w fun e w' => e = .returned (.tuple #[.int .i64 (c.on + c.ticks (x - c.adj)), .int .i64 0]) ∧ Grow w w' := by
  have hC := Lib.hid (ccheck_ok c h)
  have hR := Lib.hid (Reads_any c h 4294967296 h.fine.on2 (by omega))
  obtain ⟨b1, b2, b3, b4⟩ := when_bd h hx hy
  have hT := Lib.hid (ticks_any c h.fine (x - c.adj) b1 (by omega))
  have hr0 := row_new w (.cells (clkC c) 43)
  have w1 : IntKind.i64.wrap (x - c.adj) = x - c.adj := iw _ (by omega) (by omega)
  have w2 : IntKind.i64.wrap (c.on + c.ticks (x - c.adj)) = c.on + c.ticks (x - c.adj) := iw _ (by omega) (by omega)
  clear h b1 b2 b3 b4
  go_enter Try.func17, Try.ntmps17
  go_wp2_with (first
    | (go_at_call 44; refine (hC.out _).mono ?_; rintro e w1 ⟨rfl, hg⟩; have hr1 := hg.row hr0)
    | (go_at_call 15; refine (hR.out _).mono ?_; rintro e w2 ⟨rfl, hg2⟩; have hr2 := hg2.row hr1; have k2 : w2.cell? ⟨w.heap.size, 2, none⟩ = some (.int .i64 c.on) := cell_of_row w2 _ 2 _ _ _ hr2; have k3 : w2.cell? ⟨w.heap.size, 3, none⟩ = some (.int .i64 c.adj) := cell_of_row w2 _ 3 _ _ _ hr2; have hzz : w.heap.size < w2.heap.size := (Array.getElem?_eq_some_iff.1 hr2).1)
    | (refine wpList_isload 43 _ rfl ?_; refine wpList_load_rowg 43 _ rfl rfl _ rfl _ _ _ _ (by first | exact row_new _ _ | exact row_old (row_new _ _) | exact row_old (row_old (row_new _ _)) | exact row_old (row_old (row_old (row_new _ _))) | assumption) Try.underlying43 rfl (by kernel_rfl) ?_))
  refine wp_region_grow (by kernel_rfl) (by kernel_rfl) ?_
  repeat
    apply wpQuiet_op rfl
    · intro W hW
      first
        | exact quiet_load_row 43 _ rfl _ rfl _ _ _ _ (hW.row (by first | exact row_new _ _ | exact row_old (row_new _ _) | exact row_old (row_old (row_new _ _)) | exact row_old (row_old (row_old (row_new _ _))) | assumption)) Try.underlying43 rfl (by kernel_rfl)
        | (obtain ⟨hc, hf⟩ := hW.cells
           go_simp
           first
             | (go_at_call 48; exact Calls.grow hW (hT.out _))
             | exact rfl
             | exact ⟨rfl, rfl⟩)
    simp only [Act.put, List.setIfInBounds_toArray, List.set_cons_zero, List.set_cons_succ]
  refine wpQuiet_nil ?_
  intro W hW
  have hz := hW.size
  obtain ⟨hc, hf⟩ := hW.cells
  go_wp2
  go_ret2
  exact ⟨rfl, ((((Grow.refl _).alloc _).trans hg).trans hg2).trans hW⟩

/-- A clock that is set on. -/
def Clk.set (c : Clk) (b : Int) : Clk := ⟨c.num, c.den, c.on, c.adj + b⟩
def Clk.zero : Clk := ⟨0, 0, 0, 0⟩
theorem Clk.set_fine {c : Clk} (h : c.Fine) (b : Int) : (c.set b).Fine := ⟨h.den1, h.den2, h.num1, h.num2, h.on1, h.on2⟩
theorem clk_store {W : World} {B : Nat} {c c' : Clk} {v : Int} {t : TypeId} (h : W.heap[B]? = some (.cells (clkC c) t (0, 0))) (he : (clkC c).setIfInBounds 3 (.int .i64 v) = clkC c') : (W.setCell ⟨B, 3, none⟩ (.int .i64 v)).heap[B]? = some (.cells (clkC c') t (0, 0)) := by
  rw [← he]
  exact setCell_row h _
theorem clk_zero_row (w : World) (c : Clk) : ((w.alloc (.cells (clkC c) 43)).alloc (.cells #[.int .i64 0, .int .i64 0, .int .i64 0, .int .i64 0] 43)).heap[w.heap.size + 1]? = some (.cells #[.int .i64 0, .int .i64 0, .int .i64 0, .int .i64 0] 43) := by
  have := row_new (w.alloc (.cells (clkC c) 43)) (.cells #[.int .i64 0, .int .i64 0, .int .i64 0, .int .i64 0] 43)
  simpa using this
set_option maxRecDepth 100000 in
set_option maxHeartbeats 1000000 in
theorem Set_ok (c : Clk) (b : Int) (h : c.Ok) (h1 : -8589934592 ≤ b) (h2 : b ≤ 8589934592) (h3 : (c.set b).Ok) (w : World) :
    Calls Try.prog 18 #[clkV c, .int .i64 b] w fun e w' => e = .returned (.tuple #[clkV (c.set b), .int .i64 0]) ∧ Grow w w' := by
  have hC := Lib.hid (ccheck_ok c h)
  have hC2 := Lib.hid (ccheck_ok (c.set b) h3)
  have a1 := h.adj1
  have a2 := h.adj2
  have hst : (clkC c).setIfInBounds 3 (.int .i64 (c.adj + b)) = clkC (c.set b) := rfl
  have HS := Lib.hid hst
  have hr0 := row_old (o' := .cells #[.int .i64 0, .int .i64 0, .int .i64 0, .int .i64 0] 43) (row_new w (.cells (clkC c) 43))
  have hz0 := clk_zero_row w c
  have tok := Lib.hid hr0
  clear h h3 hst
  go_enter Try.func18, Try.ntmps18
  go_wp2_with (first
    | (go_at_call 44; have tk := tok; clear tok; refine (hC.out _).mono ?_; rintro e w1 ⟨rfl, hg⟩; have hr1 := hg.row hr0; have hz1 := hg.row hz0; have k3 : w1.cell? ⟨w.heap.size, 3, none⟩ = some (.int .i64 c.adj) := cell_of_row w1 _ 3 _ _ _ hr1; have hf := frozen_of_row (j := 3) hr1; have hr2 := clk_store hr1 HS.out; have hz2 := (Below.heap_setCell w1 ⟨w.heap.size, 3, none⟩ (.int .i64 (c.adj + b)) _ (by simp)).trans hz1)
    | (go_at_call 44; refine (hC2.out _).mono ?_; rintro e w3 ⟨rfl, hg3⟩; have hr3 := hg3.row hr2; have hz3 := hg3.row hz2)
    | (refine wpList_store_row rfl 43 _ _ rfl (w.heap.size + 1) (clkC (c.set b)) rfl rfl 43 _ hz3 (by kernel_rfl) rfl (by kernel_rfl) ?_)
    | (refine wpList_isload 43 _ rfl ?_; refine wpList_load_rowg 43 _ rfl rfl _ rfl _ _ _ _ (by first | exact row_new _ _ | exact row_old (row_new _ _) | exact row_old (row_old (row_new _ _)) | exact row_old (row_old (row_old (row_new _ _))) | assumption) Try.underlying43 rfl (by kernel_rfl) ?_))
  have hres := results_cell_tmp (P := Try.prog) (fn := Try.f18) (p := 4) (q := 5) (ty := 43) rfl
  refine bodyPost_ret (v := .tuple #[clkV (c.set b), .int .i64 0]) ?_ rfl ⟨rfl, ?_⟩
  · exact hres _ _ (w.heap.size + 1) _ (clkC (c.set b)) _ _ rfl (setRow_heap _ _ _ _ _ _ hz3) Try.underlying43 rfl (by kernel_rfl)
  · exact ((((((Grow.refl _).alloc _).alloc _).trans hg).setCell (p := ⟨w.heap.size, 3, none⟩) (by simp) _).trans hg3).setRow (by omega) _
set_option maxRecDepth 100000 in
set_option maxHeartbeats 1000000 in
theorem Set_bad (c : Clk) (b : Int) (h : c.Ok) (h1 : -8589934592 ≤ b) (h2 : b ≤ 8589934592) (h3 : ¬ (-4294967296 ≤ c.adj + b ∧ c.adj + b ≤ 4294967296)) (w : World) :
    Calls Try.prog 18 #[clkV c, .int .i64 b] w fun e w' => e = .returned (.tuple #[clkV Clk.zero, .int .i64 60]) ∧ Grow w w' := by
  have hC := Lib.hid (ccheck_ok c h)
  have hC2 := Lib.hid (ccheck_adj (c.set b) (Clk.set_fine h.fine b) h3)
  have a1 := h.adj1
  have a2 := h.adj2
  have hst : (clkC c).setIfInBounds 3 (.int .i64 (c.adj + b)) = clkC (c.set b) := rfl
  have HS := Lib.hid hst
  have hr0 := row_old (o' := .cells #[.int .i64 0, .int .i64 0, .int .i64 0, .int .i64 0] 43) (row_new w (.cells (clkC c) 43))
  have hz0 := clk_zero_row w c
  have tok := Lib.hid hr0
  clear h h3 hst
  go_enter Try.func18, Try.ntmps18
  go_wp2_with (first
    | (go_at_call 44; have tk := tok; clear tok; refine (hC.out _).mono ?_; rintro e w1 ⟨rfl, hg⟩; have hr1 := hg.row hr0; have hz1 := hg.row hz0; have k3 : w1.cell? ⟨w.heap.size, 3, none⟩ = some (.int .i64 c.adj) := cell_of_row w1 _ 3 _ _ _ hr1; have hf := frozen_of_row (j := 3) hr1; have hr2 := clk_store hr1 HS.out; have hz2 := (Below.heap_setCell w1 ⟨w.heap.size, 3, none⟩ (.int .i64 (c.adj + b)) _ (by simp)).trans hz1)
    | (go_at_call 44; refine (hC2.out _).mono ?_; rintro e w3 ⟨rfl, hg3⟩; have hr3 := hg3.row hr2; have hz3 := hg3.row hz2)
    | (refine wpList_store_row rfl 43 _ _ rfl (w.heap.size + 1) (clkC Clk.zero) rfl rfl 43 _ hz3 (by kernel_rfl) rfl (by kernel_rfl) ?_)
    | (refine wpList_isload 43 _ rfl ?_; refine wpList_load_rowg 43 _ rfl rfl _ rfl _ _ _ _ (by first | exact row_new _ _ | exact row_old (row_new _ _) | exact row_old (row_old (row_new _ _)) | exact row_old (row_old (row_old (row_new _ _))) | assumption) Try.underlying43 rfl (by kernel_rfl) ?_))
  have hres := results_cell_tmp (P := Try.prog) (fn := Try.f18) (p := 4) (q := 5) (ty := 43) rfl
  refine bodyPost_ret (v := .tuple #[clkV Clk.zero, .int .i64 60]) ?_ rfl ⟨rfl, ?_⟩
  · exact hres _ _ (w.heap.size + 1) _ (clkC Clk.zero) _ _ rfl (setRow_heap _ _ _ _ _ _ hz3) Try.underlying43 rfl (by kernel_rfl)
  · exact ((((((Grow.refl _).alloc _).alloc _).trans hg).setCell (p := ⟨w.heap.size, 3, none⟩) (by simp) _).trans hg3).setRow (by omega) _
end Go.Proofs.Ytelmgipnlflmaaa
