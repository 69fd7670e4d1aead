/-
  Package rate: clocks that drift. Conditions: those that stand ahead of each.
-/
import Derived.Test.YtelmgipnlflmaaaPlan2
import Derived.Test.YtelmgipnlflmaaaStore
import Derived.Test.YtelmgipnlflmaaaMid
namespace Go.Proofs.Ytelmgipnlflmaaa
open Go.RowKit

structure Clk where
  (num den on adj : Int)
def clkC (c : Clk) : Array Value := #[.int .i64 c.num, .int .i64 c.den, .int .i64 c.on, .int .i64 c.adj]
abbrev clkV (c : Clk) : Value := .agg (clkC c)
/-- All of a clock but what it was set by. -/
structure Clk.Fine (c : Clk) : Prop where
  (den1 : 1 ≤ c.den) (den2 : c.den ≤ 65536) (num1 : 1 ≤ c.num) (num2 : c.num ≤ 2 * c.den) (on1 : 0 ≤ c.on) (on2 : c.on ≤ 4294967296)
structure Clk.Ok (c : Clk) : Prop where
  (fine : c.Fine) (adj1 : -4294967296 ≤ c.adj) (adj2 : c.adj ≤ 4294967296)

set_option maxHeartbeats 400000 in
theorem rin_any (n a b : Int) (w : World) :
    Calls Try.prog 71 #[.int .i64 n, .int .i64 a, .int .i64 b] w fun e w' => e = .returned (.bool (inB n a b)) ∧ w = w' := by
  by_cases h : a ≤ n
  · go_enter Try.func71, Try.ntmps71
    go_wp2
    go_ret
    exact ⟨by simp [inB, h], rfl⟩
  · go_enter Try.func71, Try.ntmps71
    go_wp2
    go_ret
    exact ⟨by simp [inB]; omega, rfl⟩
theorem rin_yes (n a b : Int) (h1 : a ≤ n) (h2 : n ≤ b) (w : World) :
    Calls Try.prog 71 #[.int .i64 n, .int .i64 a, .int .i64 b] w fun e w' => e = .returned (.bool true) ∧ w = w' := by
  have := rin_any n a b w
  rwa [inB_true h1 h2] at this
theorem rin_no (n a b : Int) (h : ¬ (a ≤ n ∧ n ≤ b)) (w : World) :
    Calls Try.prog 71 #[.int .i64 n, .int .i64 a, .int .i64 b] w fun e w' => e = .returned (.bool false) ∧ w = w' := by
  have := rin_any n a b w
  rwa [inB_false h] at this

set_option maxHeartbeats 1000000 in
theorem ccheck_ok (c : Clk) (h : c.Ok) (w : World) :
    Calls Try.prog 44 #[clkV c] w fun e w' => e = .returned (.int .i64 0) ∧ Grow w w' := by
  obtain ⟨⟨h1, h2, h3, h4, h5, h6⟩, h7, h8⟩ := h
  unfold clkV clkC
  go_enter Try.func44, Try.ntmps44
  go_wp2_with (go_at_call 71; refine (rin_yes _ _ _ (by omega) (by omega) _).mono ?_; rintro e w' ⟨rfl, rfl⟩)
  go_ret
  exact ⟨rfl, (Grow.refl _).alloc _⟩
set_option maxHeartbeats 1000000 in
theorem ccheck_adj (c : Clk) (h : c.Fine) (hb : ¬ (-4294967296 ≤ c.adj ∧ c.adj ≤ 4294967296)) (w : World) :
    Calls Try.prog 44 #[clkV c] w fun e w' => e = .returned (.int .i64 60) ∧ Grow w w' := by
  obtain ⟨h1, h2, h3, h4, h5, h6⟩ := h
  unfold clkV clkC
  go_enter Try.func44, Try.ntmps44
  go_wp2_with (go_at_call 71; first | ((with_reducible refine (rin_yes _ _ _ ?_ ?_ _).mono ?_); all_goals first | omega | skip; rintro e w' ⟨rfl, rfl⟩) | (refine (rin_no _ _ _ (by omega) _).mono ?_; rintro e w' ⟨rfl, rfl⟩))
  go_ret
  exact ⟨rfl, (Grow.refl _).alloc _⟩

def Clk.gone (c : Clk) (t : Int) : Int := c.num * t / c.den
theorem gone_bd {c : Clk} (h : c.Fine) {t : Int} (h0 : 0 ≤ t) (h1 : t ≤ 4294967296) : 0 ≤ c.num * t ∧ c.num * t ≤ 562949953421312 ∧ 0 ≤ c.gone t ∧ c.gone t ≤ 8589934592 := by
  have hn : c.num ≤ 131072 := by have := h.num2; have := h.den2; omega
  have hn1 := h.num1
  have hd1 := h.den1
  have a1 : 0 ≤ c.num * t := Int.mul_nonneg (by omega) h0
  have a2 : c.num * t ≤ 131072 * 4294967296 := Int.mul_le_mul hn h1 h0 (by omega)
  refine ⟨a1, by omega, ?_, ?_⟩
  · exact Int.ediv_nonneg a1 (by omega)
  · unfold Clk.gone
    have h2 : c.num * t ≤ 8589934592 * c.den := by
      have b1 : c.num * t ≤ (2 * c.den) * t := Int.mul_le_mul_of_nonneg_right h.num2 h0
      have b2 : (2 * c.den) * t ≤ (2 * c.den) * 4294967296 := Int.mul_le_mul_of_nonneg_left h1 (by omega)
      omega
    exact Int.le_trans (Int.ediv_le_ediv (by omega) h2) (by rw [Int.mul_ediv_cancel _ (by omega)]; omega)
set_option maxHeartbeats 400000 in
theorem gone_any (c : Clk) (h : c.Fine) (t : Int) (h0 : 0 ≤ t) (h1 : t ≤ 4294967296) (w : World) :
    Calls Try.prog 45 #[clkV c, .int .i64 t] w fun e w' => e = .returned (.int .i64 (c.gone t)) ∧ Grow w w' := by
  obtain ⟨b1, b2, b3, b4⟩ := gone_bd h h0 h1
  have hd := h.den1
  unfold Clk.gone at *
  unfold clkV clkC
  go_enter Try.func45, Try.ntmps45
  go_wp2
  go_ret
  exact ⟨rfl, (Grow.refl _).alloc _⟩
def Clk.ticks (c : Clk) (x : Int) : Int := (x * c.den + c.num - 1) / c.num
theorem ticks_bd {c : Clk} (h : c.Fine) {x : Int} (h0 : 1 ≤ x) (h1 : x ≤ 34359738368) : 0 ≤ x * c.den ∧ x * c.den ≤ 2251799813685248 ∧ 0 ≤ c.ticks x ∧ c.ticks x ≤ 2251799813816320 := by
  have hn : c.num ≤ 131072 := by have := h.num2; have := h.den2; omega
  have hn1 := h.num1
  have hd1 := h.den1
  have a1 : 0 ≤ x * c.den := Int.mul_nonneg (by omega) (by omega)
  have a2 : x * c.den ≤ 34359738368 * 65536 := Int.mul_le_mul h1 h.den2 (by omega) (by omega)
  refine ⟨a1, by omega, ?_, ?_⟩
  · exact Int.ediv_nonneg (by omega) (by omega)
  · exact Int.le_trans (Int.ediv_le_self _ (by omega)) (by omega)
set_option maxHeartbeats 400000 in
theorem ticks_any (c : Clk) (h : c.Fine) (x : Int) (h0 : 1 ≤ x) (h1 : x ≤ 34359738368) (w : World) :
    Calls Try.prog 48 #[clkV c, .int .i64 x] w fun e w' => e = .returned (.int .i64 (c.ticks x)) ∧ Grow w w' := by
  obtain ⟨b1, b2, b3, b4⟩ := ticks_bd h h0 h1
  have hn : c.num ≤ 131072 := by have := h.num2; have := h.den2; omega
  have hd := h.num1
  unfold Clk.ticks at *
  unfold clkV clkC
  go_enter Try.func48, Try.ntmps48
  go_wp2
  go_ret
  exact ⟨rfl, (Grow.refl _).alloc _⟩

def Clk.at (c : Clk) (t : Int) : Int := c.gone (t - c.on) + c.adj
theorem at_bd {c : Clk} (h : c.Ok) {t : Int} (h0 : c.on ≤ t) (h1 : t ≤ 4294967296) : -4294967296 ≤ c.at t ∧ c.at t ≤ 12884901888 := by
  have := gone_bd h.fine (t := t - c.on) (by omega) (by have := h.fine.on1; omega)
  have := h.adj1
  have := h.adj2
  unfold Clk.at
  omega
set_option maxRecDepth 100000 in
set_option maxHeartbeats 1000000 in
theorem Reads_any (c : Clk) (h : c.Ok) (t : Int) (h0 : c.on ≤ t) (h1 : t ≤ 4294967296) (w : World) :
    Calls Try.prog 15 #[clkV c, .int .i64 t] w fun e w' => e = .returned (.tuple #[.int .i64 (c.at t), .int .i64 0]) ∧ Grow w w' := by
  have hC := Lib.hid (ccheck_ok c h)
  have hr0 := row_new w (.cells (clkC c) 43)
  obtain ⟨b1, b2⟩ := at_bd h h0 h1
  have o1 := h.fine.on1
  have w1 : IntKind.i64.wrap (t - c.on) = t - c.on := iw _ (by omega) (by omega)
  have w2 : IntKind.i64.wrap (c.gone (t - c.on) + c.adj) = c.gone (t - c.on) + c.adj := iw _ (by unfold Clk.at at *; omega) (by unfold Clk.at at *; omega)
  have hG := Lib.hid (gone_any c h.fine (t - c.on) (by omega) (by omega))
  clear h b1 b2
  go_enter Try.func15, Try.ntmps15
  go_wp2_with (first
    | (go_at_call 44; refine (hC.out _).mono ?_; rintro e w1 ⟨rfl, hg⟩; have hr1 := hg.row hr0; have k2 : w1.cell? ⟨w.heap.size, 2, none⟩ = some (.int .i64 c.on) := cell_of_row w1 _ 2 _ _ _ hr1; have k3 : w1.cell? ⟨w.heap.size, 3, none⟩ = some (.int .i64 c.adj) := cell_of_row w1 _ 3 _ _ _ hr1; have hzz : w.heap.size < w1.heap.size := (Array.getElem?_eq_some_iff.1 hr1).1)
    | (refine wpList_isload 43 _ rfl ?_; refine wpList_load_rowg 43 _ rfl rfl _ rfl _ _ _ _ (by first | exact row_new _ _ | exact row_old (row_new _ _) | exact row_old (row_old (row_new _ _)) | exact row_old (row_old (row_old (row_new _ _))) | assumption) Try.underlying43 rfl (by kernel_rfl) ?_))
  refine wp_region_grow (by kernel_rfl) (by kernel_rfl) ?_
  repeat
    apply wpQuiet_op rfl
    · intro W hW
      first
        | exact quiet_load_row 43 _ rfl _ rfl _ _ _ _ (hW.row (by first | exact row_new _ _ | exact row_old (row_new _ _) | exact row_old (row_old (row_new _ _)) | exact row_old (row_old (row_old (row_new _ _))) | assumption)) Try.underlying43 rfl (by kernel_rfl)
        | (obtain ⟨hc, hf⟩ := hW.cells
           go_simp
           first
             | (go_at_call 45; exact Calls.grow hW (hG.out _))
             | exact rfl
             | exact ⟨rfl, rfl⟩)
    simp only [Act.put, List.setIfInBounds_toArray, List.set_cons_zero, List.set_cons_succ]
  refine wpQuiet_nil ?_
  intro W hW
  have hz := hW.size
  obtain ⟨hc, hf⟩ := hW.cells
  go_wp2
  go_ret2
  exact ⟨rfl, (((Grow.refl _).alloc _).trans hg).trans hW⟩
end Go.Proofs.Ytelmgipnlflmaaa
