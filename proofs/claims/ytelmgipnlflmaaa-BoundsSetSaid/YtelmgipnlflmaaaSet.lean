/-
  The law BoundsSet: any plan, rate, corrections, delays. Conditions: the numbers fit their kinds; the slices are as they came in.
-/
import Derived.Test.YtelmgipnlflmaaaSetWalk
namespace Go.Proofs.Ytelmgipnlflmaaa
open Go.RowKit

set_option maxRecDepth 100000 in
set_option maxHeartbeats 2000000 in
theorem set_law_no (p : Plan) (h : ¬ p.Ok) (num : Int) (a2 : Option Addr) (len2 cap2 : Nat) (a3 : Option Addr) (len3 cap3 : Nat) (on : Int) (w : World) :
    Calls Try.prog 4 #[planV p, .int .u32 num, .slice a2 len2 cap2, .slice a3 len3 cap3, .int .u16 on] w fun e w' => e = .returned (.bool true) ∧ Grow w w' := by
  have hA := Lib.hid alive29_any
  have hC := Lib.hid (check_no p h)
  have hr0 := row_new w (.cells (planC p) 23)
  clear h
  go_enter Try.func4, Try.ntmps4
  go_wp2_with (first
    | (go_at_call 13; refine (hA.out _).mono ?_; rintro e w1 ⟨rfl, hg1⟩; have hr1 := hg1.row hr0)
    | (go_at_call 14; refine (hC.out _).mono ?_; rintro e w2 ⟨rfl, hg2⟩)
    | (refine wpList_isload 23 _ rfl ?_; refine wpList_load_rowg 23 _ rfl rfl _ rfl _ _ _ _ (by first | exact row_new _ _ | exact row_old (row_new _ _) | exact row_old (row_old (row_new _ _)) | exact row_old (row_old (row_old (row_new _ _))) | assumption) Try.underlying23 rfl (by kernel_rfl) ?_))
  go_ret
  exact ⟨rfl, (((Grow.refl _).alloc _).trans hg1).trans hg2⟩
set_option maxRecDepth 100000 in
set_option maxHeartbeats 2000000 in
theorem set_law_big (p : Plan) (h : p.Ok) (num : Int) (a2 : Option Addr) (len2 cap2 : Nat) (hl : ¬ len2 ≤ 50) (a3 : Option Addr) (len3 cap3 : Nat) (on : Int) (w : World) :
    Calls Try.prog 4 #[planV p, .int .u32 num, .slice a2 len2 cap2, .slice a3 len3 cap3, .int .u16 on] w fun e w' => e = .returned (.bool true) ∧ Grow w w' := by
  have hA := Lib.hid alive29_any
  have hC := Lib.hid (check_ok p h)
  have hr0 := row_new w (.cells (planC p) 23)
  have hl2 : (50 : Int) < (len2 : Int) := by omega
  clear h hl
  go_enter Try.func4, Try.ntmps4
  go_wp2_with (first
    | (go_at_call 13; refine (hA.out _).mono ?_; rintro e w1 ⟨rfl, hg1⟩; have hr1 := hg1.row hr0)
    | (go_at_call 14; refine (hC.out _).mono ?_; rintro e w2 ⟨rfl, hg2⟩)
    | (refine wpList_isload 23 _ rfl ?_; refine wpList_load_rowg 23 _ rfl rfl _ rfl _ _ _ _ (by first | exact row_new _ _ | exact row_old (row_new _ _) | exact row_old (row_old (row_new _ _)) | exact row_old (row_old (row_old (row_new _ _))) | assumption) Try.underlying23 rfl (by kernel_rfl) ?_))
  go_ret
  exact ⟨rfl, (((Grow.refl _).alloc _).trans hg1).trans hg2⟩
theorem set_any {w : World} (p : Plan) (_ : p.Wf) (num : Int) (hn : (Lit.int .u32 num).wf = true) (a2 : Option Addr) (len2 cap2 : Nat) (z2 : List Int) (h2 : Go.Proofs.Ytelmgipnlflmaaa.IsRow .i64 w a2 len2 cap2 z2)
    (a3 : Option Addr) (len3 cap3 : Nat) (z3 : List Int) (h3 : Go.Proofs.Ytelmgipnlflmaaa.IsRow .u16 w a3 len3 cap3 z3) (on : Int) (ho : (Lit.int .u16 on).wf = true) :
    Calls Try.prog 4 #[planV p, .int .u32 num, .slice a2 len2 cap2, .slice a3 len3 cap3, .int .u16 on] w fun e w' => e = .returned (.bool true) ∧ Grow w w' := by
  obtain ⟨n1, n2⟩ := bounds_u32 hn
  obtain ⟨o1, o2⟩ := bounds_u16 ho
  by_cases h : p.Ok
  · by_cases hl : len2 ≤ 50
    · exact set_law p h num n1 n2 a2 len2 cap2 z2 hl a3 len3 cap3 z3 on o1 o2 w h2 h3
    · exact set_law_big p h num a2 len2 cap2 hl a3 len3 cap3 on w
  · exact set_law_no p h num a2 len2 cap2 a3 len3 cap3 on w
end Go.Proofs.Ytelmgipnlflmaaa
