/-
  plan.Fit's walk at the wishes of the chapters' examples. Condition: the payload's bound.
-/
import Derived.Test.YtelmgipnlflmaaaFit2
namespace Go.Proofs.Ytelmgipnlflmaaa
open Go.RowKit

set_option maxRecDepth 100000 in
set_option maxHeartbeats 1000000 in
theorem Fit_any (pl : Int) (h1 : 1 ≤ pl) (h2 : pl ≤ 32) (w : World) :
    Calls Try.prog 54 #[planV (wishP pl)] w fun e w' => e = .returned (.tuple #[planV (fitP pl), .int .i64 0]) ∧ Grow w w' := by
  have HK := known_any (L0 pl) (leasts_one pl h1 h2).k
  have HQ := queue_any (L0 pl)
  rw [decide_eq_true (show (L0 pl).c9 from ⟨by show (1 : Int) ≤ 2; omega, by show (2 : Int) ≤ 64; omega, by show (1 : Int) ≤ 1; omega, by show (1 : Int) ≤ 8; omega, h1, h2⟩)] at HQ
  have HL1 := least_any _ _ _ _ _ _ _ (leasts_one pl h1 h2)
  have HL2 := least_any _ _ _ _ _ _ _ (leasts_two pl h1 h2)
  have HS1 := lSlot_lit (L1 pl) 512 (by kernel_rfl) (leasts_one pl h1 h2).k6 (by kernel_rfl) (by kernel_rfl) (by kernel_rfl) (by kernel_rfl)
  have HS2 := lSlot_lit (fitP pl) 512 (by kernel_rfl) (leasts_two pl h1 h2).k6 (by kernel_rfl) (by kernel_rfl) (by kernel_rfl) (by kernel_rfl)
  have HF := fails_any (fitP pl)
  rw [(ok_iff _).2 (fit_ok pl h1 h2)] at HF
  have KK := Lib.hid HK
  have QQ := Lib.hid HQ
  have LL1 := Lib.hid HL1
  have LL2 := Lib.hid HL2
  have SS1 := Lib.hid HS1
  have SS2 := Lib.hid HS2
  have FF := Lib.hid HF
  clear HK HQ HL1 HL2 HS1 HS2 HF
  unfold planV planC wishP
  go_enter Try.func54, Try.ntmps54
  go_wp2_with (first
    | (go_at_call 46; refine (KK.out _).mono ?_; rintro e w1 ⟨rfl, hg1⟩; have hr1 := hg1.row (row_new _ _); simp only [World.size_alloc] at hr1)
    | (go_at_call 80; refine (QQ.out _).mono ?_; rintro e w2 ⟨rfl, hg2⟩; have hr2 := hg2.row hr1; have hz2 := hg2.row (hg1.row (row_old (row_old (row_new _ _)))); simp only [World.size_alloc] at hz2)
    | (go_at_call 81; refine (LL1.out _ _ hr2).mono ?_; rintro e w3 ⟨rfl, hr3, ht3⟩; have hz3 := ht3.row (by omega) hz2)
    | (refine wpList_isload 23 _ rfl ?_; refine wpList_load_rowg 23 _ rfl rfl _ rfl _ _ _ _ (by first | exact row_new _ _ | exact row_old (row_new _ _) | exact row_old (row_old (row_new _ _)) | exact row_old (row_old (row_old (row_new _ _))) | assumption) Try.underlying23 rfl (by kernel_rfl) ?_) | (refine wpList_isload 82 _ rfl ?_; refine wpList_load_rowg 82 _ rfl rfl _ rfl _ _ _ _ (by first | exact row_new _ _ | exact row_old (row_new _ _) | exact row_old (row_old (row_new _ _)) | exact row_old (row_old (row_old (row_new _ _))) | assumption) Try.underlying82 rfl (by kernel_rfl) ?_))
  have hgw3 : Grow w w3 := ht3.grow (((((((Grow.refl w).alloc _).alloc _).alloc _).alloc _).trans hg1).trans hg2) (by omega)
  have hcs3 : w3.cell? ⟨w.heap.size + 1 + 1 + 1, 2, none⟩ = some (.int .i64 1) := cell_of_row w3 _ 2 _ _ _ hr3
  have hlt3 : w.heap.size + 1 + 1 + 1 < w3.heap.size := (Array.getElem?_eq_some_iff.1 hr3).1
  clear hg1 hg2 hr1 hr2 hz2 ht3
  refine wp_loop_rounds 2 ?_
  rw [rounds_succ]
  go_wp2
  refine wp_region_grow (by kernel_rfl) (by kernel_rfl) ?_
  repeat
    apply wpQuiet_op rfl
    · intro W hW
      first
        | exact quiet_load_row 82 _ rfl _ rfl _ _ _ _ (hW.row (by first | exact row_new _ _ | exact row_old (row_new _ _) | exact row_old (row_old (row_new _ _)) | exact row_old (row_old (row_old (row_new _ _))) | assumption)) Try.underlying82 rfl (by kernel_rfl)
        | (obtain ⟨hc, hf⟩ := hW.cells
           go_simp
           first
             | (go_at_call 82; exact Calls.grow hW (SS1.out _))
             | exact rfl
             | exact ⟨rfl, rfl⟩)
    simp only [Act.put, List.setIfInBounds_toArray, List.set_cons_zero, List.set_cons_succ]
  refine wpQuiet_nil ?_
  intro W hW
  have hz := hW.size
  obtain ⟨hc, hf⟩ := hW.cells
  have hgw4 := hgw3.trans hW
  have hr4 := hW.row hr3
  have hz4 := hW.row hz3
  clear hc hf hz hcs3 hlt3 hr3 hz3 hgw3 hW
  go_wp2_with (first
    | (go_at_call 82; refine (SS1.out _).mono ?_; rintro e w5 ⟨rfl, hg5⟩; have hr5 := hg5.row hr4; have hz5 := hg5.row hz4; obtain ⟨v5, hc5⟩ := plan_cell hr5 2 (by omega); have hf5 := frozen_of_row (j := 2) hr5; have hr5' := row_store (q := L2 pl) hr5 (set_slot (L1 pl) 512))
    | (go_at_call 81; refine (LL2.out _ _ hr5').mono ?_; rintro e w6 ⟨rfl, hr6, ht6⟩)
    | (refine wpList_isload 82 _ rfl ?_; refine wpList_load_rowg 82 _ rfl rfl _ rfl _ _ _ _ (by first | exact row_new _ _ | exact row_old (row_new _ _) | exact row_old (row_old (row_new _ _)) | exact row_old (row_old (row_old (row_new _ _))) | assumption) Try.underlying82 rfl (by kernel_rfl) ?_))
  have hgw6 : Grow w w6 := ht6.grow ((hgw4.trans hg5).setCell (p := ⟨w.heap.size + 1 + 1 + 1, 2, none⟩) (by simp; omega) (.int .i64 512)) (by omega)
  have hz6 := ht6.row (by omega) ((Below.heap_setCell w5 ⟨w.heap.size + 1 + 1 + 1, 2, none⟩ (.int .i64 512) _ (by simp)).trans hz5)
  clear hg5 hr5 hz5 hc5 hf5 hr5' hgw4 hr4 hz4 ht6
  have hcs6 : w6.cell? ⟨w.heap.size + 1 + 1 + 1, 2, none⟩ = some (.int .i64 512) := cell_of_row w6 _ 2 _ _ _ hr6
  have hlt6 : w.heap.size + 1 + 1 + 1 < w6.heap.size := (Array.getElem?_eq_some_iff.1 hr6).1
  rw [rounds_succ]
  go_wp2
  refine wp_region_grow (by kernel_rfl) (by kernel_rfl) ?_
  repeat
    apply wpQuiet_op rfl
    · intro W hW
      first
        | exact quiet_load_row 82 _ rfl _ rfl _ _ _ _ (hW.row (by first | exact row_new _ _ | exact row_old (row_new _ _) | exact row_old (row_old (row_new _ _)) | exact row_old (row_old (row_old (row_new _ _))) | assumption)) Try.underlying82 rfl (by kernel_rfl)
        | (obtain ⟨hc, hf⟩ := hW.cells
           go_simp
           first
             | (go_at_call 82; exact Calls.grow hW (SS2.out _))
             | exact rfl
             | exact ⟨rfl, rfl⟩)
    simp only [Act.put, List.setIfInBounds_toArray, List.set_cons_zero, List.set_cons_succ]
  refine wpQuiet_nil ?_
  intro W hW
  have hz := hW.size
  obtain ⟨hc, hf⟩ := hW.cells
  have hgw7 := hgw6.trans hW
  have hr7 := hW.row hr6
  have hz7 := hW.row hz6
  clear hc hf hz hcs6 hlt6 hr6 hz6 hgw6 hW
  go_wp2_with (first
    | (go_at_call 43; refine (FF.out _).mono ?_; rintro e w8 ⟨rfl, hg8⟩; have hr8 := hg8.row hr7; have hz8 := hg8.row hz7)
    | (refine wpList_store_row rfl 23 _ _ rfl (w.heap.size + 1) (planC (fitP pl)) rfl rfl 23 _ hz8 (by kernel_rfl) rfl (by kernel_rfl) ?_)
    | (refine wpList_isload 23 _ rfl ?_; refine wpList_load_rowg 23 _ rfl rfl _ rfl _ _ _ _ (by first | exact row_new _ _ | exact row_old (row_new _ _) | exact row_old (row_old (row_new _ _)) | exact row_old (row_old (row_old (row_new _ _))) | assumption) Try.underlying23 rfl (by kernel_rfl) ?_))
  have hres := results_cell_tmp (P := Try.prog) (fn := Try.f54) (p := 2) (q := 3) (ty := 23) rfl
  refine bodyPost_ret (v := .tuple #[planV (fitP pl), .int .i64 0]) ?_ rfl ⟨rfl, ?_⟩
  · exact hres _ _ (w.heap.size + 1) _ (planC (fitP pl)) _ _ rfl (setRow_heap _ _ _ _ _ _ hz8) Try.underlying23 rfl (by kernel_rfl)
  · exact (hgw7.trans hg8).setRow (by omega) _
end Go.Proofs.Ytelmgipnlflmaaa
