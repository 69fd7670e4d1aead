/-
  The chapter's first examples of layer 21 hold. No condition.
-/
import Derived.Test.YtelmgipnlflmaaaStartup5
import Derived.Test.YtelmgipnlflmaaaTail2
namespace Go.Proofs.Ytelmgipnlflmaaa
open Go.RowKit

set_option maxRecDepth 100000 in
set_option maxHeartbeats 2000000 in
theorem alive21_any (w : World) :
    Calls Try.prog 8 #[] w fun e w' => e = .returned (.bool true) ∧ Grow w w' := by
  have hS := Lib.hid some21_any
  have hL := Lib.hid (Listen_ok (fitP 4) 1 100 s0_ok)
  have hD := due_ok (fitP 4) s0 s0_ok
  rw [s0_wait] at hD
  have HD := Lib.hid hD
  have hT1 := Time_wait (fitP 4) s0 6755 s0_ok (by decide) (by decide) (by decide)
  have hT2 := Time_send (fitP 4) s0 6756 s0_ok (by decide) (by decide) (by decide) (by decide) (by decide) (by decide)
  have HT1 := Lib.hid hT1
  have HT2 := Lib.hid hT2
  clear hD hT1 hT2
  go_enter Try.func8, Try.ntmps8
  go_wp2_with (first
    | (go_at_call 34; refine (hS.out _).mono ?_; rintro e w1 ⟨rfl, hg⟩)
    | (go_at_call 33; refine (hL.out _).mono ?_; rintro e w2 ⟨rfl, hg2⟩; have hs2 := row_new w2 (.cells (stC s0) 25))
    | (refine wpList_store_new 25 _ _ rfl rfl _ (stC s0) _ _ rfl rfl (by kernel_rfl) rfl (by kernel_rfl) ?_)
    | (refine wpList_isload 23 _ rfl ?_; refine wpList_load_rowg 23 _ rfl rfl _ rfl _ _ _ _ (by first | exact row_new _ _ | exact row_old (row_new _ _) | exact row_old (row_old (row_new _ _)) | exact row_old (row_old (row_old (row_new _ _))) | assumption) Try.underlying23 rfl (by kernel_rfl) ?_) | (refine wpList_isload 25 _ rfl ?_; refine wpList_load_rowg 25 _ rfl rfl _ rfl _ _ _ _ (by first | exact row_new _ _ | exact row_old (row_new _ _) | exact row_old (row_old (row_new _ _)) | exact row_old (row_old (row_old (row_new _ _))) | assumption) Try.underlying25 rfl (by kernel_rfl) ?_))
  refine wp_region_grow (by kernel_rfl) (by kernel_rfl) ?_
  repeat
    apply wpQuiet_op rfl
    · intro W hW
      first
        | exact quiet_load_row 25 _ rfl _ rfl _ _ _ _ (hW.row (by first | exact row_new _ _ | exact row_old (row_new _ _) | exact row_old (row_old (row_new _ _)) | exact row_old (row_old (row_old (row_new _ _))) | assumption)) Try.underlying25 rfl (by kernel_rfl)
        | (obtain ⟨hc, hf⟩ := hW.cells
           go_simp
           first
             | (go_at_call 34; exact Calls.grow hW (hS.out _))
             | (go_at_call 9; exact Calls.grow hW (HD.out _))
             | exact rfl
             | exact ⟨rfl, rfl⟩)
    simp only [Act.put, List.setIfInBounds_toArray, List.set_cons_zero, List.set_cons_succ]
  refine wpQuiet_nil ?_
  intro W hW
  have hz := hW.size
  obtain ⟨hc, hf⟩ := hW.cells
  have hgw := hW
  have hs3 := hW.row hs2
  clear hc hf hz hs2 hW hL HD
  go_wp2_with fail
  refine wp_region_new 7 (by kernel_rfl) (by kernel_rfl) ?_
  simp only [List.take_succ_cons, List.take_zero, List.drop_succ_cons, List.drop_zero]
  repeat
    apply walkR_op rfl
    · intro W hW
      first
        | exact quiet_load_row 25 _ rfl _ rfl _ _ _ _ (hW.row (by first | exact row_new _ _ | exact row_old (row_new _ _) | exact row_old (row_old (row_new _ _)) | exact row_old (row_old (row_old (row_new _ _))) | assumption)) Try.underlying25 rfl (by kernel_rfl)
        | (obtain ⟨hc, hf⟩ := hW.cells
           go_simp
           first
             | (go_at_call 34; exact (hS.out _))
             | (go_at_call 10; exact (HT1.out _))
             | exact rfl
             | exact ⟨rfl, rfl⟩)
    simp only [Act.put, List.setIfInBounds_toArray, List.set_cons_zero, List.set_cons_succ]
  refine walkR_nil ?_
  refine tailR_alloc (Grow.refl _) rfl #[.int .i64 0, .int .i64 0, .int .i64 0, .int .i64 0, .bool false, .int .i64 0] 25 (fun _ => by kernel_rfl) ?_
  intro g1 V1 hle1 hV1 hv1
  simp only [Act.put, List.setIfInBounds_toArray, List.set_cons_zero, List.set_cons_succ]
  refine tailR_store hV1 rfl 25 _ _ rfl g1 (stC s0) rfl rfl 25 _ hv1 (by kernel_rfl) rfl (by kernel_rfl) hle1 ?_
  intro U1 hU1 hu1
  simp only [Act.put]
  refine tailR_op hU1 rfl (.int .i64 0) (fun _ _ => ⟨rfl, rfl⟩) ?_
  simp only [Act.put, List.setIfInBounds_toArray, List.set_cons_zero, List.set_cons_succ]
  refine tailR_op hU1 rfl (.int .i64 0) (fun _ _ => ⟨rfl, rfl⟩) ?_
  simp only [Act.put, List.setIfInBounds_toArray, List.set_cons_zero, List.set_cons_succ]
  refine tailR_end ?_
  intro W1 hW1
  have hx1 := hW1.row hu1
  have hgw1 := hU1.trans hW1
  have hs4 := hgw1.row hs3
  clear hx1 hv1 hu1 hV1 hU1 hle1 HT1 hW1
  go_wp2_with fail
  refine wp_region_new 7 (by kernel_rfl) (by kernel_rfl) ?_
  simp only [List.take_succ_cons, List.take_zero, List.drop_succ_cons, List.drop_zero]
  repeat
    apply walkR_op rfl
    · intro W hW
      first
        | exact quiet_load_row 25 _ rfl _ rfl _ _ _ _ (hW.row (by first | exact row_new _ _ | exact row_old (row_new _ _) | exact row_old (row_old (row_new _ _)) | exact row_old (row_old (row_old (row_new _ _))) | assumption)) Try.underlying25 rfl (by kernel_rfl)
        | (obtain ⟨hc, hf⟩ := hW.cells
           go_simp
           first
             | (go_at_call 34; exact (hS.out _))
             | (go_at_call 10; exact (HT2.out _))
             | exact rfl
             | exact ⟨rfl, rfl⟩)
    simp only [Act.put, List.setIfInBounds_toArray, List.set_cons_zero, List.set_cons_succ]
  refine walkR_nil ?_
  refine tailR_alloc (Grow.refl _) rfl #[.int .i64 0, .int .i64 0, .int .i64 0, .int .i64 0, .bool false, .int .i64 0] 25 (fun _ => by kernel_rfl) ?_
  intro g2 V2 hle2 hV2 hv2
  simp only [Act.put, List.setIfInBounds_toArray, List.set_cons_zero, List.set_cons_succ]
  refine tailR_store hV2 rfl 25 _ _ rfl g2 (stC ⟨s0.own, 3, 6756, 0, false, s0.tries + 1⟩) rfl rfl 25 _ hv2 (by kernel_rfl) rfl (by kernel_rfl) hle2 ?_
  intro U2 hU2 hu2
  simp only [Act.put]
  refine tailR_op hU2 rfl (.int .i64 1) (fun _ _ => ⟨rfl, rfl⟩) ?_
  simp only [Act.put, List.setIfInBounds_toArray, List.set_cons_zero, List.set_cons_succ]
  refine tailR_op hU2 rfl (.int .i64 0) (fun _ _ => ⟨rfl, rfl⟩) ?_
  simp only [Act.put, List.setIfInBounds_toArray, List.set_cons_zero, List.set_cons_succ]
  refine tailR_end ?_
  intro W2 hW2
  have hx2 := hW2.row hu2
  have hgw2 := hU2.trans hW2
  have hx : W2.heap[g2]? = some (.cells #[.int .i64 1, .int .i64 3, .int .i64 6756, .int .i64 0, .bool false, .int .i64 1] 25) := hx2
  clear hx2 hv2 hu2 hV2 hU2 hW2 HT2 hS hs3 hs4
  go_wp2_with (first | (refine wpList_isload 25 _ rfl ?_; refine wpList_load_rowg 25 _ rfl rfl _ rfl _ _ _ _ (by first | exact row_new _ _ | exact row_old (row_new _ _) | exact row_old (row_old (row_new _ _)) | exact row_old (row_old (row_old (row_new _ _))) | assumption) Try.underlying25 rfl (by kernel_rfl) ?_))
  go_ret
  exact ⟨rfl, ((((Grow.refl _).trans hg).trans hg2).alloc _).trans (hgw.trans (hgw1.trans hgw2))⟩
end Go.Proofs.Ytelmgipnlflmaaa
