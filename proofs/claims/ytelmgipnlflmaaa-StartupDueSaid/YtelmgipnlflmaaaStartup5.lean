/-
  Package startup: Listen; the chapter's first examples. Conditions: those that stand ahead of each.
-/
import Derived.Test.YtelmgipnlflmaaaStartup4
namespace Go.Proofs.Ytelmgipnlflmaaa
open Go.RowKit

def St.asks (own : Int) : St := ⟨own, 0, 0, 0, false, 0⟩
theorem lst_zero_row (w : World) (p : Plan) : ((w.alloc (.cells (planC p) 23)).alloc (.cells (stC St.zero) 25)).heap[w.heap.size + 1]? = some (.cells (stC St.zero) 25) := by
  have := row_new (w.alloc (.cells (planC p) 23)) (.cells (stC St.zero) 25)
  simpa using this
set_option maxRecDepth 100000 in
set_option maxHeartbeats 1000000 in
theorem Listen_ok (p : Plan) (own now : Int) (h : ((St.asks own).lis now).Ok p) (w : World) :
    Calls Try.prog 33 #[planV p, .int .i64 own, .int .i64 now] w fun e w' => e = .returned (.tuple #[stV ((St.asks own).lis now), .int .i64 0]) ∧ Grow w w' := by
  have hC := Lib.hid (scheck_ok p _ h)
  have hL := Lib.hid (listen_no (St.asks own) now)
  have hr0 := row_old (o' := .cells (stC St.zero) 25) (row_new w (.cells (planC p) 23))
  have hz0 := lst_zero_row w p
  clear h
  go_enter Try.func33, Try.ntmps33
  go_wp2_with (first
    | (go_at_call 37; refine (hL.out _).mono ?_; rintro e w1 ⟨rfl, hg⟩; have hr1 := hg.row hr0; have hz1 := hg.row hz0; have hs2 := row_new w1 (.cells (stC ((St.asks own).lis now)) 25); have hr2 := row_old (o' := .cells (stC ((St.asks own).lis now)) 25) hr1; have hz2 := row_old (o' := .cells (stC ((St.asks own).lis now)) 25) hz1)
    | (go_at_call 11; refine (hC.out _).mono ?_; rintro e w3 ⟨rfl, hg3⟩; have hs3 := hg3.row hs2; have hz3 := hg3.row hz2)
    | (refine wpList_store_new 25 _ _ rfl rfl _ (stC ((St.asks own).lis now)) _ _ rfl rfl (by kernel_rfl) rfl (by kernel_rfl) ?_)
    | (refine wpList_store_row rfl 25 _ _ rfl (w.heap.size + 1) (stC ((St.asks own).lis now)) rfl rfl 25 _ hz3 (by kernel_rfl) rfl (by kernel_rfl) ?_)
    | (refine wpList_isload 23 _ rfl ?_; refine wpList_load_rowg 23 _ rfl rfl _ rfl _ _ _ _ (by first | exact row_new _ _ | exact row_old (row_new _ _) | exact row_old (row_old (row_new _ _)) | exact row_old (row_old (row_old (row_new _ _))) | assumption) Try.underlying23 rfl (by kernel_rfl) ?_) | (refine wpList_isload 25 _ rfl ?_; refine wpList_load_rowg 25 _ rfl rfl _ rfl _ _ _ _ (by first | exact row_new _ _ | exact row_old (row_new _ _) | exact row_old (row_old (row_new _ _)) | exact row_old (row_old (row_old (row_new _ _))) | assumption) Try.underlying25 rfl (by kernel_rfl) ?_))
  have hres := results_cell_tmp (P := Try.prog) (fn := Try.f33) (p := 6) (q := 7) (ty := 25) rfl
  refine bodyPost_ret (v := .tuple #[stV ((St.asks own).lis now), .int .i64 0]) ?_ rfl ⟨rfl, ?_⟩
  · exact hres _ _ (w.heap.size + 1) _ (stC ((St.asks own).lis now)) _ _ rfl (setRow_heap _ _ _ _ _ _ hz3) Try.underlying25 rfl (by kernel_rfl)
  · exact ((((((Grow.refl _).alloc _).alloc _).trans hg).alloc _).trans hg3).setRow (by omega) _

def s0 : St := (St.asks 1).lis 100
theorem s0_ok : s0.Ok (fitP 4) where
  fine := ⟨fit_ok 4 (by omega) (by omega), by decide, by decide, by decide, by decide, .inr rfl⟩
  st := .inl ⟨rfl, rfl⟩
theorem s0_wait : s0.since + s0.wait (fitP 4) = 6756 := by decide
end Go.Proofs.Ytelmgipnlflmaaa
