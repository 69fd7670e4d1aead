/-
  The chapter's first examples of layer 16 hold; its readings, told. No condition.
-/
import Derived.Test.YtelmgipnlflmaaaSame
import Derived.Test.YtelmgipnlflmaaaPlace
import Derived.Test.YtelmgipnlflmaaaFit3
import Derived.Test.YtelmgipnlflmaaaStore
namespace Go.Proofs.Ytelmgipnlflmaaa
open Go.RowKit Go.Shelf

theorem zero_row16 (w : World) (t : TypeId) (cs : Array Value) : (w.alloc (.cells cs t)).heap[w.heap.size]? = some (.cells cs t (0, 0)) := row_new w _
set_option maxRecDepth 100000 in
set_option maxHeartbeats 1000000 in
theorem some16_any (w : World) :
    Calls Try.prog 22 #[] w fun e w' => e = .returned (planV (fitP 4)) ∧ Grow w w' := by
  have hF := Lib.hid (Fit_any 4 (by omega) (by omega))
  have hz0 := zero_row16 w 23 #[.int .i64 0, .int .i64 0, .int .i64 0, .int .i64 0, .int .i64 0, .int .i64 0, .int .i64 0, .int .i64 0, .int .i64 0, .int .i64 0, .int .i64 0, .int .i64 0, .int .i64 0, .int .i64 0, .int .i64 0, .int .i64 0]
  go_enter Try.func22, Try.ntmps22
  go_wp2_with (first
    | (go_at_call 54; refine (hF.out _).mono ?_; rintro e w1 ⟨rfl, hg⟩; have hz1 := hg.row hz0; have hz2 := row_old (o' := .cells (planC (fitP 4)) 23) hz1)
    | (refine wpList_store_new 23 _ _ rfl rfl _ (planC (fitP 4)) _ _ rfl rfl (by kernel_rfl) rfl (by kernel_rfl) ?_)
    | (refine wpList_store_row rfl 23 _ _ rfl w.heap.size (planC (fitP 4)) rfl rfl 23 _ hz2 (by kernel_rfl) rfl (by kernel_rfl) ?_)
    | (refine wpList_isload 23 _ rfl ?_; refine wpList_load_rowg 23 _ rfl rfl _ rfl _ _ _ _ (by first | exact row_new _ _ | exact row_old (row_new _ _) | exact row_old (row_old (row_new _ _)) | exact row_old (row_old (row_old (row_new _ _))) | assumption) Try.underlying23 rfl (by kernel_rfl) ?_))
  refine bodyPost_ret (v := planV (fitP 4)) ?_ rfl ⟨rfl, ?_⟩
  · exact results_cell_row (p := 0) (ty := 23) rfl _ _ w.heap.size _ (planC (fitP 4)) _ _ rfl (setRow_heap _ _ _ _ _ _ hz2) Try.underlying23 rfl (by kernel_rfl)
  · exact ((((Grow.refl _).alloc _).trans hg).alloc _).setRow (by omega) _

theorem ok16 : (fitP 4).Ok := fit_ok 4 (by omega) (by omega)
theorem has16 (s : Int) (h0 : 0 ≤ s) (h1 : s < 4) : (fitP 4).has 0 s := ⟨ok16, by decide, by decide, h0, h1⟩
set_option maxRecDepth 100000 in
set_option maxHeartbeats 400000 in
theorem judged16_any (x v d n : Int) (hn : 1000 * v + d = n) (hm : mayB x = true) (hv : verd 154 346 x = v) (hd : x - 250 = d) (hv1 : 0 ≤ v) (hv2 : v ≤ 3) (hd1 : -1000 ≤ d) (hd2 : d ≤ 1000) (w : World) :
    Calls Try.prog 28 #[.int .i64 x] w fun e w' => e = .returned (.int .i64 n) ∧ Grow w w' := by
  subst hn
  have hS := Lib.hid some16_any
  have hJ := Judge_in (fitP 4) 0 0 x (has16 0 (by decide) (by decide)) hm
  have e1 : (fitP 4).exp 0 0 = 250 := by decide
  have e2 : (fitP 4).window = 96 := by decide
  rw [e1, e2, hd, show (250 : Int) - 96 = 154 from rfl, show (250 : Int) + 96 = 346 from rfl, hv] at hJ
  have HJ := Lib.hid hJ
  have q1 := iw (1000 * v) (by omega) (by omega)
  have q2 := iw (1000 * v + d) (by omega) (by omega)
  clear hJ hm hv hd e1 e2
  go_enter Try.func28, Try.ntmps28
  go_wp2_with (first
    | (go_at_call 22; refine (hS.out _).mono ?_; rintro e w1 ⟨rfl, hg⟩)
    | (go_at_call 25; refine (HJ.out _).mono ?_; rintro e w2 ⟨rfl, hg2⟩))
  go_ret
  exact ⟨rfl, hg.trans hg2⟩
set_option maxRecDepth 100000 in
set_option maxHeartbeats 400000 in
theorem alive16_any (w : World) :
    Calls Try.prog 27 #[] w fun e w' => e = .returned (.bool true) ∧ Grow w w' := by
  have h1 := Lib.hid (judged16_any 250 2 0 2000 (by decide) (by decide) (by decide) (by decide) (by decide) (by decide) (by decide) (by decide))
  have h2 := Lib.hid (judged16_any 153 1 (-97) 903 (by decide) (by decide) (by decide) (by decide) (by decide) (by decide) (by decide) (by decide))
  have h3 := Lib.hid (judged16_any 347 3 97 3097 (by decide) (by decide) (by decide) (by decide) (by decide) (by decide) (by decide) (by decide))
  have h4 := Lib.hid (judged16_any 346 2 96 2096 (by decide) (by decide) (by decide) (by decide) (by decide) (by decide) (by decide) (by decide))
  go_enter Try.func27, Try.ntmps27
  go_wp2_with (first
    | (go_at_call 28; refine (h1.out _).mono ?_; rintro e w1 ⟨rfl, hg1⟩; clear h1)
    | (go_at_call 28; refine (h2.out _).mono ?_; rintro e w2 ⟨rfl, hg2⟩; clear h2)
    | (go_at_call 28; refine (h3.out _).mono ?_; rintro e w3 ⟨rfl, hg3⟩; clear h3)
    | (go_at_call 28; refine (h4.out _).mono ?_; rintro e w4 ⟨rfl, hg4⟩; clear h4))
  go_ret
  exact ⟨rfl, ((hg1.trans hg2).trans hg3).trans hg4⟩
end Go.Proofs.Ytelmgipnlflmaaa
