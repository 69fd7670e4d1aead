/-
  The law StartupDue, each way. Conditions: those that stand ahead of each.
-/
import Derived.Test.YtelmgipnlflmaaaAlive21
import Derived.Test.YtelmgipnlflmaaaGuard
import Derived.OpenShut
namespace Go.Proofs.Ytelmgipnlflmaaa
open Go.RowKit

set_option maxRecDepth 100000 in
set_option maxHeartbeats 1000000 in
theorem due_law_bad (p : Plan) (s : St) (now : Int) (h : ¬ s.Ok p) (w : World) :
    Calls Try.prog 3 #[planV p, stV s, .int .i64 now] w fun e w' => e = .returned (.bool true) ∧ Grow w w' := by
  have hA := Lib.hid alive21_any
  have hr0 := row_old (o' := .cells (stC s) 25) (row_new w (.cells (planC p) 23))
  have hs0 := st_row w p s
  have hD := Lib.hid (due_bad p s h)
  have hT := Lib.hid (Time_bad p s now h)
  clear h
  go_enter Try.func3, Try.ntmps3
  go_wp2_with (first
    | (go_at_call 8; refine (hA.out _).mono ?_; rintro e w1 ⟨rfl, hg1⟩; have hr1 := hg1.row hr0; have hs1 := hg1.row hs0)
    | (go_at_call 9; refine (hD.out _).mono ?_; rintro e w2 ⟨rfl, hg2⟩; have hr2 := hg2.row hr1; have hs2 := hg2.row hs1)
    | (go_at_call 10; refine (hT.out _).mono ?_; rintro e w3 ⟨rfl, hg3⟩)
    | (refine wpList_isstore 25 _ _ rfl ?_; refine wpList_store_new 25 _ _ rfl rfl _ #[.int .i64 0, .int .i64 0, .int .i64 0, .int .i64 0, .bool false, .int .i64 0] _ _ rfl rfl (by kernel_rfl) rfl (by kernel_rfl) ?_)
    | (refine wpList_isload 23 _ rfl ?_; refine wpList_load_rowg 23 _ rfl rfl _ rfl _ _ _ _ (by first | (with_reducible first | exact hr5 | exact hr4 | exact hr3 | exact hr2 | exact hr1 | exact hr0) | exact row_new _ _ | exact row_old (row_new _ _)) Try.underlying23 rfl (by kernel_rfl) ?_) | (refine wpList_isload 25 _ rfl ?_; refine wpList_load_rowg 25 _ rfl rfl _ rfl _ _ _ _ (by first | (with_reducible first | exact hn5 | exact hn4 | exact hn3 | exact hs5 | exact hs4 | exact hs3 | exact hs2 | exact hs1 | exact hs0) | exact row_new _ _ | exact row_old (row_new _ _)) Try.underlying25 rfl (by kernel_rfl) ?_))
  go_ret
  exact ⟨rfl, ((((((Grow.refl _).alloc _).alloc _).trans hg1).trans hg2).trans hg3).alloc _⟩
set_option maxRecDepth 100000 in
set_option maxHeartbeats 1000000 in
theorem due_law_early (p : Plan) (s : St) (now : Int) (h : s.Ok p) (hn : now < s.since) (w : World) :
    Calls Try.prog 3 #[planV p, stV s, .int .i64 now] w fun e w' => e = .returned (.bool true) ∧ Grow w w' := by
  have hA := Lib.hid alive21_any
  have hr0 := row_old (o' := .cells (stC s) 25) (row_new w (.cells (planC p) 23))
  have hs0 := st_row w p s
  have hD := Lib.hid (due_ok p s h)
  have hT := Lib.hid (Time_early p s now h hn)
  clear h
  go_enter Try.func3, Try.ntmps3
  go_wp2_with (first
    | (go_at_call 8; refine (hA.out _).mono ?_; rintro e w1 ⟨rfl, hg1⟩; have hr1 := hg1.row hr0; have hs1 := hg1.row hs0)
    | (go_at_call 9; refine (hD.out _).mono ?_; rintro e w2 ⟨rfl, hg2⟩; have hr2 := hg2.row hr1; have hs2 := hg2.row hs1)
    | (go_at_call 10; refine (hT.out _).mono ?_; rintro e w3 ⟨rfl, hg3⟩)
    | (refine wpList_isstore 25 _ _ rfl ?_; refine wpList_store_new 25 _ _ rfl rfl _ #[.int .i64 0, .int .i64 0, .int .i64 0, .int .i64 0, .bool false, .int .i64 0] _ _ rfl rfl (by kernel_rfl) rfl (by kernel_rfl) ?_)
    | (refine wpList_isload 23 _ rfl ?_; refine wpList_load_rowg 23 _ rfl rfl _ rfl _ _ _ _ (by first | (with_reducible first | exact hr5 | exact hr4 | exact hr3 | exact hr2 | exact hr1 | exact hr0) | exact row_new _ _ | exact row_old (row_new _ _)) Try.underlying23 rfl (by kernel_rfl) ?_) | (refine wpList_isload 25 _ rfl ?_; refine wpList_load_rowg 25 _ rfl rfl _ rfl _ _ _ _ (by first | (with_reducible first | exact hn5 | exact hn4 | exact hn3 | exact hs5 | exact hs4 | exact hs3 | exact hs2 | exact hs1 | exact hs0) | exact row_new _ _ | exact row_old (row_new _ _)) Try.underlying25 rfl (by kernel_rfl) ?_))
  go_ret
  exact ⟨rfl, ((((((Grow.refl _).alloc _).alloc _).trans hg1).trans hg2).trans hg3).alloc _⟩
set_option maxRecDepth 100000 in
set_option maxHeartbeats 1000000 in
theorem due_law_late (p : Plan) (s : St) (now : Int) (h : s.Ok p) (hn : s.since ≤ now) (hm : 4294967296 < now) (w : World) :
    Calls Try.prog 3 #[planV p, stV s, .int .i64 now] w fun e w' => e = .returned (.bool true) ∧ Grow w w' := by
  have hA := Lib.hid alive21_any
  have hr0 := row_old (o' := .cells (stC s) 25) (row_new w (.cells (planC p) 23))
  have hs0 := st_row w p s
  have hD := Lib.hid (due_ok p s h)
  have hT := Lib.hid (Time_late p s now h hn hm)
  clear h
  go_enter Try.func3, Try.ntmps3
  go_wp2_with (first
    | (go_at_call 8; refine (hA.out _).mono ?_; rintro e w1 ⟨rfl, hg1⟩; have hr1 := hg1.row hr0; have hs1 := hg1.row hs0)
    | (go_at_call 9; refine (hD.out _).mono ?_; rintro e w2 ⟨rfl, hg2⟩; have hr2 := hg2.row hr1; have hs2 := hg2.row hs1)
    | (go_at_call 10; refine (hT.out _).mono ?_; rintro e w3 ⟨rfl, hg3⟩)
    | (refine wpList_isstore 25 _ _ rfl ?_; refine wpList_store_new 25 _ _ rfl rfl _ #[.int .i64 0, .int .i64 0, .int .i64 0, .int .i64 0, .bool false, .int .i64 0] _ _ rfl rfl (by kernel_rfl) rfl (by kernel_rfl) ?_)
    | (refine wpList_isload 23 _ rfl ?_; refine wpList_load_rowg 23 _ rfl rfl _ rfl _ _ _ _ (by first | (with_reducible first | exact hr5 | exact hr4 | exact hr3 | exact hr2 | exact hr1 | exact hr0) | exact row_new _ _ | exact row_old (row_new _ _)) Try.underlying23 rfl (by kernel_rfl) ?_) | (refine wpList_isload 25 _ rfl ?_; refine wpList_load_rowg 25 _ rfl rfl _ rfl _ _ _ _ (by first | (with_reducible first | exact hn5 | exact hn4 | exact hn3 | exact hs5 | exact hs4 | exact hs3 | exact hs2 | exact hs1 | exact hs0) | exact row_new _ _ | exact row_old (row_new _ _)) Try.underlying25 rfl (by kernel_rfl) ?_))
  go_ret
  exact ⟨rfl, ((((((Grow.refl _).alloc _).alloc _).trans hg1).trans hg2).trans hg3).alloc _⟩
set_option maxRecDepth 100000 in
set_option maxHeartbeats 1000000 in
theorem due_law_wait (p : Plan) (s : St) (now : Int) (h : s.Ok p) (hn : s.since ≤ now) (hm : now ≤ 4294967296) (hd : now < s.since + s.wait p) (w : World) :
    Calls Try.prog 3 #[planV p, stV s, .int .i64 now] w fun e w' => e = .returned (.bool true) ∧ Grow w w' := by
  have hA := Lib.hid alive21_any
  have hr0 := row_old (o' := .cells (stC s) 25) (row_new w (.cells (planC p) 23))
  have hs0 : ((w.alloc (.cells (planC p) 23)).alloc (.cells (stC s) 25)).heap[w.heap.size + 1]? = some (.cells #[.int .i64 s.own, .int .i64 s.state, .int .i64 s.since, .int .i64 s.first, .bool s.has, .int .i64 s.tries] 25) := st_row w p s
  have hD : ∀ w, Calls Try.prog 9 #[planV p, .agg #[.int .i64 s.own, .int .i64 s.state, .int .i64 s.since, .int .i64 s.first, .bool s.has, .int .i64 s.tries]] w fun e w' => e = .returned (.tuple #[.int .i64 (s.since + s.wait p), .int .i64 0]) ∧ Grow w w' := due_ok p s h
  have hT : ∀ w, Calls Try.prog 10 #[planV p, .agg #[.int .i64 s.own, .int .i64 s.state, .int .i64 s.since, .int .i64 s.first, .bool s.has, .int .i64 s.tries], .int .i64 now] w fun e w' => e = .returned (.tuple #[.agg #[.int .i64 s.own, .int .i64 s.state, .int .i64 s.since, .int .i64 s.first, .bool s.has, .int .i64 s.tries], .int .i64 0, .int .i64 0]) ∧ Grow w w' := Time_wait p s now h hn hm hd
  have HD := Lib.hid hD
  have HT := Lib.hid hT
  clear h hD hT hm hn
  go_enter Try.func3, Try.ntmps3
  go_wp2_with (first
    | (go_at_call 8; refine (hA.out _).mono ?_; rintro e w1 ⟨rfl, hg1⟩; have hr1 := hg1.row hr0; have hs1 := hg1.row hs0)
    | (go_at_call 9; refine (HD.out _).mono ?_; rintro e w2 ⟨rfl, hg2⟩; have hr2 := hg2.row hr1; have hs2 := hg2.row hs1)
    | (go_at_call 10; refine (HT.out _).mono ?_; rintro e w3 ⟨rfl, hg3⟩; have hs3 := row_old (o' := .cells #[.int .i64 s.own, .int .i64 s.state, .int .i64 s.since, .int .i64 s.first, .bool s.has, .int .i64 s.tries] 25) (hg3.row hs2))
    | (refine wpList_isstore 25 _ _ rfl ?_; refine wpList_store_new 25 _ _ rfl rfl _ #[.int .i64 s.own, .int .i64 s.state, .int .i64 s.since, .int .i64 s.first, .bool s.has, .int .i64 s.tries] _ _ rfl rfl (by kernel_rfl) rfl (by kernel_rfl) ?_)
    | (refine wpList_isload 23 _ rfl ?_; refine wpList_load_rowg 23 _ rfl rfl _ rfl _ _ _ _ (by first | (with_reducible first | exact hr5 | exact hr4 | exact hr3 | exact hr2 | exact hr1 | exact hr0) | exact row_new _ _ | exact row_old (row_new _ _)) Try.underlying23 rfl (by kernel_rfl) ?_) | (refine wpList_isload 25 _ rfl ?_; refine wpList_load_rowg 25 _ rfl rfl _ rfl _ _ _ _ (by first | (with_reducible first | exact hn5 | exact hn4 | exact hn3 | exact hs5 | exact hs4 | exact hs3 | exact hs2 | exact hs1 | exact hs0) | exact row_new _ _ | exact row_old (row_new _ _)) Try.underlying25 rfl (by kernel_rfl) ?_))
  go_ret
  exact ⟨rfl, ((((((Grow.refl _).alloc _).alloc _).trans hg1).trans hg2).trans hg3).alloc _⟩
set_option maxRecDepth 100000 in
set_option maxHeartbeats 1000000 in
theorem due_law_back (p : Plan) (s : St) (now : Int) (h : s.Ok p) (hn : s.since ≤ now) (hm : now ≤ 4294967296) (hd : s.since + s.wait p ≤ now) (ht : (s.tries == 3) = true) (w : World) :
    Calls Try.prog 3 #[planV p, stV s, .int .i64 now] w fun e w' => e = .returned (.bool true) ∧ Grow w w' := by
  have hb := timeB_iff.1 h.fine.since
  have ht0 : 0 ≤ s.tries := by rcases h.st with ⟨_, h2⟩ | ⟨_, h2, _⟩ <;> omega
  obtain ⟨N, hNd⟩ : ∃ N : St, N = ⟨s.own, 2, now, 0, false, 0⟩ := ⟨_, rfl⟩
  have hN : N.Ok p := by
    rw [hNd]
    exact ⟨⟨h.fine.ok, h.fine.own0, h.fine.own1, timeB_iff.2 ⟨show 0 ≤ now by omega, show now ≤ 4294967296 from hm⟩, rfl, .inr rfl⟩, .inl ⟨rfl, rfl⟩⟩
  have hw4 := (wait_bd hN.fine).1
  have hRr := rscheck2 p N hN.fine (by rw [hNd]; rfl) (by rw [hNd]; rfl) (by rw [hNd])
  have hA := Lib.hid alive21_any
  have hr0 := row_old (o' := .cells (stC s) 25) (row_new w (.cells (planC p) 23))
  have hs0 := st_row w p s
  have hD := Lib.hid (due_ok p s h)
  have hT : ∀ w, Calls Try.prog 10 #[planV p, stV s, .int .i64 now] w fun e w' => e = .returned (.tuple #[stV N, .int .i64 5, .int .i64 0]) ∧ Grow w w' := by
    rw [hNd]
    exact Time_back p s now h hn hm hd ht
  have HT := Lib.hid hT
  have hD2 : ∀ w, Calls Try.prog 9 #[planV p, stV N] w fun e w' => e = .returned (.tuple #[.int .i64 (now + N.wait p), .int .i64 0]) ∧ Grow w w' := by
    have := due_ok p N hN
    have hns : N.since = now := by rw [hNd]
    rwa [hns] at this
  have HD2 := Lib.hid hD2
  have hC := Lib.hid (scheck_ok p N hN)
  have hR := Lib.hid hRr
  have HN := Lib.hid hNd
  have tok := Lib.hid hr0
  have HA := Lib.hid ht
  clear h hN hT hD2 hRr hNd hb hm hn ht0
  go_enter Try.func3, Try.ntmps3
  go_wp2_with (first
    | (go_at_call 8; refine (hA.out _).mono ?_; rintro e w1 ⟨rfl, hg1⟩; have hr1 := hg1.row hr0; have hs1 := hg1.row hs0)
    | (go_at_call 9; have tk := tok; clear tok; refine (hD.out _).mono ?_; rintro e w2 ⟨rfl, hg2⟩; have hr2 := hg2.row hr1; have hs2 := hg2.row hs1)
    | (go_at_call 10; refine (HT.out _).mono ?_; rintro e w3 ⟨rfl, hg3⟩; have hn3 := row_new w3 (.cells (stC N) 25); have hr3 := row_old (o' := .cells (stC N) 25) (hg3.row hr2); have hs3 := row_old (o' := .cells (stC N) 25) (hg3.row hs2))
    | (go_at_call 9; refine (HD2.out _).mono ?_; rintro e w4 ⟨rfl, hg4⟩; have hn4 := hg4.row hn3; have hr4 := hg4.row hr3; have hs4 := hg4.row hs3; have k5 : w4.cell? ⟨w.heap.size + 1, 5, none⟩ = some (.int .i64 s.tries) := cell_of_row w4 _ 5 _ _ _ hs4)
    | (go_at_call 11; refine (hC.out _).mono ?_; rintro e w5 ⟨rfl, hg5⟩; have hn5 := hg5.row hn4; have hr5 := hg5.row hr4; have hs5 := hg5.row hs4; have ks : w5.cell? ⟨w.heap.size + 1, 0, none⟩ = some (.int .i64 s.own) := cell_of_row w5 _ 0 _ _ _ hs5; have kn : w5.cell? ⟨w3.heap.size, 0, none⟩ = some (.int .i64 s.own) := (cell_of_row w5 _ 0 _ _ _ hn5).trans (by rw [HN.out]; rfl); have kt : w5.cell? ⟨w3.heap.size, 2, none⟩ = some (.int .i64 now) := (cell_of_row w5 _ 2 _ _ _ hn5).trans (by rw [HN.out]; rfl))
    | (go_at_call 12; refine (hR.out _).mono ?_; rintro e w6 ⟨rfl, hg6⟩)
    | (refine wpList_isstore 25 _ _ rfl ?_; refine wpList_store_new 25 _ _ rfl rfl _ (stC N) _ _ rfl rfl (by kernel_rfl) rfl (by kernel_rfl) ?_)
    | (refine wpList_isload 23 _ rfl ?_; refine wpList_load_rowg 23 _ rfl rfl _ rfl _ _ _ _ (by first | (with_reducible first | exact hr5 | exact hr4 | exact hr3 | exact hr2 | exact hr1 | exact hr0) | exact row_new _ _ | exact row_old (row_new _ _)) Try.underlying23 rfl (by kernel_rfl) ?_) | (refine wpList_isload 25 _ rfl ?_; refine wpList_load_rowg 25 _ rfl rfl _ rfl _ _ _ _ (by first | (with_reducible first | exact hn5 | exact hn4 | exact hn3 | exact hs5 | exact hs4 | exact hs3 | exact hs2 | exact hs1 | exact hs0) | exact row_new _ _ | exact row_old (row_new _ _)) Try.underlying25 rfl (by kernel_rfl) ?_))
  go_ret
  exact ⟨rfl, (((((((((Grow.refl _).alloc _).alloc _).trans hg1).trans hg2).trans hg3).alloc _).trans hg4).trans hg5).trans hg6⟩
set_option maxRecDepth 100000 in
set_option maxHeartbeats 1000000 in
theorem due_law_send (p : Plan) (s : St) (now : Int) (h : s.Ok p) (hn : s.since ≤ now) (hm : now ≤ 4294967296) (hd : s.since + s.wait p ≤ now) (ht : (s.tries == 3) = false) (w : World) :
    Calls Try.prog 3 #[planV p, stV s, .int .i64 now] w fun e w' => e = .returned (.bool true) ∧ Grow w w' := by
  have hb := timeB_iff.1 h.fine.since
  have ht0 : 0 ≤ s.tries := by rcases h.st with ⟨_, h2⟩ | ⟨_, h2, _⟩ <;> omega
  have ht3 : s.tries ≤ 3 := by rcases h.st with ⟨_, h2⟩ | ⟨_, _, h2, _⟩ <;> omega
  have ht4 : s.tries ≠ 3 := by simpa using ht
  obtain ⟨N, hNd⟩ : ∃ N : St, N = ⟨s.own, 3, now, 0, false, s.tries + 1⟩ := ⟨_, rfl⟩
  have hN : N.Ok p := by
    rw [hNd]
    exact ⟨⟨h.fine.ok, h.fine.own0, h.fine.own1, timeB_iff.2 ⟨show 0 ≤ now by omega, show now ≤ 4294967296 from hm⟩, rfl, .inr rfl⟩, .inr ⟨rfl, show 1 ≤ s.tries + 1 by omega, show s.tries + 1 ≤ 3 by omega, rfl⟩⟩
  have hw4 := (wait_bd hN.fine).1
  have hRr := rscheck3 p N hN.fine (by rw [hNd]; rfl) (by rw [hNd]; rfl) (by rw [hNd]; show 0 < s.tries + 1; omega) (by rw [hNd]; show s.tries + 1 < 4; omega) (by rw [hNd])
  have hA := Lib.hid alive21_any
  have hr0 := row_old (o' := .cells (stC s) 25) (row_new w (.cells (planC p) 23))
  have hs0 := st_row w p s
  have hD := Lib.hid (due_ok p s h)
  have hT : ∀ w, Calls Try.prog 10 #[planV p, stV s, .int .i64 now] w fun e w' => e = .returned (.tuple #[stV N, .int .i64 1, .int .i64 0]) ∧ Grow w w' := by
    rw [hNd]
    exact Time_send p s now h hn hm hd ht ht0 ht3
  have HT := Lib.hid hT
  have hD2 : ∀ w, Calls Try.prog 9 #[planV p, stV N] w fun e w' => e = .returned (.tuple #[.int .i64 (now + N.wait p), .int .i64 0]) ∧ Grow w w' := by
    have := due_ok p N hN
    have hns : N.since = now := by rw [hNd]
    rwa [hns] at this
  have HD2 := Lib.hid hD2
  have hC := Lib.hid (scheck_ok p N hN)
  have hR := Lib.hid hRr
  have HN := Lib.hid hNd
  have tok := Lib.hid hr0
  have HA := Lib.hid ht
  clear h hN hT hD2 hRr hNd hb hm hn ht0
  go_enter Try.func3, Try.ntmps3
  go_wp2_with (first
    | (go_at_call 8; refine (hA.out _).mono ?_; rintro e w1 ⟨rfl, hg1⟩; have hr1 := hg1.row hr0; have hs1 := hg1.row hs0)
    | (go_at_call 9; have tk := tok; clear tok; refine (hD.out _).mono ?_; rintro e w2 ⟨rfl, hg2⟩; have hr2 := hg2.row hr1; have hs2 := hg2.row hs1)
    | (go_at_call 10; refine (HT.out _).mono ?_; rintro e w3 ⟨rfl, hg3⟩; have hn3 := row_new w3 (.cells (stC N) 25); have hr3 := row_old (o' := .cells (stC N) 25) (hg3.row hr2); have hs3 := row_old (o' := .cells (stC N) 25) (hg3.row hs2))
    | (go_at_call 9; refine (HD2.out _).mono ?_; rintro e w4 ⟨rfl, hg4⟩; have hn4 := hg4.row hn3; have hr4 := hg4.row hr3; have hs4 := hg4.row hs3; have k5 : w4.cell? ⟨w.heap.size + 1, 5, none⟩ = some (.int .i64 s.tries) := cell_of_row w4 _ 5 _ _ _ hs4)
    | (go_at_call 11; refine (hC.out _).mono ?_; rintro e w5 ⟨rfl, hg5⟩; have hn5 := hg5.row hn4; have hr5 := hg5.row hr4; have hs5 := hg5.row hs4; have ks : w5.cell? ⟨w.heap.size + 1, 0, none⟩ = some (.int .i64 s.own) := cell_of_row w5 _ 0 _ _ _ hs5; have kn : w5.cell? ⟨w3.heap.size, 0, none⟩ = some (.int .i64 s.own) := (cell_of_row w5 _ 0 _ _ _ hn5).trans (by rw [HN.out]; rfl); have kt : w5.cell? ⟨w3.heap.size, 2, none⟩ = some (.int .i64 now) := (cell_of_row w5 _ 2 _ _ _ hn5).trans (by rw [HN.out]; rfl))
    | (go_at_call 12; refine (hR.out _).mono ?_; rintro e w6 ⟨rfl, hg6⟩)
    | (refine wpList_isstore 25 _ _ rfl ?_; refine wpList_store_new 25 _ _ rfl rfl _ (stC N) _ _ rfl rfl (by kernel_rfl) rfl (by kernel_rfl) ?_)
    | (refine wpList_isload 23 _ rfl ?_; refine wpList_load_rowg 23 _ rfl rfl _ rfl _ _ _ _ (by first | (with_reducible first | exact hr5 | exact hr4 | exact hr3 | exact hr2 | exact hr1 | exact hr0) | exact row_new _ _ | exact row_old (row_new _ _)) Try.underlying23 rfl (by kernel_rfl) ?_) | (refine wpList_isload 25 _ rfl ?_; refine wpList_load_rowg 25 _ rfl rfl _ rfl _ _ _ _ (by first | (with_reducible first | exact hn5 | exact hn4 | exact hn3 | exact hs5 | exact hs4 | exact hs3 | exact hs2 | exact hs1 | exact hs0) | exact row_new _ _ | exact row_old (row_new _ _)) Try.underlying25 rfl (by kernel_rfl) ?_))
  go_ret
  exact ⟨rfl, (((((((((Grow.refl _).alloc _).alloc _).trans hg1).trans hg2).trans hg3).alloc _).trans hg4).trans hg5).trans hg6⟩
theorem due_law (p : Plan) (_ : p.Wf) (s : St) (_ : I64 s.own ∧ I64 s.state ∧ I64 s.since ∧ I64 s.first ∧ I64 s.tries) (now : Int) (_ : (Lit.int .i64 now).wf = true) (w : World) :
    Calls Try.prog 3 #[planV p, stV s, .int .i64 now] w fun e w' => e = .returned (.bool true) ∧ Grow w w' := by
  by_cases h : s.Ok p
  · by_cases h1 : s.since ≤ now
    · by_cases h2 : now ≤ 4294967296
      · by_cases h3 : s.since + s.wait p ≤ now
        · cases h4 : (s.tries == 3)
          · exact due_law_send p s now h h1 h2 h3 h4 w
          · exact due_law_back p s now h h1 h2 h3 h4 w
        · exact due_law_wait p s now h h1 h2 (by omega) w
      · exact due_law_late p s now h h1 (by omega) w
    · exact due_law_early p s now h (by omega) w
  · exact due_law_bad p s now h w
end Go.Proofs.Ytelmgipnlflmaaa
