/-
  Package startup: Check in one word each way, listen, Listen, Due, Time. Conditions: those that stand ahead of each.
-/
import Derived.Test.YtelmgipnlflmaaaStartup
namespace Go.Proofs.Ytelmgipnlflmaaa
open Go.RowKit

theorem scheck_ok (p : Plan) (s : St) (h : s.Ok p) (w : World) :
    Calls Try.prog 11 #[planV p, stV s] w fun e w' => e = .returned (.int .i64 0) ∧ Grow w w' := by
  obtain ⟨⟨hok, h0, h1, h2, h3, h4⟩, hst⟩ := h
  cases hh : s.has
  · have h5 : (s.first == 0) = true := by
      rcases h4 with h4 | h4
      · rw [hh] at h4; cases h4
      · simpa using h4
    rcases hst with ⟨h6, h7⟩ | ⟨h6, h7, h8, h9⟩
    · exact scheck_yes2b p s hok h0 h1 h2 h3 hh h5 (by simpa using h6) (by simpa using h7) w
    · exact scheck_yes3b p s hok h0 h1 h2 h3 hh h5 (by simp; omega) (by simpa using h6) h7 h8 w
  · rcases hst with ⟨h6, h7⟩ | ⟨h6, h7, h8, h9⟩
    · exact scheck_yes2a p s hok h0 h1 h2 h3 hh (by simpa using h6) (by simpa using h7) w
    · rw [hh] at h9
      cases h9
theorem scheck_bad (p : Plan) (s : St) (h : ¬ s.Ok p) (w : World) :
    Calls Try.prog 11 #[planV p, stV s] w fun e w' => e = .returned (.int .i64 210) ∧ Grow w w' := by
  by_cases hok : p.Ok
  case neg => exact scheck_no p s hok w
  by_cases h0 : 0 ≤ s.own
  case neg => exact scheck_no0 p s hok h0 w
  by_cases h1 : s.own < p.nodes
  case neg => exact scheck_no1 p s hok h0 h1 w
  cases h2 : timeB s.since
  · exact scheck_no2 p s hok h0 h1 h2 w
  cases h3 : timeB s.first
  · exact scheck_no3 p s hok h0 h1 h2 h3 w
  cases h4 : s.has
  · cases h5 : (s.first == 0)
    · exact scheck_no4 p s hok h0 h1 h2 h3 h4 h5 w
    · have hf : s.Fine p := ⟨hok, h0, h1, h2, h3, .inr (by simpa using h5)⟩
      cases h6 : (s.state == 2)
      · cases h7 : (s.state == 3)
        · exact scheck_nxb p s hok h0 h1 h2 h3 h4 h5 h6 h7 w
        · by_cases h8 : 1 ≤ s.tries
          · by_cases h9 : s.tries ≤ 3
            · exact (h ⟨hf, .inr ⟨by simpa using h7, h8, h9, h4⟩⟩).elim
            · exact scheck_m3b p s hok h0 h1 h2 h3 h4 h5 h6 h7 h8 h9 w
          · exact scheck_n3b p s hok h0 h1 h2 h3 h4 h5 h6 h7 h8 w
      · cases h7 : (s.tries == 0)
        · exact scheck_n2b p s hok h0 h1 h2 h3 h4 h5 h6 h7 w
        · exact (h ⟨hf, .inl ⟨by simpa using h6, by simpa using h7⟩⟩).elim
  · have hf : s.Fine p := ⟨hok, h0, h1, h2, h3, .inl h4⟩
    cases h6 : (s.state == 2)
    · cases h7 : (s.state == 3)
      · exact scheck_nxa p s hok h0 h1 h2 h3 h4 h6 h7 w
      · by_cases h8 : 1 ≤ s.tries
        · by_cases h9 : s.tries ≤ 3
          · exact scheck_o3a p s hok h0 h1 h2 h3 h4 h6 h7 h8 h9 w
          · exact scheck_m3a p s hok h0 h1 h2 h3 h4 h6 h7 h8 h9 w
        · exact scheck_n3a p s hok h0 h1 h2 h3 h4 h6 h7 h8 w
    · cases h7 : (s.tries == 0)
      · exact scheck_n2a p s hok h0 h1 h2 h3 h4 h6 h7 w
      · exact (h ⟨hf, .inl ⟨by simpa using h6, by simpa using h7⟩⟩).elim

/-- One that listens. -/
def St.lis (s : St) (now : Int) : St := ⟨s.own, 2, now, 0, false, 0⟩
set_option maxHeartbeats 400000 in
theorem listen_no (s : St) (now : Int) (w : World) :
    Calls Try.prog 37 #[stV s, .int .i64 now, .bool false] w fun e w' => e = .returned (stV (s.lis now)) ∧ Grow w w' := by
  unfold stV stC St.lis
  go_enter Try.func37, Try.ntmps37
  go_wp2
  refine bodyPost_ret (v := .agg #[.int .i64 s.own, .int .i64 2, .int .i64 now, .int .i64 0, .bool false, .int .i64 0]) (by simp [results, Try.results37, go_sem]) rfl ⟨rfl, ?_⟩
  exact (((Grow.refl _).alloc _).alloc _).alloc _

def St.wait (s : St) (p : Plan) : Int := if s.state = 3 then s.own * p.slot + p.R else s.own * p.slot + 2 * p.R + p.R
theorem wait_bd {s : St} {p : Plan} (h : s.Fine p) : 4 ≤ s.wait p ∧ s.wait p ≤ 67108864 := by
  have h1 := node_bd h.ok s.own h.own0 h.own1
  have h2 := R_bd h.ok.known
  unfold St.wait
  split <;> omega
set_option maxHeartbeats 1000000 in
theorem due_bad (p : Plan) (s : St) (h : ¬ s.Ok p) (w : World) :
    Calls Try.prog 9 #[planV p, stV s] w fun e w' => e = .returned (.tuple #[.int .i64 0, .int .i64 210]) ∧ Grow w w' := by
  have hC := Lib.hid (scheck_bad p s h)
  have hs0 := st_row w p s
  clear h
  go_enter Try.func9, Try.ntmps9
  go_wp2_with (first
    | (go_at_call 11; refine (hC.out _).mono ?_; rintro e w1 ⟨rfl, hg⟩)
    | (refine wpList_isload 23 _ rfl ?_; refine wpList_load_rowg 23 _ rfl rfl _ rfl _ _ _ _ (by first | exact row_new _ _ | exact row_old (row_new _ _) | exact row_old (row_old (row_new _ _)) | exact row_old (row_old (row_old (row_new _ _))) | assumption) Try.underlying23 rfl (by kernel_rfl) ?_)
    | (refine wpList_isload 25 _ rfl ?_; refine wpList_load_rowg 25 _ rfl rfl _ rfl _ _ _ _ (by first | exact row_new _ _ | exact row_old (row_new _ _) | exact row_old (row_old (row_new _ _)) | exact row_old (row_old (row_old (row_new _ _))) | assumption) Try.underlying25 rfl (by kernel_rfl) ?_))
  go_ret2
  exact ⟨rfl, (((Grow.refl _).alloc _).alloc _).trans hg⟩
set_option maxHeartbeats 1000000 in
theorem due_cold (p : Plan) (s : St) (h : s.Ok p) (hs : s.state = 3) (w : World) :
    Calls Try.prog 9 #[planV p, stV s] w fun e w' => e = .returned (.tuple #[.int .i64 (s.since + s.wait p), .int .i64 0]) ∧ Grow w w' := by
  have hC := Lib.hid (scheck_ok p s h)
  have hW := Lib.hid (wait_any p s.own h.fine.ok h.fine.own0 h.fine.own1)
  have hb := node_bd h.fine.ok s.own h.fine.own0 h.fine.own1
  have hR := R_bd h.fine.ok.known
  have ht := timeB_iff.1 h.fine.since
  have hw : s.wait p = s.own * p.slot + p.R := by unfold St.wait; rw [if_pos hs]
  rw [hw]
  have hs3 : (s.state == 3) = true := by simpa using hs
  obtain ⟨b1, b2⟩ := hb
  obtain ⟨b3, b4⟩ := hR
  obtain ⟨b5, b6⟩ := ht
  have hr0 := row_old (o' := .cells (stC s) 25) (row_new w (.cells (planC p) 23))
  have hs0 := st_row w p s
  clear h hs hw
  go_enter Try.func9, Try.ntmps9
  go_wp2_with (first
    | (go_at_call 11; refine (hC.out _).mono ?_; rintro e w1 ⟨rfl, hg⟩; have hr1 := hg.row hr0; have hs1 := hg.row hs0; have k0 : w1.cell? ⟨w.heap.size + 1, 0, none⟩ = some (.int .i64 s.own) := cell_of_row w1 _ 0 _ _ _ hs1; have k1 : w1.cell? ⟨w.heap.size + 1, 1, none⟩ = some (.int .i64 s.state) := cell_of_row w1 _ 1 _ _ _ hs1)
    | (go_at_call 36; refine (hW.out _).mono ?_; rintro e w2 ⟨rfl, hg2⟩; have k2 : w2.cell? ⟨w.heap.size + 1, 2, none⟩ = some (.int .i64 s.since) := cell_of_row w2 _ 2 _ _ _ (hg2.row hs1))
    | (refine wpList_isload 23 _ rfl ?_; refine wpList_load_rowg 23 _ rfl rfl _ rfl _ _ _ _ (by first | exact row_new _ _ | exact row_old (row_new _ _) | exact row_old (row_old (row_new _ _)) | exact row_old (row_old (row_old (row_new _ _))) | assumption) Try.underlying23 rfl (by kernel_rfl) ?_)
    | (refine wpList_isload 25 _ rfl ?_; refine wpList_load_rowg 25 _ rfl rfl _ rfl _ _ _ _ (by first | exact row_new _ _ | exact row_old (row_new _ _) | exact row_old (row_old (row_new _ _)) | exact row_old (row_old (row_old (row_new _ _))) | assumption) Try.underlying25 rfl (by kernel_rfl) ?_))
  go_ret2
  exact ⟨rfl, ((((Grow.refl _).alloc _).alloc _).trans hg).trans hg2⟩
set_option maxHeartbeats 1000000 in
theorem due_listen (p : Plan) (s : St) (h : s.Ok p) (hs : s.state = 2) (w : World) :
    Calls Try.prog 9 #[planV p, stV s] w fun e w' => e = .returned (.tuple #[.int .i64 (s.since + s.wait p), .int .i64 0]) ∧ Grow w w' := by
  have hC := Lib.hid (scheck_ok p s h)
  have hW := Lib.hid (listen_any p s.own h.fine.ok h.fine.own0 h.fine.own1)
  have hb := node_bd h.fine.ok s.own h.fine.own0 h.fine.own1
  have hR := R_bd h.fine.ok.known
  have ht := timeB_iff.1 h.fine.since
  have hw : s.wait p = s.own * p.slot + 2 * p.R + p.R := by unfold St.wait; rw [if_neg (by omega)]
  rw [hw]
  have hs3 : (s.state == 3) = false := by simp; omega
  obtain ⟨b1, b2⟩ := hb
  obtain ⟨b3, b4⟩ := hR
  obtain ⟨b5, b6⟩ := ht
  have hr0 := row_old (o' := .cells (stC s) 25) (row_new w (.cells (planC p) 23))
  have hs0 := st_row w p s
  clear h hs hw
  go_enter Try.func9, Try.ntmps9
  go_wp2_with (first
    | (go_at_call 11; refine (hC.out _).mono ?_; rintro e w1 ⟨rfl, hg⟩; have hr1 := hg.row hr0; have hs1 := hg.row hs0; have k0 : w1.cell? ⟨w.heap.size + 1, 0, none⟩ = some (.int .i64 s.own) := cell_of_row w1 _ 0 _ _ _ hs1; have k1 : w1.cell? ⟨w.heap.size + 1, 1, none⟩ = some (.int .i64 s.state) := cell_of_row w1 _ 1 _ _ _ hs1)
    | (go_at_call 35; refine (hW.out _).mono ?_; rintro e w2 ⟨rfl, hg2⟩; have k2 : w2.cell? ⟨w.heap.size + 1, 2, none⟩ = some (.int .i64 s.since) := cell_of_row w2 _ 2 _ _ _ (hg2.row hs1))
    | (refine wpList_isload 23 _ rfl ?_; refine wpList_load_rowg 23 _ rfl rfl _ rfl _ _ _ _ (by first | exact row_new _ _ | exact row_old (row_new _ _) | exact row_old (row_old (row_new _ _)) | exact row_old (row_old (row_old (row_new _ _))) | assumption) Try.underlying23 rfl (by kernel_rfl) ?_)
    | (refine wpList_isload 25 _ rfl ?_; refine wpList_load_rowg 25 _ rfl rfl _ rfl _ _ _ _ (by first | exact row_new _ _ | exact row_old (row_new _ _) | exact row_old (row_old (row_new _ _)) | exact row_old (row_old (row_old (row_new _ _))) | assumption) Try.underlying25 rfl (by kernel_rfl) ?_))
  go_ret2
  exact ⟨rfl, ((((Grow.refl _).alloc _).alloc _).trans hg).trans hg2⟩
theorem due_ok (p : Plan) (s : St) (h : s.Ok p) (w : World) :
    Calls Try.prog 9 #[planV p, stV s] w fun e w' => e = .returned (.tuple #[.int .i64 (s.since + s.wait p), .int .i64 0]) ∧ Grow w w' := by
  rcases h.st with ⟨hs, _⟩ | ⟨hs, _⟩
  · exact due_listen p s h hs w
  · exact due_cold p s h hs w
end Go.Proofs.Ytelmgipnlflmaaa
