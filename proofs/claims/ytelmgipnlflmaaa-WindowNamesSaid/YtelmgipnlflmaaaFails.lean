/-
  plan.Fails, plan.Check, plan.Round: for every plan of numbers.
-/
import Derived.Test.YtelmgipnlflmaaaPlan2
import Derived.Test.YtelmgipnlflmaaaRange
namespace Go.Proofs.Ytelmgipnlflmaaa
open Go.RowKit Go.Shelf
attribute [local go_sem] Oper.semAt_some

def Plan.condB (p : Plan) : Nat → Bool
  | 1 => decide p.c1
  | 2 => decide p.c2
  | 3 => decide p.c3
  | 4 => decide p.c4
  | 5 => decide p.c5
  | 6 => decide p.c6
  | 7 => decide p.c7
  | 8 => decide p.c8
  | 9 => decide p.c9
  | 10 => decide p.c10
  | 11 => decide p.c11
  | _ => true
def condF : Nat → FuncId
  | 1 => 72
  | 2 => 73
  | 3 => 74
  | 4 => 94
  | 5 => 95
  | 6 => 96
  | 7 => 97
  | 8 => 98
  | 9 => 80
  | 10 => 99
  | _ => 100
theorem known_of {p : Plan} {k : Nat} (hk : 4 ≤ k) (h : ∀ j, 1 ≤ j → j < k → p.condB j = true) : p.Known :=
  ⟨of_decide_eq_true (h 1 (by omega) (by omega)), of_decide_eq_true (h 2 (by omega) (by omega)), of_decide_eq_true (h 3 (by omega) (by omega))⟩
theorem holds_any (p : Plan) (k : Nat) (h1 : 1 ≤ k) (h2 : k ≤ 11) (h : ∀ j, 1 ≤ j → j < k → p.condB j = true) (w : World) :
    Calls Try.prog (condF k) #[planV p] w fun e w' => e = .returned (.bool (p.condB k)) ∧ Grow w w' := by
  have hk : k = 1 ∨ k = 2 ∨ k = 3 ∨ k = 4 ∨ k = 5 ∨ k = 6 ∨ k = 7 ∨ k = 8 ∨ k = 9 ∨ k = 10 ∨ k = 11 := by omega
  rcases hk with rfl | rfl | rfl | rfl | rfl | rfl | rfl | rfl | rfl | rfl | rfl
  · exact nodes_any p w
  · exact air_any p w
  · exact slot_any p w
  · exact pi_any p (known_of (by omega) h) w
  · exact window_any p (known_of (by omega) h) (of_decide_eq_true (h 4 (by omega) (by omega))) w
  · exact limit_any p (known_of (by omega) h) w
  · exact sends_any p (known_of (by omega) h) (of_decide_eq_true (h 4 (by omega) (by omega))) (of_decide_eq_true (h 5 (by omega) (by omega))) (of_decide_eq_true (h 6 (by omega) (by omega))) w
  · exact fits_any p (known_of (by omega) h) (of_decide_eq_true (h 4 (by omega) (by omega))) (of_decide_eq_true (h 5 (by omega) (by omega))) (of_decide_eq_true (h 6 (by omega) (by omega))) (of_decide_eq_true (h 7 (by omega) (by omega))) w
  · exact queue_any p w
  · exact delta_any p (known_of (by omega) h) (of_decide_eq_true (h 4 (by omega) (by omega))) (of_decide_eq_true (h 9 (by omega) (by omega))) w
  · exact horizon_any p (known_of (by omega) h) w

set_option maxHeartbeats 400000 in
theorem conditions_any (p : Plan) (w : World) :
    Calls Try.prog 70 #[planV p] w fun e w' => e = .returned (.func (.func 93) #[] #[.pointer (some ⟨w.heap.size, 0, none⟩)]) ∧ w' = w.alloc (Obj.cells (planC p) 82) := by
  unfold planV planC
  go_enter Try.func70, Try.ntmps70
  go_wp2
  go_ret
  exact ⟨rfl, rfl⟩

/-- What a round that goes on keeps. -/
def RowsKept (W W' : World) : Prop := ∀ (g : Nat) (c : Array Value) (t : TypeId) (fr : Nat × Nat), W.heap[g]? = some (Obj.cells c t fr) → W'.heap[g]? = some (Obj.cells c t fr)

def condRow (C : Array Value) : Array Value := #[.nilFunc, .func (.func 72) #[.agg C] #[], .func (.func 73) #[.agg C] #[], .func (.func 74) #[.agg C] #[], .func (.func 94) #[.agg C] #[],
  .func (.func 95) #[.agg C] #[], .func (.func 96) #[.agg C] #[], .func (.func 97) #[.agg C] #[], .func (.func 98) #[.agg C] #[],
  .func (.func 80) #[.agg C] #[], .func (.func 99) #[.agg C] #[], .func (.func 100) #[.agg C] #[]]
theorem condRow_at (C : Array Value) (k : Nat) (h1 : 1 ≤ k) (h2 : k ≤ 11) : (condRow C)[k]? = some (.func (.func (condF k)) #[.agg C] #[]) := by
  have hk : k = 1 ∨ k = 2 ∨ k = 3 ∨ k = 4 ∨ k = 5 ∨ k = 6 ∨ k = 7 ∨ k = 8 ∨ k = 9 ∨ k = 10 ∨ k = 11 := by omega
  rcases hk with rfl | rfl | rfl | rfl | rfl | rfl | rfl | rfl | rfl | rfl | rfl <;> rfl

set_option maxRecDepth 100000 in
set_option maxHeartbeats 2000000 in
theorem conds_iter (C : Array Value) (hC : C.size = 16) (L Bl : Nat) (J : Nat → World → Prop) (Jx : World → Prop) (w : World) (hrow : w.heap[Bl]? = some (.cells C 82))
    (hY : ∀ (k : Nat) W, 1 ≤ k → k ≤ 11 → J k W → YieldAt Fence.wide 3 Try.prog L #[.int .i64 k, .func (.func (condF k)) #[.agg C] #[]] W fun e W' =>
      (e = .returned (.bool true) ∧ J (k + 1) W' ∧ RowsKept W W') ∨ (e = .returned (.bool false) ∧ Jx W')) (h0 : ∀ o, J 1 (w.alloc o)) :
    CallsIn Fence.wide 4 Try.prog 93 #[.func (.yield L) #[] #[], .pointer (some ⟨Bl, 0, none⟩)] w fun e W => (∃ v, e = .returned v) ∧ (J 12 W ∨ Jx W) := by
  refine callsIn_of_wp Try.func93 rfl trivial ?_ rfl
  simp only [Try.ntmps93, List.size_toArray, List.length_cons, List.length_nil, Nat.reduceAdd, Nat.reduceSub, Array.replicate_succ, Array.replicate_zero, List.push_toArray, List.append_toArray, List.nil_append, List.cons_append]
  refine wpIn_wide.2 ?_
  go_wp2_with (refine wpList_load_row rfl 82 _ rfl _ rfl _ _ _ _ hrow Try.underlying82 rfl (by rw [hC]; kernel_rfl) ?_)
  refine (wpIn_wide (n := 4)).1 ?_
  have hnew := row_new w (.cells (condRow C) 26)
  gi_loopw [4] (fun n wr => ∃ k : Nat, 1 ≤ k ∧ k ≤ 12 ∧ n = .int .i64 k ∧ J k wr ∧ wr.heap[w.heap.size]? = some (.cells (condRow C) 26)) (fun n _ => 12 - (intOf n).toNat)
  case atStart => exact ⟨1, by omega, by omega, rfl, h0 _, hnew⟩
  case round =>
    obtain ⟨k, hk1, hk2, rfl, hJ, hr⟩ := hrel
    by_cases hlt : k ≤ 11
    · have hcell : wr.cell? ⟨w.heap.size, k, none⟩ = some (.func (.func (condF k)) #[.agg C] #[]) := by
        rw [cell_of_row wr _ _ _ _ _ hr]
        exact condRow_at C k hk1 hlt
      obtain ⟨fn, tmps, assign, body, hy, hR⟩ := hY k wr hk1 hlt hJ
      have hlt' : k < 12 := by omega
      gi_wp2
      refine hR.mono ?_
      rintro e W2 (⟨rfl, hJ2, hk⟩ | ⟨rfl, hx⟩)
      · gi_wp2
        go_roundw
        case rel => exact ⟨k + 1, by omega, by omega, by go_num, hJ2, hk _ _ _ _ hr⟩
        case measure => simp [intOf]; omega
      · gi_wp2
        refine bodyPost_ret (results_none rfl _ _ _) rfl ?_
        exact ⟨⟨_, rfl⟩, .inr hx⟩
    · obtain rfl : k = 12 := by omega
      gi_wp2
      go_end0
      exact ⟨⟨_, rfl⟩, .inl hJ⟩

theorem cond_enters (k : Nat) (h1 : 1 ≤ k) (h2 : k ≤ 11) : ∀ args w, (callFunc (condF k) args).run Try.prog w = .ok (.enter (condF k) args) w := by
  have hk : k = 1 ∨ k = 2 ∨ k = 3 ∨ k = 4 ∨ k = 5 ∨ k = 6 ∨ k = 7 ∨ k = 8 ∨ k = 9 ∨ k = 10 ∨ k = 11 := by omega
  rcases hk with rfl | rfl | rfl | rfl | rfl | rfl | rfl | rfl | rfl | rfl | rfl
  · exact enters_of Try.func72 (by kernel_rfl) rfl
  · exact enters_of Try.func73 (by kernel_rfl) rfl
  · exact enters_of Try.func74 (by kernel_rfl) rfl
  · exact enters_of Try.func94 (by kernel_rfl) rfl
  · exact enters_of Try.func95 (by kernel_rfl) rfl
  · exact enters_of Try.func96 (by kernel_rfl) rfl
  · exact enters_of Try.func97 (by kernel_rfl) rfl
  · exact enters_of Try.func98 (by kernel_rfl) rfl
  · exact enters_of Try.func80 (by kernel_rfl) rfl
  · exact enters_of Try.func99 (by kernel_rfl) rfl
  · exact enters_of Try.func100 (by kernel_rfl) rfl

def Plan.failsN (p : Plan) : Nat :=
  if p.condB 1 = false then 1 else if p.condB 2 = false then 2 else if p.condB 3 = false then 3 else if p.condB 4 = false then 4 else if p.condB 5 = false then 5 else if p.condB 6 = false then 6
  else if p.condB 7 = false then 7 else if p.condB 8 = false then 8 else if p.condB 9 = false then 9 else if p.condB 10 = false then 10 else if p.condB 11 = false then 11 else 0
theorem failsN_at {p : Plan} {k : Nat} (h1 : 1 ≤ k) (h2 : k ≤ 11) (h : ∀ j, 1 ≤ j → j < k → p.condB j = true) (hk : p.condB k = false) : p.failsN = k := by
  have hk' : k = 1 ∨ k = 2 ∨ k = 3 ∨ k = 4 ∨ k = 5 ∨ k = 6 ∨ k = 7 ∨ k = 8 ∨ k = 9 ∨ k = 10 ∨ k = 11 := by omega
  have hh : ∀ j, 1 ≤ j → j < k → ¬ p.condB j = false := fun j a b e => by rw [h j a b] at e; cases e
  unfold Plan.failsN
  rcases hk' with rfl | rfl | rfl | rfl | rfl | rfl | rfl | rfl | rfl | rfl | rfl <;> simp [hk, h]
theorem failsN_none {p : Plan} (h : ∀ j, 1 ≤ j → j < 12 → p.condB j = true) : p.failsN = 0 := by
  unfold Plan.failsN
  simp [h]

set_option maxRecDepth 100000 in
set_option maxHeartbeats 600000 in
theorem fails_any (p : Plan) (w : World) :
    Calls Try.prog 43 #[planV p] w fun e w' => e = .returned (.int .i64 p.failsN) ∧ Grow w w' := by
  refine (callsIn_wide (n := 5)).1 ?_
  refine callsIn_of_wp_marks Try.func43 rfl trivial ?_ rfl
  simp only [Try.ntmps43, List.size_toArray, List.length_cons, List.length_nil, Nat.reduceAdd, Nat.reduceSub, Array.replicate_succ, Array.replicate_zero, List.push_toArray, List.append_toArray, List.nil_append, List.cons_append]
  refine wpIn_wide.2 ?_
  unfold planV planC
  go_wp2
  go_step3
  go_wp2
  go_step3
  go_wp2_with (first | (go_at_call 70; refine (conditions_any p _).mono ?_; rintro e w' ⟨rfl, hw⟩; unfold planC at hw; subst hw) | (refine wpList_isload 23 _ rfl ?_; refine wpList_load_rowg 23 _ rfl rfl _ rfl _ _ _ _ (by first | exact row_new _ _ | exact row_old (row_new _ _) | exact row_old (row_old (row_new _ _)) | exact row_old (row_old (row_old (row_new _ _))) | assumption) Try.underlying23 rfl (by kernel_rfl) ?_))
  generalize hC : (#[.int .i64 p.nodes, .int .i64 p.k, .int .i64 p.slot, .int .i64 p.sendOff, .int .i64 p.window, .int .i64 p.air, .int .i64 p.dmin, .int .i64 p.dmax, .int .i64 p.rho, .int .i64 p.pi, .int .i64 p.cap, .int .i64 p.delta, .int .i64 p.queue, .int .i64 p.burst, .int .i64 p.payload, .int .i64 p.horizon] : Array Value) = C
  have hC16 : C.size = 16 := by rw [← hC]; rfl
  have hholds : ∀ (k : Nat), 1 ≤ k → k ≤ 11 → (∀ j, 1 ≤ j → j < k → p.condB j = true) → ∀ w, Calls Try.prog (condF k) #[.agg C] w fun e w' => e = .returned (.bool (p.condB k)) ∧ Grow w w' := by
    rw [← hC]
    exact fun k h1 h2 h w => holds_any p k h1 h2 h w
  clear hC
  have hg3 : Grow w (((w.alloc (.cells C 23)).alloc (.cells #[.int .i64 0] 3)).alloc (.cells C 82)) := (((Grow.refl w).alloc _).alloc _).alloc _
  have hrow3 : (((w.alloc (.cells C 23)).alloc (.cells #[.int .i64 0] 3)).alloc (.cells C 82)).heap[w.heap.size + 2]? = some (.cells C 82) := by
    have := row_new ((w.alloc (.cells C 23)).alloc (.cells #[.int .i64 0] 3)) (.cells C 82)
    simpa using this
  have hfc3 : (((w.alloc (.cells C 23)).alloc (.cells #[.int .i64 0] 3)).alloc (.cells C 82)).heap[w.heap.size + 1]? = some (.cells #[.int .i64 0] 3) := by
    have := row_new (w.alloc (.cells C 23)) (.cells #[.int .i64 0] 3)
    simpa using row_old (o' := .cells C 82) this
  have hsz3 : w.heap.size + 3 ≤ (((w.alloc (.cells C 23)).alloc (.cells #[.int .i64 0] 3)).alloc (.cells C 82)).heap.size := by simp
  generalize ((w.alloc (.cells C 23)).alloc (.cells #[.int .i64 0] 3)).alloc (.cells C 82) = w3 at *
  refine (wpIn_wide (n := 5)).1 ?_
  refine wpIn_range rfl (by omega) (gf := 93) (lb := #[.pointer (some ⟨w.heap.size + 2, 0, none⟩)]) rfl trivial (enters_of Try.func93 (by kernel_rfl) rfl) ?_
  intro r hrF hr1 hr2 hr3 hr4 hrD
  have hL1 : InLoop r (w3.heap.size + 1) .ready none ((w3.alloc (.deferred (some []))).alloc (.loop (r.at .ready none))) := by
    refine ⟨by simpa using row_new (w3.alloc (.deferred (some []))) (.loop (r.at .ready none)), ?_⟩
    rw [hrD]
    exact row_old (row_new _ _)
  have hg31 : Grow w3 ((w3.alloc (.deferred (some []))).alloc (.loop (r.at .ready none))) := ((Grow.refl _).alloc _).alloc _
  generalize (w3.alloc (.deferred (some []))).alloc (.loop (r.at .ready none)) = W1 at *
  generalize hLd : w3.heap.size + 1 = L at *
  have hLw : w.heap.size + 4 ≤ L := by omega
  have hDw : w.heap.size + 3 ≤ w3.heap.size := hsz3
  clear hLd hsz3
  refine (conds_iter C hC16 (L) (w.heap.size + 2)
    (fun k W => InLoop r (L) .ready none W ∧ W.heap[w.heap.size + 1]? = some (.cells #[.int .i64 0] 3) ∧ Grow w W ∧ ∀ j, 1 ≤ j → j < k → p.condB j = true)
    (fun W => ∃ k, 1 ≤ k ∧ k ≤ 11 ∧ (∀ j, 1 ≤ j → j < k → p.condB j = true) ∧ p.condB k = false ∧ InLoop r (L) .done (some (.exit 0)) W ∧ W.heap[w.heap.size + 1]? = some (.cells #[.int .i64 k] 3) ∧ Grow w W)
    W1 (hg31.row hrow3) ?hY ?h0).mono ?fin
  case h0 => exact fun o => ⟨hL1.grow (Grow.to_alloc _ _), row_old (hg31.row hfc3), (hg3.trans hg31).alloc _, fun j a b => by omega⟩
  case fin =>
    rintro e W ⟨hv, h⟩
    refine ⟨hv, ?_⟩
    rcases h with ⟨hL, hfc, hg, hall⟩ | ⟨k, hk1, hk2, hall, hck, hL, hfc, hg⟩
    · left
      refine ⟨hL, ?_⟩
      intro W' hW' hD
      have hfc' : W'.heap[w.heap.size + 1]? = some (.cells #[.int .i64 0] 3) := by rw [hW']; exact row_turn hL.1 hfc
      have hg' : Grow w W' := by rw [hW']; exact hg.turn (by omega) _
      clear hW' hv
      have hn := failsN_none hall
      have hc' : W'.cell? ⟨w.heap.size + 1, 0, none⟩ = some (.int .i64 0) := cell_of_row W' _ _ _ _ _ hfc'
      go_wp2
      exact leaves_mark hD (results_tmp rfl _ _ _) ⟨ret_int (by rw [hn]; rfl), hg'.turn (by omega) _⟩ rfl
    · right
      refine ⟨.exit 0, hL, ?_⟩
      intro W' hW' hD
      have hfc' : W'.heap[w.heap.size + 1]? = some (.cells #[.int .i64 k] 3) := by rw [hW']; exact row_turn hL.1 hfc
      have hg' : Grow w W' := by rw [hW']; exact hg.turn (by omega) _
      clear hW' hv
      have hn := failsN_at hk1 hk2 hall hck
      have hc' : W'.cell? ⟨w.heap.size + 1, 0, none⟩ = some (.int .i64 k) := cell_of_row W' _ _ _ _ _ hfc'
      refine wpIn_wide.2 ?_
      go_wp2
      exact leaves_mark hD (results_tmp rfl _ _ _) ⟨ret_int (by rw [hn]), hg'.turn (by omega) _⟩ rfl
  case hY =>
    rintro k W hk1 hk2 ⟨hL, hfc, hg, hall⟩
    refine yield_round hrF hL (by rw [hr2]; rfl) ?_
    rw [hr1, hr2, hr3, hr4]
    clear hr1 hr2 hr3 hr4
    have hen := cond_enters k hk1 hk2
    gi_wp2
    refine ⟨hL, ?_⟩
    have hLb := hL.turn (st' := .busy) (pe' := none)
    have hfb := row_turn (o := .loop (r.at .busy none)) hL.1 hfc
    have hgb := hg.turn (L := L) (by omega) (.loop (r.at .busy none))
    have hkb : RowsKept W (W.putObj (L) (.loop (r.at .busy none))) := fun g c t fr h => row_turn hL.1 h
    generalize W.putObj (L) (.loop (r.at .busy none)) = Wb at *
    have hcb : Wb.cell? ⟨w.heap.size + 1, 0, none⟩ = some (.int .i64 0) := cell_of_row Wb _ _ _ _ _ hfb
    have hzb : w.heap.size + 1 < Wb.heap.size := (Array.getElem?_eq_some_iff.1 hfb).1
    have hfz : Wb.frozen? ⟨w.heap.size + 1, 0, none⟩ = false := by simp [World.frozen?, hfb]
    cases hck : p.condB k
    · gi_wp2
      refine ⟨trivial, ?_⟩
      refine (CallsIn.inRound L (callsIn_wide.2 (hholds k hk1 hk2 hall _))).mono ?_
      rintro e W2 ⟨rfl, hg2⟩
      have hc2 : W2.cell? ⟨w.heap.size + 1, 0, none⟩ = some (.int .i64 0) := (hg2.cells.1 _ _ hzb).trans hcb
      have hz2 : W2.frozen? ⟨w.heap.size + 1, 0, none⟩ = false := (hg2.cells.2 _ _ hzb).trans hfz
      have hl2 := (hLb.grow hg2).setCell (u := .int .i64 k) hc2
      gi_wp2
      refine ⟨hl2, .inr ⟨rfl, k, hk1, hk2, hall, hck, hl2.turn, row_turn hl2.1 (setCell_row1 (hg2.row hfb) _), ?_⟩⟩
      exact ((hgb.trans hg2).setCell (p := ⟨w.heap.size + 1, 0, none⟩) (by simp) _).turn (by omega) _
    · gi_wp2
      refine ⟨trivial, ?_⟩
      refine (CallsIn.inRound L (callsIn_wide.2 (hholds k hk1 hk2 hall _))).mono ?_
      rintro e W2 ⟨rfl, hg2⟩
      have hl2 := hLb.grow hg2
      gi_wp2
      refine ⟨hl2, .inl ⟨rfl, ⟨hl2.turn, row_turn hl2.1 (hg2.row hfb), (hgb.trans hg2).turn (by omega) _, fun j a b => ?_⟩, fun g c t fr h => row_turn hl2.1 (hg2.row (hkb g c t fr h))⟩⟩
      by_cases e : j = k
      · exact e ▸ hck
      · exact hall j a (by omega)

/-- A plan that may be. -/
structure Plan.Ok (p : Plan) : Prop where
  (c1 : p.c1) (c2 : p.c2) (c3 : p.c3) (c4 : p.c4) (c5 : p.c5) (c6 : p.c6) (c7 : p.c7) (c8 : p.c8) (c9 : p.c9) (c10 : p.c10) (c11 : p.c11)
theorem Plan.Ok.known {p : Plan} (h : p.Ok) : p.Known := ⟨h.c1, h.c2, h.c3⟩
theorem ok_iff (p : Plan) : p.failsN = 0 ↔ p.Ok := by
  constructor
  · intro h
    have hh : ∀ k, 1 ≤ k → k ≤ 11 → p.condB k = true := by
      intro k
      induction k using Nat.strongRecOn with
      | _ k ih =>
        intro h1 h2
        cases hk : p.condB k
        · have := failsN_at h1 h2 (fun j a b => ih j b a (by omega)) hk
          omega
        · rfl
    exact ⟨of_decide_eq_true (hh 1 (by omega) (by omega)), of_decide_eq_true (hh 2 (by omega) (by omega)), of_decide_eq_true (hh 3 (by omega) (by omega)), of_decide_eq_true (hh 4 (by omega) (by omega)),
      of_decide_eq_true (hh 5 (by omega) (by omega)), of_decide_eq_true (hh 6 (by omega) (by omega)), of_decide_eq_true (hh 7 (by omega) (by omega)), of_decide_eq_true (hh 8 (by omega) (by omega)),
      of_decide_eq_true (hh 9 (by omega) (by omega)), of_decide_eq_true (hh 10 (by omega) (by omega)), of_decide_eq_true (hh 11 (by omega) (by omega))⟩
  · intro h
    apply failsN_none
    intro j h1 h2
    have hk' : j = 1 ∨ j = 2 ∨ j = 3 ∨ j = 4 ∨ j = 5 ∨ j = 6 ∨ j = 7 ∨ j = 8 ∨ j = 9 ∨ j = 10 ∨ j = 11 := by omega
    rcases hk' with rfl | rfl | rfl | rfl | rfl | rfl | rfl | rfl | rfl | rfl | rfl
    · exact decide_eq_true h.c1
    · exact decide_eq_true h.c2
    · exact decide_eq_true h.c3
    · exact decide_eq_true h.c4
    · exact decide_eq_true h.c5
    · exact decide_eq_true h.c6
    · exact decide_eq_true h.c7
    · exact decide_eq_true h.c8
    · exact decide_eq_true h.c9
    · exact decide_eq_true h.c10
    · exact decide_eq_true h.c11
instance (p : Plan) : Decidable p.Ok := decidable_of_iff _ (ok_iff p)

set_option maxHeartbeats 400000 in
theorem check_ok (p : Plan) (h : p.Ok) (w : World) :
    Calls Try.prog 14 #[planV p] w fun e w' => e = .returned (.int .i64 0) ∧ Grow w w' := by
  have hf := (ok_iff p).2 h
  have hF := fails_any p
  rw [hf] at hF
  clear h hf
  go_enter Try.func14, Try.ntmps14
  go_wp2_with (first | (go_at_call 43; refine (hF _).mono ?_; rintro e w1 ⟨rfl, hg⟩) | (refine wpList_isload 23 _ rfl ?_; refine wpList_load_rowg 23 _ rfl rfl _ rfl _ _ _ _ (by first | exact row_new _ _ | exact row_old (row_new _ _) | exact row_old (row_old (row_new _ _)) | exact row_old (row_old (row_old (row_new _ _))) | assumption) Try.underlying23 rfl (by kernel_rfl) ?_))
  go_ret
  exact ⟨rfl, ((Grow.refl _).alloc _).trans hg⟩
set_option maxHeartbeats 400000 in
theorem check_no (p : Plan) (h : ¬ p.Ok) (w : World) :
    Calls Try.prog 14 #[planV p] w fun e w' => e = .returned (.int .i64 70) ∧ Grow w w' := by
  have hf : 0 < p.failsN := Nat.pos_of_ne_zero (fun e => h ((ok_iff p).1 e))
  have hF := fails_any p
  generalize p.failsN = n at *
  have hn : ((n : Int) != 0) = true := by rw [bne_iff_ne]; omega
  clear h
  go_enter Try.func14, Try.ntmps14
  go_wp2_with (first | (go_at_call 43; refine (hF _).mono ?_; rintro e w1 ⟨rfl, hg⟩) | (refine wpList_isload 23 _ rfl ?_; refine wpList_load_rowg 23 _ rfl rfl _ rfl _ _ _ _ (by first | exact row_new _ _ | exact row_old (row_new _ _) | exact row_old (row_old (row_new _ _)) | exact row_old (row_old (row_old (row_new _ _))) | assumption) Try.underlying23 rfl (by kernel_rfl) ?_))
  go_ret
  exact ⟨rfl, ((Grow.refl _).alloc _).trans hg⟩
end Go.Proofs.Ytelmgipnlflmaaa
