/-
  window.Keep. Conditions: whether the plan has the place.
-/
import Derived.Test.YtelmgipnlflmaaaJudged
import Derived.RangeFuncBox
namespace Go.Proofs.Ytelmgipnlflmaaa
open Go.RowKit Go.Shelf
attribute [local go_sem] Oper.semAt_some

/-- Two results that lie in cells of one word each. -/
theorem results_cells2 {P : Program} {fn : Func} {p q : Tmp} {t1 t2 : TypeId} (h : fn.results = #[.cell p t1, .cell q t2]) (tmps : Array Value) (w : World) (a b : Addr) (u v : Value)
    (hp : tmps.getD p undef = .pointer (some a)) (hq : tmps.getD q undef = .pointer (some b)) (h1 : (loadVar t1 a).run P w = .ok u w) (h2 : (loadVar t2 b).run P w = .ok v w) :
    (results fn tmps).run P w = .ok (.tuple #[u, v]) w := by
  have hp' : tmps[p]?.getD undef = .pointer (some a) := by simpa using hp
  have hq' : tmps[q]?.getD undef = .pointer (some b) := by simpa using hq
  simp [results, h, hp', hq', asAddr, Sem.run_bind, Result.andThen, h1, h2]
theorem load_box {P : Program} {W : World} {B : Nat} {t : TypeId} {v : Value} (ha : ∀ w, (isAgg t).run P w = .ok false w) (h : Boxed W B t v) : (loadVar t ⟨B, 0, none⟩).run P W = .ok v W := by
  have hc := h.cell
  simp [loadVar, Sem.run_bind, ha, Result.andThen, hc]
theorem row_set_other {W : World} {g b : Nat} (hn : g ≠ b) {o : Obj} (h : W.heap[g]? = some o) (u : Value) : (W.setCell ⟨b, 0, none⟩ u).heap[g]? = some o := (Below.heap_setCell W ⟨b, 0, none⟩ u g hn).trans h
theorem keep_boxes {w w1 : World} {o1 o2 : Obj} {u v : Value} {t t2 : TypeId} (hg : Grow ((((w.alloc o1).alloc o2).alloc (.cells #[u] t)).alloc (.cells #[v] t2)) w1) :
    Boxed w1 (w.heap.size + 1 + 1) t u ∧ Boxed w1 (w.heap.size + 1 + 1 + 1) t2 v ∧ Grow w w1 ∧ w1.heap[w.heap.size]? = some o1 ∧ w1.heap[w.heap.size + 1]? = some o2 := by
  refine ⟨hg.row (row_old ?_), hg.row ?_, (((((Grow.refl _).alloc _).alloc _).alloc _).alloc _).trans hg, hg.row (row_old (row_old (row_old (row_new _ _)))), hg.row (row_old (row_old (row_new2 _ _ _)))⟩
  · have := row_new ((w.alloc o1).alloc o2) (.cells #[u] t)
    simpa using this
  · have := row_new (((w.alloc o1).alloc o2).alloc (.cells #[u] t)) (.cells #[v] t2)
    simpa using this
theorem spot_like (w : World) (a b c : Obj) : (((w.alloc a).alloc b).alloc c).heap[w.heap.size + 2]? = some c := by
  have := row_new ((w.alloc a).alloc b) c
  simpa using this
theorem judged_call (p : Plan) (r s : Int) (a : Option Addr) (len cap : Nat) (w : World) :
    Calls Try.prog 57 #[planV p, placeV r s, .slice a len cap] w fun e w' => e = .returned (.func (.func 84) #[] #[.pointer (some ⟨w.heap.size + 2, 0, none⟩), .pointer (some ⟨w.heap.size, 0, none⟩), .pointer (some ⟨w.heap.size + 1, 0, none⟩)]) ∧
      w' = ((w.alloc (.cells (planC p) 23)).alloc (.cells #[.int .i64 r, .int .i64 s] 52)).alloc (.cells #[.slice a len cap] 36) := by
  unfold planV planC placeV
  go_enter Try.func57, Try.ntmps57
  go_wp2
  go_ret
  exact ⟨by simp, rfl⟩
def keepL (p : Plan) (r s : Int) (z : Nat → Int) : Nat → List Int
  | 0 => []
  | k + 1 => if vdN p r s (z k) = 2 then keepL p r s z k ++ [dvN p r s (z k)] else keepL p r s z k
theorem vdN_four (p : Plan) (r s x : Int) : vdN p r s x = 0 ∨ vdN p r s x = 1 ∨ vdN p r s x = 2 ∨ vdN p r s x = 3 := by
  unfold vdN verd
  split
  · split
    · simp
    · split <;> simp
  · simp
set_option maxRecDepth 100000 in
set_option maxHeartbeats 600000 in
theorem Keep_no (p : Plan) (r s : Int) (h : ¬ p.has r s) (a : Option Addr) (len cap : Nat) (w : World) :
    Calls Try.prog 24 #[planV p, placeV r s, .slice a len cap] w fun e w' => e = .returned (.tuple #[.int .i64 160, .slice none 0 0]) ∧ Grow w w' := by
  have hB := Lib.hid (Begin_no p r s h)
  clear h
  refine (callsIn_wide (n := 5)).1 ?_
  refine callsIn_of_wp_marks Try.func24 rfl trivial ?_ rfl
  simp only [Try.ntmps24, List.size_toArray, List.length_cons, List.length_nil, Nat.reduceAdd, Nat.reduceSub, Array.replicate_succ, Array.replicate_zero, List.push_toArray, List.append_toArray, List.nil_append, List.cons_append]
  refine wpIn_wide.2 ?_
  go_wp2_with (fail)
  go_step3
  go_wp2_with (first
    | (go_at_call 56; refine (hB.out _).mono ?_; rintro e w1 ⟨rfl, hg⟩; obtain ⟨hc, hf⟩ := hg.cells)
    | (refine wpList_isload 23 _ rfl ?_; refine wpList_load_rowg 23 _ rfl rfl _ rfl _ _ _ _ (by first | exact row_new _ _ | exact row_old (row_new _ _) | exact row_old (row_old (row_new _ _)) | exact row_old (row_old (row_old (row_new _ _))) | assumption) Try.underlying23 rfl (by kernel_rfl) ?_) | (refine wpList_isload 52 _ rfl ?_; refine wpList_load_rowg 52 _ rfl rfl _ rfl _ _ _ _ (by first | exact row_new _ _ | exact row_old (row_new _ _) | exact row_old (row_old (row_new _ _)) | exact row_old (row_old (row_old (row_new _ _))) | assumption) Try.underlying52 rfl (by kernel_rfl) ?_))
  obtain ⟨h6, h7, hgw, -, -⟩ := keep_boxes hg
  have h6' := h6.set (.int .i64 160)
  have h6'' := row_set_other (g := w.heap.size + 1 + 1) (b := w.heap.size + 1 + 1 + 1) (by omega) h6' (.slice none 0 0)
  have h7' := Boxed.set (.slice none 0 0) (row_set_other (g := w.heap.size + 1 + 1 + 1) (b := w.heap.size + 1 + 1) (by omega) h7 (.int .i64 160))
  refine ⟨_, results_cells2 rfl _ _ ⟨w.heap.size + 1 + 1, 0, none⟩ ⟨w.heap.size + 1 + 1 + 1, 0, none⟩ _ _ rfl rfl (load_box Try.isAgg27 h6'') (load_box Try.isAgg36 h7'), rfl, ?_⟩
  exact Grow.setCell (Grow.setCell hgw (p := ⟨w.heap.size + 1 + 1, 0, none⟩) (by simp; omega) _) (p := ⟨w.heap.size + 1 + 1 + 1, 0, none⟩) (by simp; omega) _

theorem lt_of_cell {w : World} {a : Addr} {v : Value} (h : w.cell? a = some v) : a.block < w.heap.size := by
  unfold World.cell? at h
  cases hb : w.heap[a.block]? with
  | none => rw [hb] at h; cases h
  | some o => exact (Array.getElem?_eq_some_iff.1 hb).1
theorem Grow.by {w W : World} (h : Grow w W) : w.grownBy W none := ⟨Below.os h, Below.tape h, Below.output h, Below.size h, fun k hk _ => Below.block h k hk⟩
theorem ownsRow_grow {w W : World} {base : Nat} {e : TypeId} {size : Nat} {v : Value} {n : Nat} {xs : List Value} (h : w.ownsRow base e size v n xs) (hg : Grow w W) : W.ownsRow base e size v n xs :=
  h.kept hg.by (by cases hv : v.ownBlock <;> simp)
/-- What holds ahead of round k. -/
structure KeepJ (st : LoopState) (p : Plan) (r s : Int) (z : Nat → Int) (a : Option Addr) (len cap : Nat) (w : World) (rr : LRec) (L O B6 B7 Bp : Nat) (k : Nat) (W : World) : Prop where
  loop : InLoop rr L st none W
  own : ∃ v, Boxed W O 36 v ∧ W.ownsRow w.heap.size 2 1 v (keepL p r s z k).length ((keepL p r s z k).map (.int .i64))
  rp : W.heap[Bp]? = some (.cells (planC p) 23)
  rl : W.heap[Bp + 1]? = some (.cells #[.int .i64 r, .int .i64 s] 52)
  rx : W.heap[Bp + 2]? = some (.cells #[.slice a len cap] 36)
  r6 : Boxed W B6 27 (.int .i64 0)
  r7 : Boxed W B7 36 (.slice none 0 0)
  grow : Grow w W
  all : ∀ j, j < k → vdN p r s (z j) ≠ 0
structure KeepX (p : Plan) (r s : Int) (z : Nat → Int) (len : Nat) (w : World) (rr : LRec) (L B6 B7 : Nat) (W : World) : Prop where
  loop : InLoop rr L .done (some .ret) W
  r6 : Boxed W B6 27 (.int .i64 160)
  r7 : Boxed W B7 36 (.slice none 0 0)
  grow : Grow w W
  bad : ∃ j, j < len ∧ vdN p r s (z j) = 0
theorem KeepJ.grows {st : LoopState} {p : Plan} {r s : Int} {z : Nat → Int} {a : Option Addr} {len cap : Nat} {w : World} {rr : LRec} {L O B6 B7 Bp k : Nat} {W W' : World} (h : KeepJ st p r s z a len cap w rr L O B6 B7 Bp k W) (hg : Grow W W') :
    KeepJ st p r s z a len cap w rr L O B6 B7 Bp k W' := by
  obtain ⟨v, hv, ho⟩ := h.own
  exact ⟨h.loop.grow hg, ⟨v, hg.row hv, ownsRow_grow ho hg⟩, hg.row h.rp, hg.row h.rl, hg.row h.rx, hg.row h.r6, hg.row h.r7, h.grow.trans hg, h.all⟩
theorem KeepJ.turn {st : LoopState} {p : Plan} {r s : Int} {z : Nat → Int} {a : Option Addr} {len cap : Nat} {w : World} {rr : LRec} {L O B6 B7 Bp k : Nat} {W : World} (h : KeepJ st p r s z a len cap w rr L O B6 B7 Bp k W) (hL : w.heap.size ≤ L) (st' : LoopState) :
    KeepJ st' p r s z a len cap w rr L O B6 B7 Bp k (W.putObj L (.loop (rr.at st' none))) := by
  obtain ⟨v, hv, ho⟩ := h.own
  have t := h.loop.1
  exact ⟨h.loop.turn, ⟨v, row_turn t hv, ownsRow_putObj ho _ t rfl⟩, row_turn t h.rp, row_turn t h.rl, row_turn t h.rx, row_turn t h.r6, row_turn t h.r7, h.grow.turn hL _, h.all⟩
theorem KeepJ.skip {st : LoopState} {p : Plan} {r s : Int} {z : Nat → Int} {a : Option Addr} {len cap : Nat} {w : World} {rr : LRec} {L O B6 B7 Bp k : Nat} {W : World} (h : KeepJ st p r s z a len cap w rr L O B6 B7 Bp k W)
    (h0 : vdN p r s (z k) ≠ 0) (h2 : vdN p r s (z k) ≠ 2) : KeepJ st p r s z a len cap w rr L O B6 B7 Bp (k + 1) W := by
  obtain ⟨v, hv, ho⟩ := h.own
  refine ⟨h.loop, ⟨v, hv, ?_⟩, h.rp, h.rl, h.rx, h.r6, h.r7, h.grow, fun j hj => ?_⟩
  · simp only [keepL, if_neg h2]
    exact ho
  · by_cases e : j = k
    · exact e ▸ h0
    · exact h.all j (by omega)
theorem keepL_length (p : Plan) (r s : Int) (z : Nat → Int) (k : Nat) : (keepL p r s z k).length ≤ k := by
  induction k with
  | zero => simp [keepL]
  | succ k ih =>
    unfold keepL
    split
    · simp; omega
    · omega
theorem Boxed.putD {W : World} {B D : Nat} {t : TypeId} {v : Value} (h : Boxed W B t v) (hn : B ≠ D) (o : Obj) : Boxed (W.putObj D o) B t v := (World.putObj_heap_other hn).trans h
theorem ownsRow_slice {W : World} {base : Nat} {e : TypeId} {size : Nat} {v : Value} {k : Nat} {xs : List Value} (h : W.ownsRow base e size v k xs) : ∃ a n c, v = .slice a n c := by
  rcases h.2 with ⟨rfl, _⟩ | ⟨g, cap, _, rfl, _⟩ <;> exact ⟨_, _, _, rfl⟩
theorem row_appended {W w1 : World} {g : Nat} {cs : Array Value} {t e : TypeId} {fr : Nat × Nat} {base size k : Nat} {v : Value} {xs : List Value} {tmp : Obj} (h : W.heap[g]? = some (.cells cs t fr)) (ht : t ≠ e) (ho : W.ownsRow base e size v k xs)
    (hgrow : (W.alloc tmp).grownBy w1 v.ownBlock) : w1.heap[g]? = some (.cells cs t fr) := by
  have hlt := (Array.getElem?_eq_some_iff.1 (row_old (o' := tmp) h)).1
  refine (hgrow.block g hlt ?_).trans (row_old h)
  rcases ho.2 with ⟨rfl, _⟩ | ⟨g2, cap, cur, rfl, _, hgb, _⟩
  · simp [Value.ownBlock]
  · intro e'
    obtain rfl : g = g2 := by simpa [Value.ownBlock] using e'
    rw [h] at hgb
    simp at hgb
    exact ht hgb.2.1
theorem other_appended {W w1 : World} {g : Nat} {o : Obj} {e : TypeId} {base size k : Nat} {v : Value} {xs : List Value} {tmp : Obj} (h : W.heap[g]? = some o) (hc : o.isCells = false) (ho : W.ownsRow base e size v k xs)
    (hgrow : (W.alloc tmp).grownBy w1 v.ownBlock) : w1.heap[g]? = some o := by
  have hlt := (Array.getElem?_eq_some_iff.1 (row_old (o' := tmp) h)).1
  refine (hgrow.block g hlt ?_).trans (row_old h)
  rcases ho.2 with ⟨rfl, _⟩ | ⟨g2, cap, cur, rfl, _, hgb, _⟩
  · simp [Value.ownBlock]
  · intro e'
    obtain rfl : g = g2 := by simpa [Value.ownBlock] using e'
    rw [h] at hgb
    cases hgb
    cases hc
theorem ownsRow_setBox {W : World} {base B : Nat} {e t : TypeId} {size : Nat} {v u u' : Value} {k : Nat} {xs : List Value} (h : W.ownsRow base e size v k xs) (hb : Boxed W B t u) (ht : t ≠ e) : (W.setCell ⟨B, 0, none⟩ u').ownsRow base e size v k xs :=
  h.kept (grownBy_setCell' W B u') (.inr (hb.not_row ht h).symm)
set_option maxRecDepth 100000 in
set_option maxHeartbeats 600000 in
theorem Keep_yes (p : Plan) (r s : Int) (h : p.has r s) (a : Option Addr) (len cap : Nat) (hl : len ≤ 65536) (z : Nat → Int) (w : World)
    (hz : ∀ k, k < len → ∃ b o, a = some ⟨b, o, none⟩ ∧ w.cell? ⟨b, o + k, none⟩ = some (.int .i64 (z k))) :
    Calls Try.prog 24 #[planV p, placeV r s, .slice a len cap] w fun e w' => Grow w w' ∧
      ((∃ v, e = .returned (.tuple #[.int .i64 0, v]) ∧ (∀ j, j < len → vdN p r s (z j) ≠ 0) ∧ w'.ownsRow w.heap.size 2 1 v (keepL p r s z len).length ((keepL p r s z len).map (.int .i64))) ∨
       (e = .returned (.tuple #[.int .i64 160, .slice none 0 0]) ∧ ∃ j, j < len ∧ vdN p r s (z j) = 0)) := by
  have hB := Lib.hid (Begin_yes p r s h)
  have hJ := Lib.hid (judged_call p r s a len cap)
  refine (callsIn_wide (n := 5)).1 ?_
  refine callsIn_of_wp_marks Try.func24 rfl trivial ?_ rfl
  simp only [Try.ntmps24, List.size_toArray, List.length_cons, List.length_nil, Nat.reduceAdd, Nat.reduceSub, Array.replicate_succ, Array.replicate_zero, List.push_toArray, List.append_toArray, List.nil_append, List.cons_append]
  refine wpIn_wide.2 ?_
  go_wp2_with (fail)
  go_step3
  go_wp2_with (first
    | (go_at_call 56; refine (hB.out _).mono ?_; rintro e w1 ⟨rfl, hg⟩; obtain ⟨hc, hf⟩ := hg.cells)
    | (refine wpList_isload 23 _ rfl ?_; refine wpList_load_rowg 23 _ rfl rfl _ rfl _ _ _ _ (by first | exact row_new _ _ | exact row_old (row_new _ _) | exact row_old (row_old (row_new _ _)) | exact row_old (row_old (row_old (row_new _ _))) | assumption) Try.underlying23 rfl (by kernel_rfl) ?_) | (refine wpList_isload 52 _ rfl ?_; refine wpList_load_rowg 52 _ rfl rfl _ rfl _ _ _ _ (by first | exact row_new _ _ | exact row_old (row_new _ _) | exact row_old (row_old (row_new _ _)) | exact row_old (row_old (row_old (row_new _ _))) | assumption) Try.underlying52 rfl (by kernel_rfl) ?_))
  go_step3
  obtain ⟨h6, h7, hgw, hp0, hq0⟩ := keep_boxes hg
  have hsz : w.heap.size + 4 ≤ w1.heap.size := by
    have := hg.size
    simpa using this
  clear hc hf hg hB
  generalize e7 : w.heap.size + 1 + 1 + 1 = B7 at *
  generalize e6 : w.heap.size + 1 + 1 = B6 at *
  have hO := Boxed.new w1 36 (.slice none 0 0)
  replace h6 := h6.alloc (.cells #[.slice none 0 0] 36)
  replace h7 := h7.alloc (.cells #[.slice none 0 0] 36)
  replace hp0 := row_old (o' := .cells #[.slice none 0 0] 36) hp0
  replace hq0 := row_old (o' := .cells #[.slice none 0 0] 36) hq0
  have hg2 : Grow w (w1.alloc (.cells #[.slice none 0 0] 36)) := hgw.alloc _
  have hs2 : w1.heap.size + 1 = (w1.alloc (.cells #[.slice none 0 0] 36)).heap.size := by simp
  have hb6 : w.heap.size ≤ B6 ∧ B6 < w1.heap.size := by omega
  have hb7 : w.heap.size ≤ B7 ∧ B7 < w1.heap.size := by omega
  have h67 : B6 ≠ B7 := by omega
  clear e6 e7 hgw hsz
  generalize w1.alloc (.cells #[.slice none 0 0] 36) = w2 at *
  generalize hOe : w1.heap.size = O at *
  clear hOe w1
  go_wp2_with (first
    | (go_at_call 57; refine (hJ.out _).mono ?_; rintro e w3 ⟨rfl, rfl⟩)
    | (refine wpList_isload 23 _ rfl ?_; refine wpList_load_rowg 23 _ rfl rfl _ rfl _ _ _ _ (by first | (with_reducible first | exact hp0) | exact row_new _ _ | exact row_old (row_new _ _)) Try.underlying23 rfl (by kernel_rfl) ?_) | (refine wpList_isload 52 _ rfl ?_; refine wpList_load_rowg 52 _ rfl rfl _ rfl _ _ _ _ (by first | (with_reducible first | exact hq0) | exact row_new _ _ | exact row_old (row_new _ _)) Try.underlying52 rfl (by kernel_rfl) ?_))
  generalize hw3 : ((w2.alloc (.cells (planC p) 23)).alloc (.cells #[.int .i64 r, .int .i64 s] 52)).alloc (.cells #[.slice a len cap] 36) = w3
  have hg3 : Grow w w3 := by rw [← hw3]; exact (((hg2).alloc _).alloc _).alloc _
  have r1 : w3.heap[w2.heap.size]? = some (.cells (planC p) 23) := by rw [← hw3]; exact row_old (row_old (row_new _ _))
  have r2 : w3.heap[w2.heap.size + 1]? = some (.cells #[.int .i64 r, .int .i64 s] 52) := by rw [← hw3]; exact row_old (row_new2 _ _ _)
  have r3 : w3.heap[w2.heap.size + 2]? = some (.cells #[.slice a len cap] 36) := by rw [← hw3]; exact spot_like _ _ _ _
  have hO3 : Boxed w3 O 36 (.slice none 0 0) := by rw [← hw3]; exact ((hO.alloc _).alloc _).alloc _
  have h63 : Boxed w3 B6 27 (.int .i64 0) := by rw [← hw3]; exact ((h6.alloc _).alloc _).alloc _
  have h73 : Boxed w3 B7 36 (.slice none 0 0) := by rw [← hw3]; exact ((h7.alloc _).alloc _).alloc _
  have hs3 : O + 4 ≤ w3.heap.size := by rw [← hw3]; simp; omega
  clear hw3 hp0 hq0 hO h6 h7 hg2 hJ
  generalize w2.heap.size = Bp at *
  clear w2
  refine (wpIn_wide (n := 5)).1 ?_
  refine wpIn_range rfl (by omega) (gf := 84) (lb := #[.pointer (some ⟨Bp + 2, 0, none⟩), .pointer (some ⟨Bp, 0, none⟩), .pointer (some ⟨Bp + 1, 0, none⟩)]) rfl trivial (enters_of Try.func84 (by kernel_rfl) rfl) ?_
  intro rr hrF hr1 hr2 hr3 hr4 hrD
  have hL1 : InLoop rr (w3.heap.size + 1) .ready none ((w3.alloc (.deferred (some []))).alloc (.loop (rr.at .ready none))) := by
    refine ⟨by simpa using row_new (w3.alloc (.deferred (some []))) (.loop (rr.at .ready none)), ?_⟩
    rw [hrD]
    exact row_old (row_new _ _)
  have hg31 : Grow w3 ((w3.alloc (.deferred (some []))).alloc (.loop (rr.at .ready none))) := ((Grow.refl _).alloc _).alloc _
  generalize (w3.alloc (.deferred (some []))).alloc (.loop (rr.at .ready none)) = W1 at *
  generalize hLd : w3.heap.size + 1 = L at *
  have hLw : O + 5 ≤ L := by omega
  refine (judged_iter p r s h a len cap (by unfold maxLen; omega) z L (Bp + 2) Bp (Bp + 1) (KeepJ .ready p r s z a len cap w rr L O B6 B7 Bp) (KeepX p r s z len w rr L B6 B7) W1 ?hJr ?hJg ?hY ?h0).mono ?fin
  case hJr =>
    intro k W hj
    refine ⟨hj.rx, hj.rp, hj.rl, fun hk => ?_⟩
    obtain ⟨b, o, ha, hc⟩ := hz k hk
    exact ⟨b, o, ha, (hj.grow.cells.1 _ _ (lt_of_cell hc)).trans hc⟩
  case hJg => exact fun k W W' hj hg => hj.grows hg
  case h0 => exact ⟨hL1, ⟨_, hg31.row hO3, World.ownsRow_nil _ _ _ _⟩, hg31.row r1, hg31.row r2, hg31.row r3, hg31.row h63, hg31.row h73, hg3.trans hg31, fun j hj => by omega⟩
  case fin =>
    rintro e W ⟨hv, hj | hx⟩
    · refine ⟨hv, .inl ⟨hj.loop, ?_⟩⟩
      intro W' hW' hD
      obtain ⟨v, hb, ho⟩ := hj.own
      have b0 : Boxed W' O 36 v := by rw [hW']; exact row_turn hj.loop.1 hb
      have b6 : Boxed W' B6 27 (.int .i64 0) := by rw [hW']; exact row_turn hj.loop.1 hj.r6
      have b7 : Boxed W' B7 36 (.slice none 0 0) := by rw [hW']; exact row_turn hj.loop.1 hj.r7
      have hg' : Grow w W' := by rw [hW']; exact hj.grow.turn (by omega) _
      have ho' : W'.ownsRow w.heap.size 2 1 v (keepL p r s z len).length ((keepL p r s z len).map (.int .i64)) := by rw [hW']; exact ownsRow_putObj ho _ hj.loop.1 rfl
      have hall := hj.all
      clear hW' hv hj hb ho hr1 hr2 hr3 hr4 hrF hL1 hg31 hz h r1 r2 r3 hO3 h63 h73
      obtain ⟨va, vn, vc, rfl⟩ := ownsRow_slice ho'
      have c0 := b0.cell
      have c6 := b6.cell
      have c7 := b7.cell
      have f6 := b6.frozen
      have f7 := b7.frozen
      go_wp2
      go_region
      go_wp2
      have d6 : Boxed ((W'.setCell ⟨B6, 0, none⟩ (.int .i64 0)).setCell ⟨B7, 0, none⟩ (.slice va vn vc)).drew B6 27 (.int .i64 0) := row_set_other h67 (b6.set _) _
      have d7 : Boxed ((W'.setCell ⟨B6, 0, none⟩ (.int .i64 0)).setCell ⟨B7, 0, none⟩ (.slice va vn vc)).drew B7 36 (.slice va vn vc) := Boxed.set _ (row_set_other h67.symm b7 _)
      have dD : ((W'.setCell ⟨B6, 0, none⟩ (.int .i64 0)).setCell ⟨B7, 0, none⟩ (.slice va vn vc)).drew.heap[w3.heap.size]? = some (.deferred (some [])) := row_set_other (by omega) (row_set_other (by omega) hD _) _
      have dO : ((W'.setCell ⟨B6, 0, none⟩ (.int .i64 0)).setCell ⟨B7, 0, none⟩ (.slice va vn vc)).drew.ownsRow w.heap.size 2 1 (.slice va vn vc) (keepL p r s z len).length ((keepL p r s z len).map (.int .i64)) :=
        ownsRow_setBox (ownsRow_setBox ho' b6 (by decide)) (row_set_other h67.symm b7 _) (by decide)
      have dG : Grow w ((W'.setCell ⟨B6, 0, none⟩ (.int .i64 0)).setCell ⟨B7, 0, none⟩ (.slice va vn vc)).drew := ((hg'.setCell (p := ⟨B6, 0, none⟩) hb6.1 _).setCell (p := ⟨B7, 0, none⟩) hb7.1 _).drew
      exact leaves_mark dD (results_cells2 rfl _ _ ⟨B6, 0, none⟩ ⟨B7, 0, none⟩ _ _ rfl rfl (load_box Try.isAgg27 (Boxed.putD d6 (by omega) _)) (load_box Try.isAgg36 (Boxed.putD d7 (by omega) _)))
        ⟨dG.turn (by omega) _, .inl ⟨_, rfl, hall, ownsRow_putObj dO _ dD rfl⟩⟩ rfl
    · refine ⟨hv, .inr ⟨.ret, hx.loop, ?_⟩⟩
      intro W' hW' hD
      have b6 : Boxed W' B6 27 (.int .i64 160) := by rw [hW']; exact row_turn hx.loop.1 hx.r6
      have b7 : Boxed W' B7 36 (.slice none 0 0) := by rw [hW']; exact row_turn hx.loop.1 hx.r7
      have hg' : Grow w W' := by rw [hW']; exact hx.grow.turn (by omega) _
      have hbad := hx.bad
      clear hW' hv hx
      refine wpIn_wide.2 ?_
      go_wp2
      exact leaves_mark hD (results_cells2 rfl _ _ ⟨B6, 0, none⟩ ⟨B7, 0, none⟩ _ _ rfl rfl (load_box Try.isAgg27 (Boxed.putD b6 (by omega) _)) (load_box Try.isAgg36 (Boxed.putD b7 (by omega) _)))
        ⟨hg'.turn (by omega) _, .inr ⟨rfl, hbad⟩⟩ rfl
  case hY =>
    intro k W hk hj
    have hbz := hj.turn (by omega) .busy
    obtain ⟨v, hb, ho⟩ := hbz.own
    have hkl := keepL_length p r s z k
    have hkeep : keepL p r s z (k + 1) = if vdN p r s (z k) = 2 then keepL p r s z k ++ [dvN p r s (z k)] else keepL p r s z k := rfl
    have hskip := hbz.skip
    have hV := vdN_four p r s (z k)
    refine yield_round hrF hj.loop (by rw [hr2]; rfl) ?_
    rw [hr1, hr2, hr3, hr4]
    clear hr1 hr2 hr3 hr4 hL1 hg31 hz h r1 r2 r3 hO3 h63 h73
    obtain ⟨va, vn, vc, rfl⟩ := ownsRow_slice ho
    have c0 := hb.cell
    have c6 := hbz.r6.cell
    have c7 := hbz.r7.cell
    have f6 := hbz.r6.frozen
    have f7 := hbz.r7.frozen
    have hbad : vdN p r s (z k) = 0 → ∃ j, j < len ∧ vdN p r s (z j) = 0 := fun e => ⟨k, hk, e⟩
    generalize hd : dvN p r s (z k) = d at *
    generalize hVe : vdN p r s (z k) = V at *
    rcases hV with rfl | rfl | rfl | rfl
    · gi_wp2
      refine ⟨hj.loop, ?_⟩
      generalize W.putObj L (.loop (rr.at .busy none)) = Wb at *
      gi_wp2
      have l2 : InLoop rr L .busy none ((Wb.setCell ⟨B6, 0, none⟩ (.int .i64 160)).setCell ⟨B7, 0, none⟩ (.slice none 0 0)) :=
        ⟨row_set_other (by omega) (row_set_other (by omega) hbz.loop.1 _) _, row_set_other (by omega) (row_set_other (by omega) hbz.loop.2 _) _⟩
      have d6 := row_turn (o := .loop (rr.at .done (some .ret))) l2.1 (row_set_other h67 (Boxed.set (.int .i64 160) hbz.r6) (.slice none 0 0))
      have d7 := row_turn (o := .loop (rr.at .done (some .ret))) l2.1 (Boxed.set (.slice none 0 0) (row_set_other h67.symm hbz.r7 (.int .i64 160)))
      exact ⟨l2, .inr ⟨rfl, l2.turn, d6, d7, ((hbz.grow.setCell (p := ⟨B6, 0, none⟩) hb6.1 _).setCell (p := ⟨B7, 0, none⟩) hb7.1 _).turn (by omega) _, hbad trivial⟩⟩
    · gi_wp2
      refine ⟨hj.loop, ?_⟩
      generalize W.putObj L (.loop (rr.at .busy none)) = Wb at *
      gi_wp2
      exact ⟨hbz.loop, .inl ⟨rfl, (hskip (by decide) (by decide)).turn (by omega) _⟩⟩
    · gi_wp2
      refine ⟨hj.loop, ?_⟩
      generalize W.putObj L (.loop (rr.at .busy none)) = Wb at *
      obtain ⟨i0, hi, hz0, hz1, hz2⟩ := info_parts (P := Try.prog) (e := 2) (z := .int .i64 0) (size := 1) (bytes := 8) (by kernel_rfl)
      gi_wp2_with (gi_at_builtin; refine wpListIn_append_own _ rfl _ _ 36 rfl w.heap.size 2 i0 (.int .i64 0) 1 8 Try.underlying36 hi hz0 hz1 hz2 rfl (by decide) _ _ _ rfl (ho.alloc _) ⟨Wb.heap.size, 0, none⟩ 1 1 [.int .i64 d] rfl rfl (cell_one_new _ _ _) (by simp [Value.oneCell']) (by unfold maxLen; omega) (by omega) (by have := hbz.grow.size; simp; omega) ?_; intro v' w1 hown' hgrow _; obtain ⟨g', cap', rfl⟩ := ownsRow_succ hown'; obtain ⟨hv1, hv2, hr2, hk2, hb2⟩ := Boxed.appended hb (by decide) ho hbz.grow.size (by omega) hown' hgrow; have hc1 := hv1.cell; have hf1 := hv1.frozen)
      have hn : KeepJ .busy p r s z a len cap w rr L O B6 B7 Bp (k + 1) (w1.setCell ⟨O, 0, none⟩ (.slice (some ⟨g', 0, none⟩) ((keepL p r s z k).length + 1) cap')) := by
        refine ⟨⟨?_, ?_⟩, ⟨_, hv2, ?_⟩, ?_, ?_, ?_, ?_, ?_, ?_, ?_⟩
        · exact row_set_other (by omega) (other_appended hbz.loop.1 rfl ho hgrow) _
        · exact row_set_other (by omega) (other_appended hbz.loop.2 rfl ho hgrow) _
        · rw [hkeep, if_pos trivial]
          simpa using hr2
        · exact row_set_other (by omega) (row_appended hbz.rp (by decide) ho hgrow) _
        · exact row_set_other (by omega) (row_appended hbz.rl (by decide) ho hgrow) _
        · exact row_set_other (by omega) (row_appended hbz.rx (by decide) ho hgrow) _
        · exact row_set_other (by omega) (row_appended hbz.r6 (by decide) ho hgrow) _
        · exact row_set_other (by omega) (row_appended hbz.r7 (by decide) ho hgrow) _
        · exact Below.trans hbz.grow hb2
        · intro j hj'
          by_cases e : j = k
          · rw [e, hVe]
            decide
          · exact hbz.all j (by omega)
      exact ⟨hn.loop, .inl ⟨rfl, hn.turn (by omega) _⟩⟩
    · gi_wp2
      refine ⟨hj.loop, ?_⟩
      generalize W.putObj L (.loop (rr.at .busy none)) = Wb at *
      gi_wp2
      exact ⟨hbz.loop, .inl ⟨rfl, (hskip (by decide) (by decide)).turn (by omega) _⟩⟩
end Go.Proofs.Ytelmgipnlflmaaa
