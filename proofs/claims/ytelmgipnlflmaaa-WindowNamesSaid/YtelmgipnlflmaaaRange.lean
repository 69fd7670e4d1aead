/-
  A range over a function, told by states: what entering, one round and leaving do. No statement of the seat; no condition.
-/
import Derived.Test.YtelmgipnlflmaaaBase
import Derived.RangeFuncNested
import Derived.RangeFuncBound
import Derived.RangeFuncCalls
import Derived.RangeFuncLeaves
import Derived.Shelf.Abstract
import Derived.Shelf.RegionOpen
import Derived.OwnWalkIn
import Derived.TacticsInMore
import Derived.LoopNIn
import Derived.LoopIn
import Derived.WalkMore
namespace Go.Proofs.Ytelmgipnlflmaaa
open Go.RowKit Go.Shelf

/-- What a loop's record bears, whatever state it is in. -/
structure LRec where
  (fn : FuncId) (tmps : Array Value) (ps : Array Tmp) (assign body : Code) (D : Nat)
def LRec.at (r : LRec) (st : LoopState) (pe : Option Code) : Loop := { state := st, pending := pe, fn := r.fn, tmps := r.tmps, params := r.ps, assign := r.assign, body := r.body, defers := r.D }
/-- The record stands at L, in that state; no call is deferred. -/
def InLoop (r : LRec) (L : Nat) (st : LoopState) (pe : Option Code) (W : World) : Prop := W.heap[L]? = some (.loop (r.at st pe)) ∧ W.heap[r.D]? = some (.deferred (some []))

theorem InLoop.ne {r : LRec} {L : Nat} {st : LoopState} {pe : Option Code} {W : World} (h : InLoop r L st pe W) : r.D ≠ L := fun e => by
  have h2 := h.2
  rw [e, h.1] at h2
  cases h2
theorem InLoop.lt {r : LRec} {L : Nat} {st : LoopState} {pe : Option Code} {W : World} (h : InLoop r L st pe W) : L < W.heap.size := (Array.getElem?_eq_some_iff.1 h.1).1
theorem InLoop.turn {r : LRec} {L : Nat} {st st' : LoopState} {pe pe' : Option Code} {W : World} (h : InLoop r L st pe W) : InLoop r L st' pe' (W.putObj L (.loop (r.at st' pe'))) :=
  ⟨World.putObj_heap_same h.lt, (World.putObj_heap_other h.ne).trans h.2⟩
theorem InLoop.grow {r : LRec} {L : Nat} {st : LoopState} {pe : Option Code} {W W' : World} (h : InLoop r L st pe W) (hg : Grow W W') : InLoop r L st pe W' := ⟨hg.row h.1, hg.row h.2⟩
theorem InLoop.setCell {r : LRec} {L : Nat} {st : LoopState} {pe : Option Code} {W : World} (h : InLoop r L st pe W) {a : Addr} {v u : Value} (hc : W.cell? a = some v) : InLoop r L st pe (W.setCell a u) := by
  have hn : ∀ k o, W.heap[k]? = some o → o.isCells = false → k ≠ a.block := fun k o hk ho e => by
    subst e
    unfold World.cell? at hc
    rw [hk] at hc
    cases o <;> simp_all [Obj.isCells]
  exact ⟨(Below.heap_setCell W a u L (hn _ _ h.1 rfl)).trans h.1, (Below.heap_setCell W a u r.D (hn _ _ h.2 rfl)).trans h.2⟩

theorem cell_turn {W : World} {L : Nat} {l : Loop} {o : Obj} (h : W.heap[L]? = some (.loop l)) (ho : o.isCells = false) (a : Addr) : (W.putObj L o).cell? a = W.cell? a := by
  unfold World.cell?
  by_cases e : a.block = L
  · rw [e, World.putObj_heap_same (Array.getElem?_eq_some_iff.1 h).1, h]
    cases o <;> simp_all [Obj.isCells]
  · rw [World.putObj_heap_other e]
theorem frozen_turn {W : World} {L : Nat} {l : Loop} {o : Obj} (h : W.heap[L]? = some (.loop l)) (ho : o.isCells = false) (a : Addr) : (W.putObj L o).frozen? a = W.frozen? a := by
  unfold World.frozen?
  by_cases e : a.block = L
  · rw [e, World.putObj_heap_same (Array.getElem?_eq_some_iff.1 h).1, h]
    cases o <;> simp_all [Obj.isCells]
  · rw [World.putObj_heap_other e]
theorem row_turn {W : World} {L g : Nat} {l : Loop} {o : Obj} {c : Array Value} {t : TypeId} {fr : Nat × Nat} (h : W.heap[L]? = some (.loop l)) (hg : W.heap[g]? = some (.cells c t fr)) : (W.putObj L o).heap[g]? = some (.cells c t fr) := by
  rw [World.putObj_heap_other]
  · exact hg
  · intro e
    rw [e, h] at hg
    cases hg
theorem setCell_row1 {W : World} {g : Nat} {v : Value} {t : TypeId} {fr : Nat × Nat} (h : W.heap[g]? = some (.cells #[v] t fr)) (u : Value) : (W.setCell ⟨g, 0, none⟩ u).heap[g]? = some (.cells #[u] t fr) := by
  simp [World.setCell, Array.getElem?_modify, h]
theorem Below.turn {B : Nat} {w W : World} (h : Below B w W) {L : Nat} (hL : B ≤ L) (o : Obj) : Below B w (W.putObj L o) :=
  h.trans ⟨rfl, rfl, rfl, by simp [World.putObj], fun k hk => World.putObj_heap_other (by omega)⟩
theorem Grow.turn {w W : World} (h : Grow w W) {L : Nat} (hL : w.heap.size ≤ L) (o : Obj) : Grow w (W.putObj L o) := Below.turn h hL o

section
variable {F : Fence} {n : Nat} {P : Program}
/-- How a round may end: R of what yield answers. -/
def roundEnd (r : LRec) (L : Nat) (R : Ending → World → Prop) : Exit → Act → World → Prop
  | .normal, _, W => InLoop r L .busy none W ∧ R (.returned (.bool true)) (W.putObj L (.loop (r.at .ready none)))
  | .ret, _, W => InLoop r L .busy none W ∧ R (.returned (.bool false)) (W.putObj L (.loop (r.at .done (some .ret))))
  | .exit id, _, W => InLoop r L .busy none W ∧ R (.returned (.bool false)) (W.putObj L (.loop (r.at .done (some (.exit id)))))
  | _, _, _ => False

theorem yield_round {r : LRec} {L : Nat} {W : World} {vs : Array Value} {R : Ending → World → Prop} (hF : F.fn r.fn) (hL : InLoop r L .ready none W) (hsz : vs.size = r.ps.size)
    (h : r.assign.wpIn (F.inRound L) n P (Exit.then (fun a₁ W₁ => InLoop r L .ready none W₁ ∧ r.body.wpIn (F.inRound L) n P (roundEnd r L R) a₁ (W₁.putObj L (.loop (r.at .busy none)))) (fun _ _ _ => False))
      { tmps := (r.ps.zip vs).foldl (fun t (p, v) => t.setIfInBounds p v) r.tmps, defers := [] } W) :
    YieldAt F n P L vs W R := by
  refine ⟨r.fn, _, r.assign, r.body, run_yield (P := P) (args := vs) hL.1 hsz, roundIn_of_wpIn hF (wpIn_mono h ?_)⟩
  rintro e a₁ W₁ he
  cases e with
  | normal =>
    obtain ⟨h1, h2⟩ := he
    refine ⟨_, run_beginRound h1.1 rfl, wpIn_mono h2 ?_⟩
    rintro e a₂ W₂ he
    cases e with
    | normal =>
      obtain ⟨k1, k2⟩ := he
      exact ⟨_, _, run_endRound none k1.1, k2⟩
    | ret =>
      obtain ⟨k1, k2⟩ := he
      exact ⟨_, _, run_endRound (some .ret) k1.1, k2⟩
    | exit id =>
      obtain ⟨k1, k2⟩ := he
      exact ⟨_, _, run_endRound (some (.exit id)) k1.1, k2⟩
    | goto t => exact he.elim
    | panic c => exact he.elim
    | outgrown => exact he.elim
  | ret => exact he.elim
  | exit id => exact he.elim
  | goto t => exact he.elim
  | panic c => exact he.elim
  | outgrown => exact he.elim

/-- Entering and leaving. -/
theorem wpIn_range {g : Operand} {ps : Array Tmp} {assign body : Code} {Q : Exit → Act → World → Prop} {a : Act} {w : World} (hro : F.round = none) (h1 : 1 ≤ n)
    {gf : Nat} {lb : Array Value} (hg : a.eval g = .func (.func gf) #[] lb) (hFg : F.fn gf) (eg : ∀ args w, (callFunc gf args).run P w = .ok (.enter gf args) w)
    (hcall : ∀ (r : LRec), F.fn r.fn → r.tmps = a.tmps → r.ps = ps → r.assign = assign → r.body = body → r.D = w.heap.size →
      CallsIn F (n - 1) P gf (#[.func (.yield (w.heap.size + 1)) #[] #[]] ++ lb) ((w.alloc (.deferred (some []))).alloc (.loop (r.at .ready none))) fun e W => (∃ v, e = .returned v) ∧
        ((InLoop r (w.heap.size + 1) .ready none W ∧ ∀ W', W' = W.putObj (w.heap.size + 1) (.loop (r.at .exhausted none)) → W'.heap[w.heap.size]? = some (.deferred (some [])) →
            Q .normal { a with defers := { target := .collected w.heap.size, args := #[] } :: a.defers } W') ∨
         (∃ c, InLoop r (w.heap.size + 1) .done (some c) W ∧ ∀ W', W' = W.putObj (w.heap.size + 1) (.loop (r.at .exhausted (some c))) → W'.heap[w.heap.size]? = some (.deferred (some [])) →
            c.wpIn F n P Q { a with defers := { target := .collected w.heap.size, args := #[] } :: a.defers } W'))) :
    (Code.rangeFunc g ps assign body).wpIn F n P Q a w := by
  refine wpIn_rangeFunc ?_
  intro fn hfn
  rw [hro]
  obtain ⟨r, hr⟩ : ∃ r : LRec, r = ⟨fn, a.tmps, ps, assign, body, w.heap.size⟩ := ⟨_, rfl⟩
  have hc := hcall r (by rw [hr]; exact hfn) (by rw [hr]) (by rw [hr]) (by rw [hr]) (by rw [hr]) (by rw [hr])
  have he : (Instr.enterLoop fn a.tmps ps assign body none).run P w = .ok (w.heap.size + 1, [{ target := .collected w.heap.size, args := #[] }]) ((w.alloc (.deferred (some []))).alloc (.loop (r.at .ready none))) := by
    rw [hr]
    exact run_enterLoop_outer _ _ _ _ _
  obtain ⟨W1, hW1⟩ : ∃ W1, (w.alloc (.deferred (some []))).alloc (.loop (r.at .ready none)) = W1 := ⟨_, rfl⟩
  rw [hW1] at hc he
  have hrD : r.D = w.heap.size := by rw [hr]
  clear hr
  refine ⟨w.heap.size + 1, [{ target := .collected w.heap.size, args := #[] }], W1, { target := .fn (.func gf) lb, args := #[.func (.yield (w.heap.size + 1)) #[] #[]] }, W1, gf,
    #[.func (.yield (w.heap.size + 1)) #[] #[]] ++ lb, W1, he, ?_, ?_, ?_, fun _ => h1, ?_⟩
  · simp only [resolve, hg]
    simp [go_sem]
  · intro f' hf'
    simp [Target.leads] at hf'
    subst hf'
    exact hFg
  · simp [invoke, go_sem, eg]
  · refine hc.mono ?_
    rintro e W ⟨⟨v, rfl⟩, h⟩
    rcases h with ⟨hL, hQ⟩ | ⟨c, hL, hQ⟩
    · have h1 := run_endLoop (P := P) hL.1 (by simp [LRec.at])
      have h2 := (hL.turn (st' := .exhausted) (pe' := none)).2
      rw [hrD] at h2
      have h3 := hQ _ rfl h2
      exact ⟨none, _, h1, h3⟩
    · have h1 := run_endLoop (P := P) hL.1 (by simp [LRec.at])
      have h2 := (hL.turn (st' := .exhausted) (pe' := some c)).2
      rw [hrD] at h2
      have h3 := hQ _ rfl h2
      exact ⟨some c, _, h1, h3⟩
end

/-- A function's end behind such a loop: the mark is taken up, no call was deferred. -/
theorem leaves_mark {P : Program} {fn : Func} {R : Ending → World → Prop} {tmps : Array Value} {D : Nat} {W : World} {v : Value} (hD : W.heap[D]? = some (.deferred (some [])))
    (hres : (results fn tmps).run P (W.putObj D (.deferred none)) = .ok v (W.putObj D (.deferred none))) (hR : R (.returned v) (W.putObj D (.deferred none))) {n : Nat} {ds : List Deferred} (hds : ds = [{ target := .collected D, args := #[] }]) :
    bodyPostM Fence.wide n P fn R .ret { tmps := tmps, defers := ds } W := by
  subst hds
  refine ⟨by simp, .inl ⟨_, _, rfl, run_takeDeferred hD, ?_⟩⟩
  exact ⟨_, hres, hR⟩
end Go.Proofs.Ytelmgipnlflmaaa
