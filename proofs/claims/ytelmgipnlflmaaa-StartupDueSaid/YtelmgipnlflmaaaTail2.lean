/-
  A drawn region in which calls that only make memory stand beside the making of a new variable and a store into it: the calls by the text's order, from whatever world has grown. No statement of the seat; no condition.
-/
import Derived.Test.YtelmgipnlflmaaaTail
import Derived.Laws.Tables
import Derived.Deep.RegionHeld3
namespace Go.Proofs.Ytelmgipnlflmaaa
open Go.RowKit

section
variable {P : Program} {ops : Array Oper} {md : Region.Mode} {w0 : World} {Q : Exit → Act → World → Prop}
/-- One value in every world that has grown; what follows has grown on. -/
def YieldsR (P : Program) (ops : Array Oper) (w0 : World) (o : Oper) (v : Value) (a : Act) : Prop :=
  (Region.wanted o (yielded ops a.tmps) = true ∧ ∀ W, Grow w0 W → Oper.quietUpon P (Grow W) W v ((execOp a.eval o).run P W)) ∨
  (Region.wanted o (yielded ops a.tmps) = false ∧ v = undef)
theorem YieldsR.of_same {o : Oper} {v : Value} {a a' : Act} (hy : YieldsR P ops w0 o v a) (he : execOp a'.eval o = execOp a.eval o)
    (hw : Region.wanted o (yielded ops a'.tmps) = Region.wanted o (yielded ops a.tmps)) : YieldsR P ops w0 o v a' := by
  unfold YieldsR at *
  rw [he, hw]
  exact hy
theorem YieldsR.wpOp {i : Nat} {o : Oper} {v : Value} {a : Act} (hi : ops[i]? = some o) (hy : YieldsR P ops w0 o v a) {K : Act → World → Prop} {W : World} (hW : Grow w0 W)
    (h : ∀ W', Grow W W' → K (a.put o.dst v) W') : wpOp P ops Q i K a W := by
  unfold Go.wpOp
  simp only [hi]
  rcases hy with ⟨hw, hv⟩ | ⟨hw, rfl⟩
  · have hv := hv W hW
    simp only [hw, if_true]
    left
    unfold Oper.wp
    generalize (execOp a.eval o).run P W = r at *
    cases r with
    | ok n w' =>
      cases n <;> simp only [Oper.quietUpon] at hv <;> simp only [Oper.upon]
      case value u =>
        obtain ⟨e1, e2⟩ := hv
        rw [e1, e2]
        exact h _ (Grow.refl _)
      case skip =>
        obtain ⟨e1, e2⟩ := hv
        rw [e1, ← e2]
        exact h _ (Grow.refl _)
      case enter f args =>
        obtain ⟨e1, hc⟩ := hv
        rw [e1]
        exact hc.mono fun e w'' ⟨he, hw''⟩ => by subst he; exact h _ hw''
    | halt x w' => simp only [Oper.quietUpon] at hv
  · simp only [hw, Bool.false_eq_true, if_false]
    exact h _ (Grow.refl _)
theorem wpOp_putR {j : Nat} {oi oj : Oper} {v : Value} (hj : ops[j]? = some oj) (hap : oi.apart ops oj = true) (hsi : ∀ cs b, oi.op ≠ .select cs b) (hsj : ∀ cs b, oj.op ≠ .select cs b)
    (hQ : ∀ c a d v w, Q (.panic c) (a.put d v) w → Q (.panic c) a w) {K : Act → World → Prop} {a : Act} {w : World} (hy : YieldsR P ops w0 oi v a) (h : wpOp P ops Q j K (a.put oi.dst v) w) :
    wpOp P ops Q j (fun a' w' => YieldsR P ops w0 oi v a' ∧ K (a'.put oi.dst v) w') a w := by
  obtain ⟨h1, h2, h3⟩ := Oper.apart_spec hap
  have keep : ∀ (a : Act), YieldsR P ops w0 oi v a → ∀ u, YieldsR P ops w0 oi v (a.put oj.dst u) := fun a hy u =>
    hy.of_same (execOp_put oi hsi a oj.dst u h3) (wanted_put oi a oj.dst u h3)
  unfold wpOp at *
  simp only [hj] at *
  rw [wanted_put oj a oi.dst v h1] at h
  by_cases hw : Region.wanted oj (yielded ops a.tmps) = true
  · rw [if_pos hw] at h ⊢
    rcases h with h | ⟨hasks, hlets⟩
    · left
      unfold Oper.wp at *
      rw [execOp_put oj hsj a oi.dst v h1] at h
      generalize (execOp a.eval oj).run P w = r at *
      cases r with
      | ok n w' =>
        cases n <;> simp only [Oper.upon] at h ⊢
        case value u => exact ⟨keep a hy u, by rw [← Act.put_comm a v u h2]; exact h⟩
        case skip => exact ⟨keep a hy _, by rw [← Act.put_comm a v undef h2]; exact h⟩
        case defer d =>
          refine ⟨keep { a with defers := d :: a.defers } (hy.of_same rfl rfl) _, ?_⟩
          rw [← Act.put_comm _ v undef h2, ← Act.put_defers]
          exact h
        case enter f args =>
          refine Calls.mono h fun e w'' he => ?_
          cases e with
          | returned u => exact ⟨keep a hy u, by rw [← Act.put_comm a v u h2]; exact he⟩
          | panicked c => exact hQ _ _ _ _ _ he
          | outgrown => exact he
        case row row args => exact Rows.mono h fun u w'' he => ⟨keep a hy u, by rw [← Act.put_comm a v u h2]; exact he⟩
      | halt x w' =>
        cases x <;> simp only [Oper.upon] at h ⊢
        case panic u => exact hQ _ _ _ _ _ h
    · right
      refine ⟨?_, hlets⟩
      unfold Oper.asks at *
      rw [execOp_put oj hsj a oi.dst v h1] at hasks
      exact hasks
  · rw [if_neg hw] at h ⊢
    exact ⟨keep a hy _, by rw [← Act.put_comm a v undef h2]; exact h⟩

/-- Whatever order is picked, and whatever is made meanwhile. -/
def wpG (P : Program) (md : Region.Mode) (ops : Array Oper) (w0 : World) (Q : Exit → Act → World → Prop) : Nat → Array Bool → Act → World → Prop
  | 0, listed, a, W => Grow w0 W ∧ ∀ W1, Grow W W1 → Region.ready md ops listed = [] ∧ Q .normal a W1
  | f + 1, listed, a, W => Grow w0 W ∧ ∀ W1, Grow W W1 → (Region.ready md ops listed = [] → Q .normal a W1) ∧ ∀ i ∈ Region.ready md ops listed, wpOp P ops Q i (wpG P md ops w0 Q f (listed.setIfInBounds i true)) a W1
theorem wpG_grow {f : Nat} {listed : Array Bool} {a : Act} {W W' : World} (h : wpG P md ops w0 Q f listed a W) (hg : Grow W W') : wpG P md ops w0 Q f listed a W' := by
  cases f with
  | zero => exact ⟨h.1.trans hg, fun W1 h1 => h.2 W1 (hg.trans h1)⟩
  | succ f => exact ⟨h.1.trans hg, fun W1 h1 => h.2 W1 (hg.trans h1)⟩
theorem wpG_any (f : Nat) : ∀ (listed : Array Bool) (a : Act) (W : World), wpG P md ops w0 Q f listed a W → wpAny P md ops Q f listed a W := by
  induction f with
  | zero => exact fun listed a W h => h.2 W (Grow.refl W)
  | succ f ih => exact fun listed a W h => ⟨(h.2 W (Grow.refl W)).1, fun i hi => wpOp_mono (fun a' w' h' => ih _ a' w' h') ((h.2 W (Grow.refl W)).2 i hi)⟩
theorem wpG_base {f : Nat} {listed : Array Bool} {a : Act} {W : World} (h : wpG P md ops w0 Q f listed a W) : Grow w0 W := by
  cases f with
  | zero => exact h.1
  | succ f => exact h.1
theorem wpG_first {i : Nat} {oi : Oper} {v : Value} (hi : ops[i]? = some oi) (hsel : ∀ (j : Nat) (o : Oper) cs b, ops[j]? = some o → o.op ≠ .select cs b)
    (hQ : ∀ c a d v w, Q (.panic c) (a.put d v) w → Q (.panic c) a w) (f : Nat) :
    ∀ (listed : Array Bool) (a : Act) (W : World),
      (∀ j oj, ops[j]? = some oj → j ≠ i → listed.getD j true = false → (∀ e ∈ oj.after, Region.binds md e = true → e.on ≠ i) → oi.apart ops oj = true) →
      i ∈ Region.ready md ops listed → YieldsR P ops w0 oi v a → wpG P md ops w0 Q f (listed.setIfInBounds i true) (a.put oi.dst v) W → wpG P md ops w0 Q (f + 1) listed a W := by
  induction f with
  | zero =>
    intro listed a W _ hr hy H
    refine ⟨H.1, fun W1 h1 => ⟨fun h0 => (by rw [h0] at hr; cases hr), fun j hj => ?_⟩⟩
    by_cases e : j = i
    · subst e
      exact hy.wpOp hi (H.1.trans h1) (fun W' h' => wpG_grow H (h1.trans h'))
    · have := ready_mono hj e
      rw [(H.2 W (Grow.refl W)).1] at this
      cases this
  | succ f ih =>
    intro listed a W hfree hr hy H
    refine ⟨H.1, fun W1 h1 => ⟨fun h0 => (by rw [h0] at hr; cases hr), fun j hj => ?_⟩⟩
    by_cases e : j = i
    · subst e
      exact hy.wpOp hi (H.1.trans h1) (fun W' h' => wpG_grow H (h1.trans h'))
    · have hn := (H.2 W1 h1).2 j (ready_mono hj e)
      obtain ⟨hjun, oj, hoj, hall⟩ := mem_ready.1 hj
      have hun := (mem_ready.1 hr).1
      have hnot : ∀ e ∈ oj.after, Region.binds md e = true → e.on ≠ i := fun e he hb heq => by
        have h2 := hall e he hb
        rw [heq, getD_both hun] at h2
        cases h2
      refine wpOp_mono (fun a' w' h3 => ih (listed.setIfInBounds j true) a' w' (fun k ok hk hki hku hno => ?_) (ready_mono hr (Ne.symm e)) h3.1 ?_) (wpOp_putR hoj (hfree j oj hoj e hjun hnot) (fun cs b => hsel i oi cs b hi) (fun cs b => hsel j oj cs b hoj) hQ hy hn)
      · refine hfree k ok hk hki ?_ hno
        by_cases hjk : j = k
        · subst hjk
          exact hjun
        · rw [getD_set_ne true hjk] at hku
          exact hku
      · rw [Array.setIfInBounds_comm _ _ e]
        exact h3.2

/-- The head, in the text's order. -/
def walkR (P : Program) (ops : Array Oper) (w0 : World) (Qf : Act → Prop) : List Oper → Act → Prop
  | [], a => Qf a
  | o :: rest, a => ∃ v, YieldsR P ops w0 o v a ∧ walkR P ops w0 Qf rest (a.put o.dst v)
theorem walkR_nil {Qf : Act → Prop} {a : Act} (h : Qf a) : walkR P ops w0 Qf [] a := h
theorem walkR_op {Qf : Act → Prop} {o : Oper} {rest : List Oper} {a : Act} (hg : o.guard = none) (v : Value) (h1 : ∀ W, Grow w0 W → Oper.quietUpon P (Grow W) W v ((execOp a.eval o).run P W))
    (h2 : walkR P ops w0 Qf rest (a.put o.dst v)) : walkR P ops w0 Qf (o :: rest) a := ⟨v, .inl ⟨by simp [Region.wanted, hg], h1⟩, h2⟩
theorem wpG_lex {g : Nat} {Qf : Act → Prop} {W : World} (hsel : Region.noSelect ops = true) (hQ : ∀ c a d v w, Q (.panic c) (a.put d v) w → Q (.panic c) a w)
    (n : Nat) (hend : ∀ listed a, Region.seqB md ops g n listed = true → Qf a → wpG P md ops w0 Q g listed a W) (l : List Oper) :
    ∀ (k : Nat) (listed : Array Bool) (a : Act), (∀ j, j < l.length → l[j]? = ops[k + j]?) → k + l.length = n → Region.lexHead md ops g l.length k listed = true → walkR P ops w0 Qf l a → wpG P md ops w0 Q (l.length + g) listed a W := by
  induction l with
  | nil =>
    intro k listed a _ hk hB h
    obtain rfl : k = n := by simpa using hk
    have := hend listed a (by simpa [Region.lexHead] using hB) h
    simpa using this
  | cons o l ih =>
    intro k listed a hl hk hB h
    have h0 : ops[k]? = some o := by simpa using (hl 0 (by simp)).symm
    simp only [List.length_cons, Region.lexHead, Bool.and_eq_true] at hB
    obtain ⟨⟨hr, hf⟩, hB'⟩ := hB
    obtain ⟨v, hy, hK⟩ := h
    have e : (o :: l).length + g = l.length + g + 1 := by simp; omega
    rw [e]
    refine wpG_first h0 (Region.noSelect_spec hsel) hQ _ listed a W (Region.free_spec h0 hf) (by simpa using hr) hy (ih (k + 1) _ _ (fun j hj => ?_) ?_ hB' hK)
    · have := hl (j + 1) (by simp; omega)
      simpa [Nat.add_assoc, Nat.add_comm 1 j] using this
    · simp only [List.length_cons] at hk
      omega

/-- The tail, one by one, whatever is made between. -/
def tailR (P : Program) (ops : Array Oper) (w0 : World) (Q : Exit → Act → World → Prop) : List Oper → Act → World → Prop
  | [], a, W => ∀ W1, Grow W W1 → Q .normal a W1
  | o :: rest, a, W => ∀ W1, Grow W W1 → if Region.wanted o (yielded ops a.tmps) then o.wp P a W1 (fun a' w' => Grow w0 w' ∧ tailR P ops w0 Q rest a' w') Q else Grow w0 W1 ∧ tailR P ops w0 Q rest (a.put o.dst undef) W1
theorem tailR_nil {a : Act} {W : World} (h : ∀ W1, Grow W W1 → Q .normal a W1) : tailR P ops w0 Q [] a W := h
theorem tailR_grow {l : List Oper} {a : Act} {W W' : World} (h : tailR P ops w0 Q l a W) (hg : Grow W W') : tailR P ops w0 Q l a W' := by
  cases l with
  | nil => exact fun W1 h1 => h W1 (hg.trans h1)
  | cons o l => exact fun W1 h1 => h W1 (hg.trans h1)
theorem tailR_alloc {o : Oper} {rest : List Oper} {a : Act} {W : World} (hC : Grow w0 W) (hgd : o.guard = none) (z : Array Value) (ty : TypeId)
    (hrun : ∀ W1, (execOp a.eval o).run P W1 = .ok (.value (.pointer (some ⟨W1.heap.size, 0, none⟩))) (W1.alloc (.cells z ty)))
    (h : ∀ (g : Nat) (W1 : World), w0.heap.size ≤ g → Grow w0 W1 → W1.heap[g]? = some (.cells z ty) → tailR P ops w0 Q rest (a.put o.dst (.pointer (some ⟨g, 0, none⟩))) W1) : tailR P ops w0 Q (o :: rest) a W := by
  intro W1 h1
  rw [if_pos (by simp [Region.wanted, hgd])]
  unfold Oper.wp
  rw [hrun W1]
  have hG : Grow w0 (W1.alloc (.cells z ty)) := (hC.trans h1).alloc _
  exact ⟨hG, h _ _ (Grow.size (hC.trans h1)) hG (row_new W1 _)⟩
theorem tailR_store {o : Oper} {rest : List Oper} {a : Act} {W : World} (hC : Grow w0 W) (hgd : o.guard = none) (ty : TypeId) (x y : Operand) (ho : o.op = .store ty x y)
    (g : Nat) (cells : Array Value) (hx : a.eval x = .pointer (some ⟨g, 0, none⟩)) (hy : a.eval y = .agg cells) (t : TypeId) (old : Array Value) (hg : W.heap[g]? = some (.cells old t (0, 0)))
    (hi : (P.info? ty).map (·.size) = some cells.size) (hold : old.size = cells.size) (h1 : cells.all (·.oneCell') = true) (hle : w0.heap.size ≤ g)
    (h : ∀ W1, Grow w0 W1 → W1.heap[g]? = some (.cells cells t (0, 0)) → tailR P ops w0 Q rest (a.put o.dst undef) W1) : tailR P ops w0 Q (o :: rest) a W := by
  intro W1 hW1
  rw [if_pos (by simp [Region.wanted, hgd])]
  have hg1 := hW1.row hg
  refine wp_store_row ty x y ho g cells hx hy t old hg1 hi hold h1 ?_
  have hG : Grow w0 (W1.setRow g cells) := (hC.trans hW1).setRow hle cells
  exact ⟨hG, h _ hG (setRow_heap _ _ _ _ _ _ hg1)⟩
theorem tailR_op {o : Oper} {rest : List Oper} {a : Act} {W : World} (hC : Grow w0 W) (hgd : o.guard = none) (v : Value) (hq : ∀ W1, Grow w0 W1 → Oper.quietUpon P (Grow W1) W1 v ((execOp a.eval o).run P W1))
    (h : tailR P ops w0 Q rest (a.put o.dst v) W) : tailR P ops w0 Q (o :: rest) a W := by
  intro W1 hW1
  rw [if_pos (by simp [Region.wanted, hgd])]
  have hq := hq W1 (hC.trans hW1)
  unfold Oper.wp
  generalize (execOp a.eval o).run P W1 = r at *
  cases r with
  | ok n w' =>
    cases n <;> simp only [Oper.quietUpon] at hq <;> simp only [Oper.upon]
    case value u =>
      obtain ⟨e1, e2⟩ := hq
      rw [e1, e2]
      exact ⟨hC.trans hW1, tailR_grow h hW1⟩
    case skip =>
      obtain ⟨e1, e2⟩ := hq
      rw [e1, ← e2]
      exact ⟨hC.trans hW1, tailR_grow h hW1⟩
    case enter f args =>
      obtain ⟨e1, hc⟩ := hq
      rw [e1]
      exact hc.mono fun e w'' ⟨he, hw''⟩ => by subst he; exact ⟨(hC.trans hW1).trans hw'', tailR_grow h (hW1.trans hw'')⟩
  | halt x w' => simp only [Oper.quietUpon] at hq
theorem wpG_seq (l : List Oper) : ∀ (k : Nat) (listed : Array Bool) (a : Act) (W : World), (∀ j, l[j]? = ops[k + j]?) → Region.seqB md ops l.length k listed = true → Grow w0 W → tailR P ops w0 Q l a W → wpG P md ops w0 Q l.length listed a W := by
  induction l with
  | nil =>
    intro k listed a W _ hB hC h
    exact ⟨hC, fun W1 h1 => ⟨by simpa [Region.seqB] using hB, h W1 h1⟩⟩
  | cons o l ih =>
    intro k listed a W hl hB hC h
    have h0 : ops[k]? = some o := by simpa using (hl 0).symm
    simp only [List.length_cons, Region.seqB, Bool.and_eq_true, decide_eq_true_eq] at hB
    refine ⟨hC, fun W1 h1 => ⟨fun h2 => (by rw [hB.1] at h2; cases h2), fun i hi => ?_⟩⟩
    rw [hB.1] at hi
    obtain rfl : i = k := by simpa using hi
    have hn := h W1 h1
    have hk : ∀ a' w', Grow w0 w' ∧ tailR P ops w0 Q l a' w' → wpG P md ops w0 Q l.length (listed.setIfInBounds i true) a' w' := fun a' w' h' =>
      ih (i + 1) _ a' w' (fun j => by have := hl (j + 1); simpa [Nat.add_assoc, Nat.add_comm 1 j] using this) hB.2 h'.1 h'.2
    unfold wpOp
    simp only [h0]
    by_cases hw : Region.wanted o (yielded ops a.tmps) = true
    · rw [if_pos hw] at hn ⊢
      exact .inl (Oper.wp_mono hk hn)
    · rw [if_neg hw] at hn ⊢
      exact hk _ _ hn
end
theorem tailR_end {P : Program} {ops : Array Oper} {w0 : World} {Q : Exit → Act → World → Prop} {a : Act} {W : World} (h : ∀ W1, Grow W W1 → Q .normal a W1) : tailR P ops w0 (NoPanic Q) [] a W := h
theorem wp_region_new {P : Program} {id : Nat} {Q : Exit → Act → World → Prop} {a : Act} {w : World} {l : List Oper} (n : Nat) (hm : P.follows .mixedOrders = true)
    (hB : (Region.noSelect l.toArray && decide (n < l.toArray.size) && Region.lexHead .any l.toArray (l.toArray.size - n) n 0 (Array.replicate l.toArray.size false)) = true)
    (h : walkR P l.toArray w (fun a' => tailR P l.toArray w (NoPanic Q) (l.drop n) a' w) (l.take n) a) : (Code.region id l.toArray true).wp P Q a w := by
  refine wp_region_noPanic ?_
  have hQ : ∀ c a d v w, NoPanic Q (.panic c) (a.put d v) w → NoPanic Q (.panic c) a w := fun _ _ _ _ _ h => h
  simp only [Bool.and_eq_true, decide_eq_true_eq] at hB
  obtain ⟨⟨hsel, hn⟩, hlex⟩ := hB
  have hn' : n < l.length := by simpa using hn
  have htl : (l.take n).length = n := by simp; omega
  have hG : Grow w w.drew := (Grow.refl w).drew
  have hd : (l.drop n).length = l.toArray.size - n := by simp
  refine wp_region_any hm ?_
  have H := wpG_lex (P := P) (md := .any) (g := l.toArray.size - n) (ops := l.toArray) (w0 := w) (Q := NoPanic Q) (W := w.drew) (Qf := fun a' => tailR P l.toArray w (NoPanic Q) (l.drop n) a' w) hsel hQ n
    (fun listed a' hs ht => by
      have := wpG_seq (P := P) (md := .any) (ops := l.toArray) (w0 := w) (Q := NoPanic Q) (l.drop n) n listed a' w.drew (fun j => by simp) (by rw [hd]; exact hs) hG (tailR_grow ht hG)
      rw [hd] at this
      exact this) (l.take n) 0 (Array.replicate l.toArray.size false) a (fun j hj => by
        have hj' : j < n := by rw [htl] at hj; exact hj
        simp [hj']) (by simpa using htl) (by rw [htl]; exact hlex) h
  rw [htl] at H
  have e : n + (l.toArray.size - n) = l.toArray.size := by simp; omega
  rw [e] at H
  exact wpG_any _ _ _ _ H
end Go.Proofs.Ytelmgipnlflmaaa
