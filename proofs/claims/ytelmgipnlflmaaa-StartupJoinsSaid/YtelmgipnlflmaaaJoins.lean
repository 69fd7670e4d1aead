/-
  Package startup: Join; the law StartupJoins. Conditions: those that stand ahead of each.
-/
import Derived.Test.YtelmgipnlflmaaaAlive21
import Derived.Test.YtelmgipnlflmaaaTable3
import Derived.Laws.Small
import Derived.OpenShut
namespace Go.Proofs.Ytelmgipnlflmaaa
open Go.RowKit

def absM (a : Int) : Int := if a < wrap64 (-a) then wrap64 (-a) else a
theorem absM_iff {a : Int} (h : I64 a) : timeB (absM a) = true ↔ -4294967296 ≤ a ∧ a ≤ 4294967296 := by
  obtain ⟨h1, h2⟩ := h
  rw [timeB_iff]
  unfold absM
  by_cases e : a = -9223372036854775808
  · subst e
    have hw : wrap64 (-(-9223372036854775808)) = -9223372036854775808 := by decide +kernel
    rw [hw]
    simp
  · rw [IntWalk.wrap64_in (-a) ⟨by omega, by omega⟩]
    split <;> omega
set_option maxRecDepth 100000 in
set_option maxHeartbeats 1000000 in
theorem Join_no (p : Plan) (r s a : Int) (h : ¬ p.has r s) (w : World) :
    Calls Try.prog 20 #[planV p, placeV r s, .int .i64 a] w fun e w' => e = .returned (.tuple #[.int .i64 0, .int .i64 210]) ∧ Grow w w' := by
  have hE := Lib.hid (Expected_no p r s h)
  clear h
  go_enter Try.func20, Try.ntmps20
  go_wp2_with (first
    | (go_at_call 21; refine (hE.out _).mono ?_; rintro e w1 ⟨rfl, hg⟩)
    | (refine wpList_isload 23 _ rfl ?_; refine wpList_load_rowg 23 _ rfl rfl _ rfl _ _ _ _ (by first | exact row_new _ _ | exact row_old (row_new _ _) | exact row_old (row_old (row_new _ _)) | exact row_old (row_old (row_old (row_new _ _))) | assumption) Try.underlying23 rfl (by kernel_rfl) ?_))
  go_ret2
  exact ⟨rfl, (((Grow.refl _).alloc _).alloc _).trans hg⟩
set_option maxRecDepth 100000 in
set_option maxHeartbeats 1000000 in
theorem Join_far (p : Plan) (r s a : Int) (h : p.has r s) (ha : timeB (absM a) = false) (w : World) :
    Calls Try.prog 20 #[planV p, placeV r s, .int .i64 a] w fun e w' => e = .returned (.tuple #[.int .i64 0, .int .i64 210]) ∧ Grow w w' := by
  have hE := Lib.hid (Expected_yes p r s h)
  have hT := time_any (absM a)
  rw [ha] at hT
  unfold absM at hT
  clear h ha
  by_cases hlt : a < wrap64 (-a)
  · rw [if_pos hlt] at hT
    have HT := Lib.hid hT
    clear hT
    go_enter Try.func20, Try.ntmps20
    go_wp2_with (first
      | (go_at_call 21; refine (hE.out _).mono ?_; rintro e w1 ⟨rfl, hg⟩)
      | (go_at_call 38; refine (HT.out _).mono ?_; rintro e w' ⟨rfl, rfl⟩)
      | (refine wpList_isload 23 _ rfl ?_; refine wpList_load_rowg 23 _ rfl rfl _ rfl _ _ _ _ (by first | exact row_new _ _ | exact row_old (row_new _ _) | exact row_old (row_old (row_new _ _)) | exact row_old (row_old (row_old (row_new _ _))) | assumption) Try.underlying23 rfl (by kernel_rfl) ?_))
    go_ret2
    exact ⟨rfl, (((Grow.refl _).alloc _).alloc _).trans hg⟩
  · rw [if_neg hlt] at hT
    have HT := Lib.hid hT
    clear hT
    go_enter Try.func20, Try.ntmps20
    go_wp2_with (first
      | (go_at_call 21; refine (hE.out _).mono ?_; rintro e w1 ⟨rfl, hg⟩)
      | (go_at_call 38; refine (HT.out _).mono ?_; rintro e w' ⟨rfl, rfl⟩)
      | (refine wpList_isload 23 _ rfl ?_; refine wpList_load_rowg 23 _ rfl rfl _ rfl _ _ _ _ (by first | exact row_new _ _ | exact row_old (row_new _ _) | exact row_old (row_old (row_new _ _)) | exact row_old (row_old (row_old (row_new _ _))) | assumption) Try.underlying23 rfl (by kernel_rfl) ?_))
    go_ret2
    exact ⟨rfl, (((Grow.refl _).alloc _).alloc _).trans hg⟩
set_option maxRecDepth 100000 in
set_option maxHeartbeats 1000000 in
theorem Join_yes (p : Plan) (r s a : Int) (h : p.has r s) (ha : timeB (absM a) = true) (hi : I64 a) (w : World) :
    Calls Try.prog 20 #[planV p, placeV r s, .int .i64 a] w fun e w' => e = .returned (.tuple #[.int .i64 (p.exp r s - a), .int .i64 0]) ∧ Grow w w' := by
  have hE := Lib.hid (Expected_yes p r s h)
  have hT := time_any (absM a)
  rw [ha] at hT
  unfold absM at hT
  obtain ⟨a1, a2⟩ := (absM_iff hi).1 ha
  obtain ⟨b1, b2⟩ := exp_bd h
  have w1 := iw (p.exp r s - a) (by omega) (by omega)
  clear h ha a1 a2 b1 b2 hi
  by_cases hlt : a < wrap64 (-a)
  · rw [if_pos hlt] at hT
    have HT := Lib.hid hT
    clear hT
    go_enter Try.func20, Try.ntmps20
    go_wp2_with (first
      | (go_at_call 21; refine (hE.out _).mono ?_; rintro e w1 ⟨rfl, hg⟩)
      | (go_at_call 38; refine (HT.out _).mono ?_; rintro e w' ⟨rfl, rfl⟩)
      | (refine wpList_isload 23 _ rfl ?_; refine wpList_load_rowg 23 _ rfl rfl _ rfl _ _ _ _ (by first | exact row_new _ _ | exact row_old (row_new _ _) | exact row_old (row_old (row_new _ _)) | exact row_old (row_old (row_old (row_new _ _))) | assumption) Try.underlying23 rfl (by kernel_rfl) ?_))
    go_ret2
    exact ⟨rfl, (((Grow.refl _).alloc _).alloc _).trans hg⟩
  · rw [if_neg hlt] at hT
    have HT := Lib.hid hT
    clear hT
    go_enter Try.func20, Try.ntmps20
    go_wp2_with (first
      | (go_at_call 21; refine (hE.out _).mono ?_; rintro e w1 ⟨rfl, hg⟩)
      | (go_at_call 38; refine (HT.out _).mono ?_; rintro e w' ⟨rfl, rfl⟩)
      | (refine wpList_isload 23 _ rfl ?_; refine wpList_load_rowg 23 _ rfl rfl _ rfl _ _ _ _ (by first | exact row_new _ _ | exact row_old (row_new _ _) | exact row_old (row_old (row_new _ _)) | exact row_old (row_old (row_old (row_new _ _))) | assumption) Try.underlying23 rfl (by kernel_rfl) ?_))
    go_ret2
    exact ⟨rfl, (((Grow.refl _).alloc _).alloc _).trans hg⟩

set_option maxRecDepth 100000 in
set_option maxHeartbeats 1000000 in
theorem joins_no (p : Plan) (r s a : Int) (h : ¬ p.has r s) (w : World) :
    Calls Try.prog 5 #[planV p, placeV r s, .int .i64 a] w fun e w' => e = .returned (.bool true) ∧ Grow w w' := by
  have hA := Lib.hid alive21_any
  have hJ := Lib.hid (Join_no p r s a h)
  have hE := Lib.hid (Expected_no p r s h)
  have hr0 := row_old (o' := .cells #[.int .i64 r, .int .i64 s] 52) (row_new w (.cells (planC p) 23))
  have hp0 := row_new (w.alloc (.cells (planC p) 23)) (.cells #[.int .i64 r, .int .i64 s] 52)
  simp only [World.size_alloc] at hp0
  clear h
  go_enter Try.func5, Try.ntmps5
  go_wp2_with (first
    | (go_at_call 8; refine (hA.out _).mono ?_; rintro e w1 ⟨rfl, hg1⟩; have hr1 := hg1.row hr0; have hp1 := hg1.row hp0)
    | (go_at_call 20; refine (hJ.out _).mono ?_; rintro e w2 ⟨rfl, hg2⟩; have hr2 := hg2.row hr1; have hp2 := hg2.row hp1)
    | (go_at_call 21; refine (hE.out _).mono ?_; rintro e w3 ⟨rfl, hg3⟩)
    | (refine wpList_isload 23 _ rfl ?_; refine wpList_load_rowg 23 _ rfl rfl _ rfl _ _ _ _ (by first | exact row_new _ _ | exact row_old (row_new _ _) | exact row_old (row_old (row_new _ _)) | exact row_old (row_old (row_old (row_new _ _))) | assumption) Try.underlying23 rfl (by kernel_rfl) ?_) | (refine wpList_isload 52 _ rfl ?_; refine wpList_load_rowg 52 _ rfl rfl _ rfl _ _ _ _ (by first | exact row_new _ _ | exact row_old (row_new _ _) | exact row_old (row_old (row_new _ _)) | exact row_old (row_old (row_old (row_new _ _))) | assumption) Try.underlying52 rfl (by kernel_rfl) ?_))
  go_ret
  exact ⟨rfl, (((((Grow.refl _).alloc _).alloc _).trans hg1).trans hg2).trans hg3⟩
set_option maxRecDepth 100000 in
set_option maxHeartbeats 1000000 in
theorem joins_far (p : Plan) (r s a : Int) (h : p.has r s) (ha : timeB (absM a) = false) (hi : I64 a) (w : World) :
    Calls Try.prog 5 #[planV p, placeV r s, .int .i64 a] w fun e w' => e = .returned (.bool true) ∧ Grow w w' := by
  have hA := Lib.hid alive21_any
  have hJ := Lib.hid (Join_far p r s a h ha)
  have hE := Lib.hid (Expected_yes p r s h)
  have hn : ¬ (-4294967296 ≤ a ∧ a ≤ 4294967296) := fun hh => by
    rw [(absM_iff hi).2 hh] at ha
    cases ha
  have hr0 := row_old (o' := .cells #[.int .i64 r, .int .i64 s] 52) (row_new w (.cells (planC p) 23))
  have hp0 := row_new (w.alloc (.cells (planC p) 23)) (.cells #[.int .i64 r, .int .i64 s] 52)
  simp only [World.size_alloc] at hp0
  clear h ha hi
  have hab : 4294967296 < a ∨ a < -4294967296 := by omega
  clear hn
  rcases hab with hb | hb
  all_goals
    go_enter Try.func5, Try.ntmps5
    go_wp2_with (first
      | (go_at_call 8; refine (hA.out _).mono ?_; rintro e w1 ⟨rfl, hg1⟩; have hr1 := hg1.row hr0; have hp1 := hg1.row hp0)
      | (go_at_call 20; refine (hJ.out _).mono ?_; rintro e w2 ⟨rfl, hg2⟩; have hr2 := hg2.row hr1; have hp2 := hg2.row hp1)
      | (go_at_call 21; refine (hE.out _).mono ?_; rintro e w3 ⟨rfl, hg3⟩)
      | (refine wpList_isload 23 _ rfl ?_; refine wpList_load_rowg 23 _ rfl rfl _ rfl _ _ _ _ (by first | exact row_new _ _ | exact row_old (row_new _ _) | exact row_old (row_old (row_new _ _)) | exact row_old (row_old (row_old (row_new _ _))) | assumption) Try.underlying23 rfl (by kernel_rfl) ?_) | (refine wpList_isload 52 _ rfl ?_; refine wpList_load_rowg 52 _ rfl rfl _ rfl _ _ _ _ (by first | exact row_new _ _ | exact row_old (row_new _ _) | exact row_old (row_old (row_new _ _)) | exact row_old (row_old (row_old (row_new _ _))) | assumption) Try.underlying52 rfl (by kernel_rfl) ?_))
    go_ret
    exact ⟨rfl, (((((Grow.refl _).alloc _).alloc _).trans hg1).trans hg2).trans hg3⟩
set_option maxRecDepth 100000 in
set_option maxHeartbeats 1000000 in
theorem joins_yes (p : Plan) (r s a : Int) (h : p.has r s) (ha : timeB (absM a) = true) (hi : I64 a) (w : World) :
    Calls Try.prog 5 #[planV p, placeV r s, .int .i64 a] w fun e w' => e = .returned (.bool true) ∧ Grow w w' := by
  have hA := Lib.hid alive21_any
  have hJ := Lib.hid (Join_yes p r s a h ha hi)
  have hE := Lib.hid (Expected_yes p r s h)
  obtain ⟨a1, a2⟩ := (absM_iff hi).1 ha
  obtain ⟨b1, b2⟩ := exp_bd h
  have hs : a + (p.exp r s - a) = p.exp r s := by omega
  have hr0 := row_old (o' := .cells #[.int .i64 r, .int .i64 s] 52) (row_new w (.cells (planC p) 23))
  have hp0 := row_new (w.alloc (.cells (planC p) 23)) (.cells #[.int .i64 r, .int .i64 s] 52)
  simp only [World.size_alloc] at hp0
  clear h ha hi
  go_enter Try.func5, Try.ntmps5
  go_wp2_with (first
    | (go_at_call 8; refine (hA.out _).mono ?_; rintro e w1 ⟨rfl, hg1⟩; have hr1 := hg1.row hr0; have hp1 := hg1.row hp0)
    | (go_at_call 20; refine (hJ.out _).mono ?_; rintro e w2 ⟨rfl, hg2⟩; have hr2 := hg2.row hr1; have hp2 := hg2.row hp1)
    | (go_at_call 21; refine (hE.out _).mono ?_; rintro e w3 ⟨rfl, hg3⟩)
    | (refine wpList_isload 23 _ rfl ?_; refine wpList_load_rowg 23 _ rfl rfl _ rfl _ _ _ _ (by first | exact row_new _ _ | exact row_old (row_new _ _) | exact row_old (row_old (row_new _ _)) | exact row_old (row_old (row_old (row_new _ _))) | assumption) Try.underlying23 rfl (by kernel_rfl) ?_) | (refine wpList_isload 52 _ rfl ?_; refine wpList_load_rowg 52 _ rfl rfl _ rfl _ _ _ _ (by first | exact row_new _ _ | exact row_old (row_new _ _) | exact row_old (row_old (row_new _ _)) | exact row_old (row_old (row_old (row_new _ _))) | assumption) Try.underlying52 rfl (by kernel_rfl) ?_))
  go_ret
  exact ⟨rfl, (((((Grow.refl _).alloc _).alloc _).trans hg1).trans hg2).trans hg3⟩
theorem joins_any (p : Plan) (_ : p.Wf) (r s : Int) (_ : I64 r ∧ I64 s) (a : Int) (ha : (Lit.int .i64 a).wf = true) (w : World) :
    Calls Try.prog 5 #[planV p, placeV r s, .int .i64 a] w fun e w' => e = .returned (.bool true) ∧ Grow w w' := by
  have hi : I64 a := bounds_i64 ha
  by_cases h : p.has r s
  · cases hb : timeB (absM a)
    · exact joins_far p r s a h hb hi w
    · exact joins_yes p r s a h hb hi w
  · exact joins_no p r s a h w
end Go.Proofs.Ytelmgipnlflmaaa
