/-
  vesperslaw16.WindowNames: the walk. No condition.
-/
import Derived.Test.YtelmgipnlflmaaaAlive16
namespace Go.Proofs.Ytelmgipnlflmaaa
open Go.RowKit Go.Shelf

theorem ints_of_row {w : World} {b : Nat} {t : TypeId} {fr : Nat × Nat} (xs : List Int) (h : w.heap[b]? = some (.cells (xs.map (Value.int .i64)).toArray t fr)) : IntsAt w (some ⟨b, 0, none⟩) xs.length (fun k => xs.getD k 0) := by
  intro k hk
  refine ⟨b, 0, rfl, ?_⟩
  rw [Nat.zero_add, cell_of_row w b k _ _ _ h]
  simp [hk]
theorem keep16_a (b : Nat) (w : World) (h : w.heap[b]? = some (.cells #[.int .i64 153, .int .i64 154, .int .i64 250, .int .i64 346, .int .i64 347] 2 (0, 0))) :
    Calls Try.prog 24 #[planV (fitP 4), placeV 0 0, .slice (some ⟨b, 0, none⟩) 5 5] w fun e w' => ∃ a c, e = .returned (.tuple #[.int .i64 0, .slice a 3 c]) ∧ IntsAt w' a 3 (fun k => ([-96, 0, 96] : List Int).getD k 0) ∧ Grow w w' := by
  have hz : IntsAt w (some ⟨b, 0, none⟩) 5 (fun k => ([153, 154, 250, 346, 347] : List Int).getD k 0) := ints_of_row [153, 154, 250, 346, 347] h
  have hk : keepL (fitP 4) 0 0 (fun k => ([153, 154, 250, 346, 347] : List Int).getD k 0) 5 = [-96, 0, 96] := by decide
  refine (Keep_yes (fitP 4) 0 0 (has16 0 (by decide) (by decide)) _ 5 5 (by omega) _ w hz).mono ?_
  rintro e w' ⟨hg, (⟨v, rfl, _, ho⟩ | ⟨_, j, hj, hv⟩)⟩
  · rw [hk] at ho
    obtain ⟨a, c, rfl, hI⟩ := IntsAt.own ho
    exact ⟨a, c, rfl, hI, hg⟩
  · exfalso
    have : ∀ j, j < 5 → vdN (fitP 4) 0 0 (([153, 154, 250, 346, 347] : List Int).getD j 0) ≠ 0 := by decide
    exact this j hj hv
theorem keep16_b (w : World) :
    Calls Try.prog 24 #[planV (fitP 4), placeV 0 0, .slice none 0 0] w fun e w' => ∃ a c, e = .returned (.tuple #[.int .i64 0, .slice a 0 c]) ∧ Grow w w' := by
  refine (Keep_yes (fitP 4) 0 0 (has16 0 (by decide) (by decide)) none 0 0 (by omega) (fun _ => 0) w (fun k hk => by omega)).mono ?_
  rintro e w' ⟨hg, (⟨v, rfl, _, ho⟩ | ⟨_, j, hj, hv⟩)⟩
  · obtain ⟨a, c, rfl, hI⟩ := IntsAt.own (xs := []) ho
    exact ⟨a, c, rfl, hg⟩
  · omega
theorem keep16_d (b : Nat) (w : World) (h : w.heap[b]? = some (.cells #[.int .i64 250, .int .i64 1152921504606846977] 2 (0, 0))) :
    Calls Try.prog 24 #[planV (fitP 4), placeV 0 0, .slice (some ⟨b, 0, none⟩) 2 2] w fun e w' => e = .returned (.tuple #[.int .i64 160, .slice none 0 0]) ∧ Grow w w' := by
  have hz : IntsAt w (some ⟨b, 0, none⟩) 2 (fun k => ([250, 1152921504606846977] : List Int).getD k 0) := ints_of_row [250, 1152921504606846977] h
  refine (Keep_yes (fitP 4) 0 0 (has16 0 (by decide) (by decide)) _ 2 2 (by omega) _ w hz).mono ?_
  rintro e w' ⟨hg, (⟨v, rfl, hall, ho⟩ | ⟨rfl, _⟩)⟩
  · exact absurd (by decide) (hall 1 (by omega))
  · exact ⟨rfl, hg⟩
theorem keep16_c (b : Nat) (w : World) :
    Calls Try.prog 24 #[planV (fitP 4), placeV 0 9, .slice (some ⟨b, 0, none⟩) 1 1] w fun e w' => e = .returned (.tuple #[.int .i64 160, .slice none 0 0]) ∧ Grow w w' :=
  Keep_no (fitP 4) 0 9 (by decide) _ _ _ w
theorem judge16_a (w : World) : Calls Try.prog 25 #[planV (fitP 4), placeV 0 4, .int .i64 0] w fun e w' => e = .returned (.tuple #[.int .i64 0, .int .i64 0, .int .i64 160]) ∧ Grow w w' := Judge_no (fitP 4) 0 4 0 (by decide) w
theorem judge16_b (w : World) : Calls Try.prog 25 #[planV (fitP 4), placeV 0 0, .int .i64 (-4294967297)] w fun e w' => e = .returned (.tuple #[.int .i64 0, .int .i64 0, .int .i64 160]) ∧ Grow w w' := Judge_out (fitP 4) 0 0 (-4294967297) (has16 0 (by decide) (by decide)) (by decide) w
def zeroP : Plan := ⟨0, 0, 0, 0, 0, 0, 0, 0, 0, 0, 0, 0, 0, 0, 0, 0⟩
theorem judge16_c (w : World) : Calls Try.prog 25 #[planV zeroP, placeV 0 0, .int .i64 0] w fun e w' => e = .returned (.tuple #[.int .i64 0, .int .i64 0, .int .i64 160]) ∧ Grow w w' := Judge_no zeroP 0 0 0 (by decide) w
theorem judge16_d (w : World) : Calls Try.prog 25 #[planV (fitP 4), placeV 0 0, .int .i64 (-4294967296)] w fun e w' => e = .returned (.tuple #[.int .i64 1, .int .i64 (-4294967546), .int .i64 0]) ∧ Grow w w' := by
  have h := Judge_in (fitP 4) 0 0 (-4294967296) (has16 0 (by decide) (by decide)) (by decide) w
  have e1 : (fitP 4).exp 0 0 = 250 := by decide
  have e2 : (fitP 4).window = 96 := by decide
  rw [e1, e2] at h
  exact h
theorem place16_a (w : World) : Calls Try.prog 23 #[planV (fitP 4), .int .i64 300] w fun e w' => e = .returned (.tuple #[placeV 0 0, .bool true]) ∧ Grow w w' := Place_in (fitP 4) 300 ⟨ok16, by decide, by decide⟩ (by decide) w
theorem place16_b (w : World) : Calls Try.prog 23 #[planV (fitP 4), .int .i64 400] w fun e w' => e = .returned (.tuple #[placeV 0 0, .bool false]) ∧ Grow w w' := Place_out (fitP 4) 400 ⟨ok16, by decide, by decide⟩ (by decide) w
theorem place16_c (w : World) : Calls Try.prog 23 #[planV (fitP 4), .int .i64 762] w fun e w' => e = .returned (.tuple #[placeV 0 1, .bool true]) ∧ Grow w w' := Place_in (fitP 4) 762 ⟨ok16, by decide, by decide⟩ (by decide) w
theorem place16_d (w : World) : Calls Try.prog 23 #[planV (fitP 4), .int .i64 (-1)] w fun e w' => e = .returned (.tuple #[placeV 0 0, .bool false]) ∧ Grow w w' := Place_no (fitP 4) (-1) (fun h => absurd h.2.1 (by decide)) w
end Go.Proofs.Ytelmgipnlflmaaa
