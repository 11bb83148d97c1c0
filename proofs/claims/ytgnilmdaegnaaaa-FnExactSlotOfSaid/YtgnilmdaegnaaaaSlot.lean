/- Sectors of entries: what the program's and the reference's functions return. No conditions. -/
import Derived.Test.YtgnilmdaegnaaaaScal
set_option linter.unusedSimpArgs false
set_option linter.unusedVariables false
namespace Go.Proofs.Ytgnilmdaegnaaaa
open Go.RowKit

def slotOf (x : Int) : Int := if btw x 1 2000 then 2 + x % 20 else -1
set_option maxRecDepth 100000 in
set_option maxHeartbeats 400000 in
theorem slotOf1_any (x : Int) (w : World) (h0 : 0 ≤ x) (h1 : x ≤ 1000000) : Calls Try.prog 71 #[.int .i64 x] w fun e w' => e = .returned (.int .i64 (2 + x % 20)) ∧ w = w' := by
  go_enter Try.func71, Try.ntmps71
  go_wp2
  go_ret
  exact ⟨rfl, rfl⟩
set_option maxRecDepth 100000 in
set_option maxHeartbeats 400000 in
theorem slotOf_any (x : Int) (w : World) : Calls Try.prog 15 #[.int .i64 x] w fun e w' => e = .returned (.int .i64 (slotOf x)) ∧ w = w' := by
  cases h : btw x 1 2000 with
  | false =>
    have e : slotOf x = -1 := by simp [slotOf, h]
    rw [e]
    clear e
    go_enter Try.func15, Try.ntmps15
    go_wp2_with (go_at_call 70; refine (indexOk_any _ _).mono ?_; rintro e w' ⟨rfl, rfl⟩)
    go_ret
    exact ⟨rfl, rfl⟩
  | true =>
    have e : slotOf x = 2 + x % 20 := by simp [slotOf, h]
    obtain ⟨h0, h1⟩ := btw_iff.1 h
    rw [e]
    clear e
    go_enter Try.func15, Try.ntmps15
    go_wp2_with (first | (go_at_call 70; refine (indexOk_any _ _).mono ?_; rintro e w' ⟨rfl, rfl⟩) | (go_at_call 71; refine (slotOf1_any _ _ (by omega) (by omega)).mono ?_; rintro e w' ⟨rfl, rfl⟩))
    go_ret
    exact ⟨rfl, rfl⟩
set_option maxRecDepth 100000 in
set_option maxHeartbeats 400000 in
theorem sSlotOf_any (x : Int) (w : World) : Calls Try.prog 14 #[.int .i64 x] w fun e w' => e = .returned (.int .i64 (slotOf x)) ∧ w = w' := by
  cases h : btw x 1 2000 with
  | false =>
    have e : slotOf x = -1 := by simp [slotOf, h]
    rw [e]
    clear e
    go_enter Try.func14, Try.ntmps14
    go_wp2_with (go_at_call 69; refine (l7Index_any _ _).mono ?_; rintro e w' ⟨rfl, rfl⟩)
    go_ret
    exact ⟨rfl, rfl⟩
  | true =>
    have e : slotOf x = 2 + x % 20 := by simp [slotOf, h]
    obtain ⟨h0, h1⟩ := btw_iff.1 h
    rw [e]
    clear e
    go_enter Try.func14, Try.ntmps14
    go_wp2_with (go_at_call 69; refine (l7Index_any _ _).mono ?_; rintro e w' ⟨rfl, rfl⟩)
    go_ret
    exact ⟨rfl, rfl⟩

end Go.Proofs.Ytgnilmdaegnaaaa
