/- Parts of slices of entries: what the operation yields. No conditions. -/
import Derived.Test.YtgnilmdaegnaaaaZHelp
import Derived.Test.YtgnilmdaegnaaaaZApp
set_option linter.unusedSimpArgs false
set_option linter.unusedVariables false
namespace Go.Proofs.Ytgnilmdaegnaaaa
open Go.RowKit
theorem infoEntryC : (Try.prog.info? 32).map (fun i => (i.zero, i.size, i.bytes)) = some (some (.agg #[.int .i64 0, .int .i64 0, .int .i64 0, .int .i64 0, .int .i64 0, .int .i64 0, .int .i64 0, .int .i64 0, .int .i64 0]), 9, 72) := by kernel_rfl
theorem run_front (A : Option Addr) (n c j : Nat) (hj : j ≤ c) (W : World) : (Instr.sliceAt 81 (.slice A n c) none (some (.int .i64 (j : Int))) none).run Try.prog W = .ok (.slice A j c) W := by
  have h2 : (j : Int) ≤ (c : Int) := by omega
  obtain ⟨i, h1, _, _, _⟩ := info_parts infoEntryC
  by_cases hc : c = 0
  · subst hc
    obtain rfl : j = 0 := by omega
    simp [Instr.sliceAt, Instr.slice, run_underlying Try.underlying81, Instr.sliceBounds, run_sliceBound, sizeOf, typeInfo, h1]
  · simp [Instr.sliceAt, Instr.slice, run_underlying Try.underlying81, Instr.sliceBounds, run_sliceBound, sizeOf, typeInfo, h1, h2, hc, hj]
    cases A <;> simp [Addr.add]
theorem Sl.cutFront {α : Type} {f : α → List Int} {k : Nat} {w : World} {lo hi : Nat} {A : Option Addr} {n c j : Nat} {l : List α} (h : Sl w lo hi k A n c (l.flatMap f)) (hk : ∀ x, (f x).length = k) (hj : j ≤ n) : Sl w lo hi k A j c ((l.take j).flatMap f) := by
  have hl := h.len
  refine ⟨?_, Nat.le_trans hj h.cap, h.big, fun hj0 => ?_⟩
  · rw [flat_take hk, List.length_take, hl]
    exact Nat.min_eq_left (Nat.mul_le_mul_right k hj)
  · obtain ⟨g, off, e, h1, h2, h3⟩ := h.lie (by omega)
    refine ⟨g, off, e, h1, h2, ?_⟩
    rw [flat_take hk]
    have := h3.sub 0 (j * k)
    rw [Nat.add_zero, List.drop_zero] at this
    exact this
end Go.Proofs.Ytgnilmdaegnaaaa
