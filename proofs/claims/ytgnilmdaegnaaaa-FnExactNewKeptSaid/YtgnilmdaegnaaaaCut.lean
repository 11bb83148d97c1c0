/- Parts of slices of entries: what the operation yields. No conditions. -/
import Derived.Test.YtgnilmdaegnaaaaHelp
import Derived.Test.YtgnilmdaegnaaaaApp
set_option linter.unusedSimpArgs false
set_option linter.unusedVariables false
namespace Go.Proofs.Ytgnilmdaegnaaaa
open Go.RowKit

theorem infoEntryC : (Try.prog.info? 32).map (fun i => (i.zero, i.size, i.bytes)) = some (some (.agg #[.int .i64 0, .int .i64 0, .int .i64 0, .int .i64 0, .int .i64 0, .int .i64 0, .int .i64 0, .int .i64 0, .int .i64 0]), 9, 72) := by kernel_rfl
theorem run_front (A : Option Addr) (n c j : Nat) (hj : j ≤ c) (W : World) : (Instr.sliceAt 81 (.slice A n c) none (some (.int .i64 (j : Int))) none).run Try.prog W = .ok (.slice A j c) W := by
  have h2 : (j : Int) ≤ (c : Int) := by omega
  obtain ⟨i, h1, _, _, _⟩ := info_parts infoEntryC
  by_cases hc : c = 0
  · subst hc
    obtain rfl : j = 0 := by omega
    simp [Instr.sliceAt, Instr.slice, run_underlying Try.underlying81, Instr.sliceBounds, run_sliceBound, sizeOf, typeInfo, h1]
  · simp [Instr.sliceAt, Instr.slice, run_underlying Try.underlying81, Instr.sliceBounds, run_sliceBound, sizeOf, typeInfo, h1, h2, hc, hj]
    cases A <;> simp [Addr.add]
theorem run_tail (A : Option Addr) (n c j : Nat) (hj : j ≤ n) (W : World) : (Instr.sliceAt 81 (.slice A n c) (some (.int .i64 (j : Int))) none none).run Try.prog W = .ok (.slice (if c = j then A else A.map (·.add (j * 9))) (n - j) (c - j)) W := by
  have h2 : (j : Int) ≤ (n : Int) := by omega
  obtain ⟨i, h1, _, h3, _⟩ := info_parts infoEntryC
  simp [Instr.sliceAt, Instr.slice, run_underlying Try.underlying81, Instr.sliceBounds, run_sliceBound, sizeOf, typeInfo, h1, h2, h3, hj]
theorem Sl.cutFront {α : Type} {f : α → List Int} {k : Nat} {w : World} {lo hi : Nat} {A : Option Addr} {n c j : Nat} {l : List α} (h : Sl w lo hi k A n c (l.flatMap f)) (hk : ∀ x, (f x).length = k) (hj : j ≤ n) : Sl w lo hi k A j c ((l.take j).flatMap f) := by
  have hl := h.len
  refine ⟨?_, Nat.le_trans hj h.cap, h.big, fun hj0 => ?_⟩
  · rw [flat_take hk, List.length_take, hl]
    exact Nat.min_eq_left (Nat.mul_le_mul_right k hj)
  · obtain ⟨g, off, e, h1, h2, h3⟩ := h.lie (by omega)
    refine ⟨g, off, e, h1, h2, ?_⟩
    rw [flat_take hk]
    have := h3.sub 0 (j * k)
    rw [Nat.add_zero, List.drop_zero] at this
    exact this
theorem Sl.cutTail {α : Type} {f : α → List Int} {k : Nat} {w : World} {lo hi : Nat} {A : Option Addr} {n c j : Nat} {l : List α} (h : Sl w lo hi k A n c (l.flatMap f)) (hk : ∀ x, (f x).length = k) (hj : j ≤ n) : Sl w lo hi k (if c = j then A else A.map (·.add (j * k))) (n - j) (c - j) ((l.drop j).flatMap f) := by
  have hl := h.len
  have hc := h.cap
  have hb := h.big
  refine ⟨?_, by omega, by omega, fun hj0 => ?_⟩
  · rw [flat_drop hk, List.length_drop, hl, Nat.sub_mul]
  · obtain ⟨g, off, e, h1, h2, h3⟩ := h.lie (by omega)
    have hcj : ¬ c = j := by omega
    refine ⟨g, off + j * k, ?_, h1, h2, ?_⟩
    · rw [if_neg hcj, e]; simp [Addr.add]
    · rw [flat_drop hk]
      intro i z hz
      rw [List.getElem?_drop] at hz
      have := h3 (j * k + i) z hz
      rw [← Nat.add_assoc] at this
      exact this
/-- What lies behind place j. -/
theorem tail_at (A : Option Addr) (n c j : Nat) (hj : j ≤ n) : ∃ B, (∀ W, (Instr.sliceAt 81 (.slice A n c) (some (.int .i64 (j : Int))) none none).run Try.prog W = .ok (.slice B (n - j) (c - j)) W) ∧
    ∀ (W : World) (lo hi : Nat) (l : List EntryD), Sl W lo hi 9 A n c (l.flatMap EntryD.ints) → Sl W lo hi 9 B (n - j) (c - j) ((l.drop j).flatMap EntryD.ints) :=
  ⟨_, fun W => run_tail A n c j hj W, fun _ _ _ _ h => h.cutTail EntryD.ints_len hj⟩

end Go.Proofs.Ytgnilmdaegnaaaa
