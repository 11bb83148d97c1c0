/- The laws' code, an argument of bytes, opened; likeInts. No conditions. -/
import Derived.Test.YtgnilmdaegnaaaaZDice
set_option linter.unusedSimpArgs false
set_option linter.unusedVariables false
namespace Go.Proofs.Ytgnilmdaegnaaaa
open Go.RowKit Go.ChangeShapes Go.WideShapes Go.ChangeAt
section
variable {H : Type} {enc : TypeId × Value → H} {P : Program}
theorem byte_btw {z : Int} (h : (Lit.int .u8 z).wf = true) : 0 ≤ z ∧ z ≤ 255 := by
  simp only [Lit.wf, Bool.and_eq_true, decide_eq_true_eq] at h
  have h1 : IntKind.u8.min = 0 := rfl
  have h2 : IntKind.u8.max = 255 := rfl
  rw [h1, h2] at h
  exact h
/-- An argument that is a slice of bytes. -/
structure ArgB (w : World) (A : Option Addr) (n c : Nat) : Prop where
  cap : n ≤ c
  big : c ≤ 9223372036854775807
  lie : ∀ j, j < n → ∃ (a : Addr) (b : Int), A = some a ∧ a.block < w.heap.size ∧ 0 ≤ b ∧ b ≤ 255 ∧ w.cell? (a.add j) = some (.int .u8 b)
theorem ArgB.code {w : World} {A : Option Addr} {n c : Nat} (h : ArgB w A n c) (hn : n ≤ 4096) : CodeAt w w.heap.size A n c := ⟨h.cap, hn, h.lie⟩
theorem open_bytes {w : World} {sp : Nat → Bool} {held : Bool} {r : Reach} {b0 : Nat} {t e : TypeId} {v : Value} {d : DataW H} {p : List MemPlace} (hu : P.underlying t = some (.slice e)) (he : P.underlying e = some (.int .u8)) (hk : P.cellsOf e = 1)
    (hv : Value.okWide P w r b0 t v) (h : DataW.Trod enc P w 0 sp held t v d p) : ∃ A n c, v = .slice A n c ∧ ArgB w A n c := by
  obtain ⟨A0, n0, c0, rfl⟩ := okWide_slice hu hv
  refine ⟨A0, n0, c0, rfl, ?_⟩
  obtain ⟨fuel, ht⟩ := h
  rcases Deep.open_slice hu ht with ⟨e1, _⟩ | ⟨a, len, cap, mm, fu, D, Pl, e1, _, hlc, hcm, hmm, hx, hel⟩
  · simp [Value.cells] at e1
    obtain ⟨rfl, rfl, rfl⟩ := e1
    exact ⟨Nat.le_refl _, by omega, fun j hj => absurd hj (by omega)⟩
  · simp [Value.cells] at e1
    obtain ⟨rfl, rfl, rfl⟩ := e1
    have hle : n0 ≤ mm := by rw [hmm]; split <;> omega
    refine ⟨hlc, by unfold maxLen at hcm; omega, fun j hj => ?_⟩
    obtain ⟨cs', h1, h2⟩ := hel j (by omega)
    obtain ⟨z, rfl, h3, h4⟩ := DataW.trod_int he h2
    rw [hk, Nat.mul_one] at h1
    obtain ⟨_, hcl, hat⟩ := World.cells?_some h1
    have h5 := hat 0 (by omega)
    have h6 : (a.add j).add 0 = a.add j := by simp [Addr.add]
    rw [h6] at h5
    have h7 : w.cell? (a.add j) = some (.int .u8 z) := by rw [h5]; rfl
    have hb := World.block_lt_of_cell? w _ h7
    rw [add_block] at hb
    obtain ⟨b0, b1⟩ := byte_btw h4
    exact ⟨a, z, rfl, hb, b0, b1, h7⟩
end
end Go.Proofs.Ytgnilmdaegnaaaa
