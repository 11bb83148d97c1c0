/- Disks: what the laws' helpers do with them: conversions and comparisons. No conditions. -/
import Derived.Test.YtgnilmdaegnaaaaZDk0
import Derived.Lib.QuietBelow
import Derived.BigQuiet
set_option linter.unusedSimpArgs false
set_option linter.unusedVariables false
namespace Go.Proofs.Ytgnilmdaegnaaaa
open Go.RowKit
theorem infoI64S : (Try.prog.info? 28).map (fun i => (i.zero, i.size, i.bytes)) = some (some (.slice none 0 0), 1, 24) := by kernel_rfl
theorem infoWrite : (Try.prog.info? 135).map (fun i => (i.zero, i.size, i.bytes)) = some (some (.agg #[.int .i64 0, .slice none 0 0]), 2, 32) := by kernel_rfl
/-- m cells of block g are there, and may be written. -/
def There (w : World) (g m : Nat) : Prop := ∀ j, j < m → (w.cell? ⟨g, j, none⟩).isSome = true ∧ w.frozen? ⟨g, j, none⟩ = false
theorem There.new (w : World) (arr : Array Value) (e : TypeId) : There (w.alloc (.cells arr e)) w.heap.size arr.size := fun j hj => by
  refine ⟨?_, by simp⟩
  rw [World.cell?_alloc_new]
  simp [hj]
theorem There.below {w w' : World} {g m B : Nat} (h : There w g m) (hb : Below B w w') (hg : g < B) : There w' g m := fun j hj => by
  rw [hb.cell (p := ⟨g, j, none⟩) hg, hb.frozen (p := ⟨g, j, none⟩) hg]
  exact h j hj
theorem There.set {w : World} {g m : Nat} (h : There w g m) (i : Nat) (v : Value) : There (w.setCell ⟨g, i, none⟩ v) g m := fun j hj => by
  rw [World.frozen?_setCell]
  refine ⟨?_, (h j hj).2⟩
  by_cases e : i = j
  · subst e
    obtain ⟨u, hu⟩ := Option.isSome_iff_exists.1 (h i hj).1
    rw [World.cell?_setCell_same _ _ _ hu]
    rfl
  · rw [World.cell?_setCell_other _ _ _ _ (by simp <;> omega)]
    exact (h j hj).1
def RowsSoFar (w : World) (rows : List (List Int)) (m : Nat) (wr : World) : Prop :=
  ∀ (j : Nat) (r : List Int), j < m → rows[j]? = some r → ∃ Aj nj cj, wr.cell? ⟨w.heap.size, j, none⟩ = some (.slice Aj nj cj) ∧ Sl wr (w.heap.size + 1) wr.heap.size 1 Aj nj cj r
def WritesSoFar (w : World) (ws : List WriteD) (m : Nat) (wr : World) : Prop :=
  ∀ (j : Nat) (r : WriteD), j < m → ws[j]? = some r → ∃ Aj nj cj, wr.cell? ⟨w.heap.size, j * 2, none⟩ = some (.int .i64 r.at_) ∧ wr.cell? ⟨w.heap.size, j * 2 + 1, none⟩ = some (.slice Aj nj cj) ∧ Sl wr (w.heap.size + 1) wr.heap.size 1 Aj nj cj r.row
theorem RowsSoFar.step {w wr w1 : World} {rows : List (List Int)} {m : Nat} {r : List Int} {A1 : Option Addr} {n1 q1 : Nat} (h : RowsSoFar w rows m wr) (hr : rows[m]? = some r) (b1 : Below wr.heap.size wr w1) (hz : w.heap.size < wr.heap.size) (s1 : Sl w1 wr.heap.size w1.heap.size 1 A1 n1 q1 r) (ht : (w1.cell? ⟨w.heap.size, m, none⟩).isSome = true) :
    RowsSoFar w rows (m + 1) (w1.setCell ⟨w.heap.size, m, none⟩ (.slice A1 n1 q1)) := by
  have hu : Upd w.heap.size (w.heap.size + 1) w1 (w1.setCell ⟨w.heap.size, m, none⟩ (.slice A1 n1 q1)) := (Upd.refl _ _ _).setCell (p := ⟨w.heap.size, m, none⟩) (Nat.le_refl _) (show w.heap.size < w.heap.size + 1 by omega) _
  intro j r' hj hr'
  have hy := b1.size
  rcases Nat.lt_succ_iff_lt_or_eq.1 hj with h5 | rfl
  · obtain ⟨Aj, nj, cj, h1, h2⟩ := h j r' h5 hr'
    refine ⟨Aj, nj, cj, ?_, ((h2.below b1 (Nat.le_refl _)).upd hu (.inr (Nat.le_refl _))).mono (Nat.le_refl _) (by rw [World.heap_size_setCell]; exact hy)⟩
    rw [World.cell?_setCell_other _ _ _ _ (by simp <;> omega)]
    exact (b1.cell (p := ⟨w.heap.size, j, none⟩) hz).trans h1
  · rw [hr] at hr'
    injection hr' with hr'
    subst hr'
    obtain ⟨u, hu2⟩ := Option.isSome_iff_exists.1 ht
    exact ⟨A1, n1, q1, World.cell?_setCell_same _ _ _ hu2, (s1.upd hu (.inr (by omega))).mono (by omega) (by rw [World.heap_size_setCell]; exact Nat.le_refl _)⟩
theorem WritesSoFar.step {w wr w1 : World} {rows : List WriteD} {m : Nat} {r : WriteD} {A1 : Option Addr} {n1 q1 : Nat} (h : WritesSoFar w rows m wr) (hr : rows[m]? = some r) (b1 : Below wr.heap.size wr w1) (hz : w.heap.size < wr.heap.size) (s1 : Sl w1 wr.heap.size w1.heap.size 1 A1 n1 q1 r.row) (ht : (w1.cell? ⟨w.heap.size, m * 2, none⟩).isSome = true) (ht1 : (w1.cell? ⟨w.heap.size, m * 2 + 1, none⟩).isSome = true) :
    WritesSoFar w rows (m + 1) ((w1.setCell ⟨w.heap.size, m * 2, none⟩ (.int .i64 r.at_)).setCell ⟨w.heap.size, m * 2 + 1, none⟩ (.slice A1 n1 q1)) := by
  have hu : Upd w.heap.size (w.heap.size + 1) w1 ((w1.setCell ⟨w.heap.size, m * 2, none⟩ (.int .i64 r.at_)).setCell ⟨w.heap.size, m * 2 + 1, none⟩ (.slice A1 n1 q1)) := ((Upd.refl _ _ _).setCell (p := ⟨w.heap.size, m * 2, none⟩) (Nat.le_refl _) (show w.heap.size < w.heap.size + 1 by omega) _).setCell (p := ⟨w.heap.size, m * 2 + 1, none⟩) (Nat.le_refl _) (show w.heap.size < w.heap.size + 1 by omega) _
  intro j r' hj hr'
  have hy := b1.size
  rcases Nat.lt_succ_iff_lt_or_eq.1 hj with h5 | rfl
  · obtain ⟨Aj, nj, cj, h1, h2, h3⟩ := h j r' h5 hr'
    refine ⟨Aj, nj, cj, ?_, ?_, ((h3.below b1 (Nat.le_refl _)).upd hu (.inr (Nat.le_refl _))).mono (Nat.le_refl _) (by rw [World.heap_size_setCell, World.heap_size_setCell]; exact hy)⟩
    · rw [World.cell?_setCell_other _ _ _ _ (by simp <;> omega), World.cell?_setCell_other _ _ _ _ (by simp <;> omega)]
      exact (b1.cell (p := ⟨w.heap.size, j * 2, none⟩) hz).trans h1
    · rw [World.cell?_setCell_other _ _ _ _ (by simp <;> omega), World.cell?_setCell_other _ _ _ _ (by simp <;> omega)]
      exact (b1.cell (p := ⟨w.heap.size, j * 2 + 1, none⟩) hz).trans h2
  · rw [hr] at hr'
    injection hr' with hr'
    subst hr'
    obtain ⟨u, hu2⟩ := Option.isSome_iff_exists.1 ht
    obtain ⟨u1, hu3⟩ := Option.isSome_iff_exists.1 ht1
    refine ⟨A1, n1, q1, ?_, ?_, (s1.upd hu (.inr (by omega))).mono (by omega) (by rw [World.heap_size_setCell, World.heap_size_setCell]; exact Nat.le_refl _)⟩
    · rw [World.cell?_setCell_other _ _ _ _ (by simp)]
      exact World.cell?_setCell_same _ _ _ hu2
    · exact World.cell?_setCell_same _ _ _ ((World.cell?_setCell_other _ _ _ _ (by simp)).trans hu3)
end Go.Proofs.Ytgnilmdaegnaaaa
