/- A box of two numbers and a slice: laid by a call's result, in whatever order the region draws. No conditions. -/
import Derived.Test.YtijefbmnhcecmaaApp
import Derived.Deep.RegionHeld3
import Derived.Deep.DeepCutAuto
set_option linter.unusedSimpArgs false
set_option linter.unusedVariables false
namespace Go.Proofs.Ytijefbmnhcecmaa
open Go.RowKit

theorem Upd.setNew {lo up : Nat} {w wK : World} (h : Upd lo up w wK) {p : Addr} (hR : w.heap.size ≤ p.block) (v : Value) : Upd lo up w (wK.setCell p v) := by
  have hS : Upd p.block (p.block + 1) wK (wK.setCell p v) := (Upd.refl _ _ _).setCell (Nat.le_refl _) (Nat.lt_succ_self _) v
  exact ⟨hS.os.trans h.os, hS.tape.trans h.tape, hS.output.trans h.output, Nat.le_trans h.size hS.size, fun b hb ho => (hS.block b (Nat.lt_of_lt_of_le hb h.size) (.inl (by omega))).trans (h.block b hb ho)⟩
/-- Three cells, unfrozen. -/
def Rec3 (W : World) (g : Nat) (x y z : Value) : Prop :=
  W.cell? ⟨g, 0, none⟩ = some x ∧ W.cell? ⟨g, 1, none⟩ = some y ∧ W.cell? ⟨g, 2, none⟩ = some z ∧ W.frozen? ⟨g, 0, none⟩ = false ∧ W.frozen? ⟨g, 1, none⟩ = false ∧ W.frozen? ⟨g, 2, none⟩ = false
theorem Rec3.new (w : World) (x y z : Value) (T : TypeId) : Rec3 (w.alloc (.cells #[x, y, z] T)) w.heap.size x y z := ⟨by simp, by simp, by simp, by simp, by simp, by simp⟩
theorem Rec3.set {w : World} {g : Nat} {x y z : Value} (h : Rec3 w g x y z) (a b c : Value) : Rec3 (((w.setCell ⟨g, 0, none⟩ a).setCell ⟨g, 1, none⟩ b).setCell ⟨g, 2, none⟩ c) g a b c := by
  obtain ⟨h0, h1, h2, f0, f1, f2⟩ := h
  refine ⟨?_, ?_, ?_, ?_, ?_, ?_⟩
  · rw [World.cell?_setCell_other _ _ _ _ (by simp), World.cell?_setCell_other _ _ _ _ (by simp)]
    exact World.cell?_setCell_same _ _ _ h0
  · rw [World.cell?_setCell_other _ _ _ _ (by simp)]
    exact World.cell?_setCell_same _ _ _ ((World.cell?_setCell_other _ _ _ _ (by simp)).trans h1)
  · exact World.cell?_setCell_same _ _ _ ((World.cell?_setCell_other _ _ _ _ (by simp)).trans ((World.cell?_setCell_other _ _ _ _ (by simp)).trans h2))
  · simp [World.frozen?_setCell, f0]
  · simp [World.frozen?_setCell, f1]
  · simp [World.frozen?_setCell, f2]
theorem Rec3.below {w w' : World} {g B : Nat} {x y z : Value} (h : Rec3 w g x y z) (hb : Below B w w') (hg : g < B) : Rec3 w' g x y z :=
  ⟨(hb.cell (p := ⟨g, 0, none⟩) hg).trans h.1, (hb.cell (p := ⟨g, 1, none⟩) hg).trans h.2.1, (hb.cell (p := ⟨g, 2, none⟩) hg).trans h.2.2.1, (hb.frozen (p := ⟨g, 0, none⟩) hg).trans h.2.2.2.1, (hb.frozen (p := ⟨g, 1, none⟩) hg).trans h.2.2.2.2.1, (hb.frozen (p := ⟨g, 2, none⟩) hg).trans h.2.2.2.2.2⟩
theorem Rec3.lt {w : World} {g : Nat} {x y z : Value} (h : Rec3 w g x y z) : g < w.heap.size := World.block_lt_of_cell? w _ h.1
theorem Rec3.upd {w w' : World} {g lo up : Nat} {x y z : Value} (h : Rec3 w g x y z) (hu : Upd lo up w w') (ho : g < lo ∨ up ≤ g) : Rec3 w' g x y z := by
  have hb := hu.block g h.lt ho
  exact ⟨(World.cell?_of_block (w := w) (a := ⟨g, 0, none⟩) hb).trans h.1, (World.cell?_of_block (w := w) (a := ⟨g, 1, none⟩) hb).trans h.2.1, (World.cell?_of_block (w := w) (a := ⟨g, 2, none⟩) hb).trans h.2.2.1,
    (World.frozen?_of_block (w := w) (a := ⟨g, 0, none⟩) hb).trans h.2.2.2.1, (World.frozen?_of_block (w := w) (a := ⟨g, 1, none⟩) hb).trans h.2.2.2.2.1, (World.frozen?_of_block (w := w) (a := ⟨g, 2, none⟩) hb).trans h.2.2.2.2.2⟩
/-- What such a region leaves: a box at a block of its own that holds a fresh book. -/
def BoxRel (w : World) (b t : Int) (n : Nat) (zs : List Int) (s : Value) (wx : World) : Prop :=
  ∃ (g lo hi : Nat) (A : Option Addr) (c : Nat), s = .pointer (some ⟨g, 0, none⟩) ∧ w.heap.size ≤ g ∧ Rec3 wx g (.int .i64 b) (.int .i64 t) (.slice A n c) ∧ Sl wx lo hi 9 A n c zs ∧ w.heap.size ≤ lo ∧ hi ≤ wx.heap.size ∧ (g < lo ∨ hi ≤ g)
theorem BoxRel.new {w W : World} {b t : Int} {n c lo hi : Nat} {A : Option Addr} {zs : List Int} {T : TypeId} (hs : Sl W lo hi 9 A n c zs) (hw : w.heap.size ≤ W.heap.size) (hl : w.heap.size ≤ lo) (hh : hi ≤ W.heap.size) :
    BoxRel w b t n zs (.pointer (some ⟨W.heap.size, 0, none⟩)) (W.alloc (.cells #[.int .i64 b, .int .i64 t, .slice A n c] T)) :=
  ⟨W.heap.size, lo, hi, A, c, rfl, hw, Rec3.new _ _ _ _ _, hs.below ((Below.refl _ _).alloc (Nat.le_refl _) _) hh, hl, by simp; omega, .inr hh⟩
theorem BoxRel.set {w W : World} {b t : Int} {n c lo hi g : Nat} {A : Option Addr} {zs : List Int} {x y z : Value} (hz : Rec3 W g x y z) (hs : Sl W lo hi 9 A n c zs) (hg : w.heap.size ≤ g) (hl : g < lo) (hh : hi ≤ W.heap.size) :
    BoxRel w b t n zs (.pointer (some ⟨g, 0, none⟩)) (((W.setCell ⟨g, 0, none⟩ (.int .i64 b)).setCell ⟨g, 1, none⟩ (.int .i64 t)).setCell ⟨g, 2, none⟩ (.slice A n c)) := by
  refine ⟨g, lo, hi, A, c, rfl, hg, Rec3.set hz _ _ _, ?_, by omega, by simpa using hh, .inl hl⟩
  have hu : Upd g (g + 1) W (((W.setCell ⟨g, 0, none⟩ (.int .i64 b)).setCell ⟨g, 1, none⟩ (.int .i64 t)).setCell ⟨g, 2, none⟩ (.slice A n c)) :=
    (((Upd.refl g (g + 1) W).setCell (p := ⟨g, 0, none⟩) (Nat.le_refl _) (Nat.lt_succ_self _) _).setCell (p := ⟨g, 1, none⟩) (Nat.le_refl _) (Nat.lt_succ_self _) _).setCell (p := ⟨g, 2, none⟩) (Nat.le_refl _) (Nat.lt_succ_self _) _
  exact hs.upd hu (.inr hl)

end Go.Proofs.Ytijefbmnhcecmaa
