/- Rows of rows, and rows of waiting writes: words for memory. No conditions. -/
import Derived.Test.YtgnilmdaegnaaaaZHelp1
import Derived.Deep.SlicePairs
import Derived.Lib.SmallJoins
set_option linter.unusedSimpArgs false
set_option linter.unusedVariables false
namespace Go.Proofs.Ytgnilmdaegnaaaa
open Go.RowKit
@[ext] structure WriteD where
  at_ : Int
  row : List Int
instance : Inhabited WriteD := ⟨⟨0, []⟩⟩
/-- A slice of slices of numbers that came in. -/
structure ArgR (w : World) (A : Option Addr) (n c : Nat) (rows : List (List Int)) : Prop where
  len : rows.length = n
  cap : n ≤ c
  big : c ≤ 9223372036854775807
  lie : ∀ (j : Nat) (r : List Int), rows[j]? = some r → ∃ (a : Addr) (Aj : Option Addr) (nj cj : Nat), A = some a ∧ a.block < w.heap.size ∧ w.cell? (a.add j) = some (.slice Aj nj cj) ∧ ArgSl w 1 Aj nj cj r
/-- A slice of writes that came in. -/
structure ArgW (w : World) (A : Option Addr) (n c : Nat) (ws : List WriteD) : Prop where
  len : ws.length = n
  cap : n ≤ c
  big : c ≤ 9223372036854775807
  lie : ∀ (j : Nat) (r : WriteD), ws[j]? = some r → ∃ (a : Addr) (Aj : Option Addr) (nj cj : Nat), A = some a ∧ a.block < w.heap.size ∧ w.cell? (a.add (j * 2)) = some (.int .i64 r.at_) ∧ w.cell? ⟨(a.add (j * 2)).block, (a.add (j * 2)).off + 1, none⟩ = some (.slice Aj nj cj) ∧ ArgSl w 1 Aj nj cj r.row
theorem ArgR.below {w w' : World} {A : Option Addr} {n c : Nat} {rows : List (List Int)} (h : ArgR w A n c rows) (hb : Below w.heap.size w w') : ArgR w' A n c rows :=
  ⟨h.len, h.cap, h.big, fun j r hr => by
    obtain ⟨a, Aj, nj, cj, e, h1, h2, h3⟩ := h.lie j r hr
    exact ⟨a, Aj, nj, cj, e, Nat.lt_of_lt_of_le h1 hb.size, (hb.cell (p := a.add j) (by rw [add_block]; exact h1)).trans h2, h3.below hb⟩⟩
theorem ArgW.below {w w' : World} {A : Option Addr} {n c : Nat} {ws : List WriteD} (h : ArgW w A n c ws) (hb : Below w.heap.size w w') : ArgW w' A n c ws :=
  ⟨h.len, h.cap, h.big, fun j r hr => by
    obtain ⟨a, Aj, nj, cj, e, h1, h2, h3, h4⟩ := h.lie j r hr
    exact ⟨a, Aj, nj, cj, e, Nat.lt_of_lt_of_le h1 hb.size, (hb.cell (p := a.add (j * 2)) (by rw [add_block]; exact h1)).trans h2, (hb.cell (p := ⟨(a.add (j * 2)).block, (a.add (j * 2)).off + 1, none⟩) (by simp only; rw [add_block]; exact h1)).trans h3, h4.below hb⟩⟩
/-- A slice of slices of numbers, all of it in blocks from lo up to hi. -/
structure SlR (w : World) (lo hi : Nat) (A : Option Addr) (n c : Nat) (rows : List (List Int)) : Prop where
  len : rows.length = n
  cap : n ≤ c
  big : c ≤ 9223372036854775807
  lie : ∀ (j : Nat) (r : List Int), rows[j]? = some r → ∃ (g off : Nat) (Aj : Option Addr) (nj cj : Nat), A = some ⟨g, off, none⟩ ∧ lo ≤ g ∧ g < hi ∧ w.cell? ⟨g, off + j, none⟩ = some (.slice Aj nj cj) ∧ Sl w lo hi 1 Aj nj cj r
structure SlW (w : World) (lo hi : Nat) (A : Option Addr) (n c : Nat) (ws : List WriteD) : Prop where
  len : ws.length = n
  cap : n ≤ c
  big : c ≤ 9223372036854775807
  lie : ∀ (j : Nat) (r : WriteD), ws[j]? = some r → ∃ (g off : Nat) (Aj : Option Addr) (nj cj : Nat), A = some ⟨g, off, none⟩ ∧ lo ≤ g ∧ g < hi ∧ w.cell? ⟨g, off + j * 2, none⟩ = some (.int .i64 r.at_) ∧ w.cell? ⟨g, off + j * 2 + 1, none⟩ = some (.slice Aj nj cj) ∧ Sl w lo hi 1 Aj nj cj r.row
section
variable {w w' : World} {lo hi : Nat} {A : Option Addr} {n c : Nat}
theorem SlR.below {B : Nat} {rows : List (List Int)} (h : SlR w lo hi A n c rows) (hb : Below B w w') (hB : hi ≤ B) : SlR w' lo hi A n c rows :=
  ⟨h.len, h.cap, h.big, fun j r hr => by
    obtain ⟨g, off, Aj, nj, cj, e, h1, h2, h3, h4⟩ := h.lie j r hr
    exact ⟨g, off, Aj, nj, cj, e, h1, h2, (hb.cell (p := ⟨g, off + j, none⟩) (show g < B by omega)).trans h3, h4.below hb hB⟩⟩
theorem SlW.below {B : Nat} {ws : List WriteD} (h : SlW w lo hi A n c ws) (hb : Below B w w') (hB : hi ≤ B) : SlW w' lo hi A n c ws :=
  ⟨h.len, h.cap, h.big, fun j r hr => by
    obtain ⟨g, off, Aj, nj, cj, e, h1, h2, h3, h4, h5⟩ := h.lie j r hr
    exact ⟨g, off, Aj, nj, cj, e, h1, h2, (hb.cell (p := ⟨g, off + j * 2, none⟩) (show g < B by omega)).trans h3, (hb.cell (p := ⟨g, off + j * 2 + 1, none⟩) (show g < B by omega)).trans h4, h5.below hb hB⟩⟩
theorem SlR.mono {lo' hi' : Nat} {rows : List (List Int)} (h : SlR w lo hi A n c rows) (h1 : lo' ≤ lo) (h2 : hi ≤ hi') : SlR w lo' hi' A n c rows :=
  ⟨h.len, h.cap, h.big, fun j r hr => by
    obtain ⟨g, off, Aj, nj, cj, e, h3, h4, h5, h6⟩ := h.lie j r hr
    exact ⟨g, off, Aj, nj, cj, e, by omega, by omega, h5, h6.mono h1 h2⟩⟩
theorem SlW.mono {lo' hi' : Nat} {ws : List WriteD} (h : SlW w lo hi A n c ws) (h1 : lo' ≤ lo) (h2 : hi ≤ hi') : SlW w lo' hi' A n c ws :=
  ⟨h.len, h.cap, h.big, fun j r hr => by
    obtain ⟨g, off, Aj, nj, cj, e, h3, h4, h5, h6, h7⟩ := h.lie j r hr
    exact ⟨g, off, Aj, nj, cj, e, by omega, by omega, h5, h6, h7.mono h1 h2⟩⟩
theorem SlR.upd {lo' hi' : Nat} {rows : List (List Int)} (h : SlR w lo hi A n c rows) (hu : Upd lo' hi' w w') (ho : hi ≤ lo' ∨ hi' ≤ lo) : SlR w' lo hi A n c rows :=
  ⟨h.len, h.cap, h.big, fun j r hr => by
    obtain ⟨g, off, Aj, nj, cj, e, h1, h2, h3, h4⟩ := h.lie j r hr
    have hg := World.block_lt_of_cell? w _ h3
    exact ⟨g, off, Aj, nj, cj, e, h1, h2, (World.cell?_of_block (w := w) (a := ⟨g, off + j, none⟩) (hu.block g hg (by omega))).trans h3, h4.upd hu ho⟩⟩
theorem SlW.upd {lo' hi' : Nat} {ws : List WriteD} (h : SlW w lo hi A n c ws) (hu : Upd lo' hi' w w') (ho : hi ≤ lo' ∨ hi' ≤ lo) : SlW w' lo hi A n c ws :=
  ⟨h.len, h.cap, h.big, fun j r hr => by
    obtain ⟨g, off, Aj, nj, cj, e, h1, h2, h3, h4, h5⟩ := h.lie j r hr
    have hg := World.block_lt_of_cell? w _ h3
    exact ⟨g, off, Aj, nj, cj, e, h1, h2, (World.cell?_of_block (w := w) (a := ⟨g, off + j * 2, none⟩) (hu.block g hg (by omega))).trans h3, (World.cell?_of_block (w := w) (a := ⟨g, off + j * 2 + 1, none⟩) (hu.block g hg (by omega))).trans h4, h5.upd hu ho⟩⟩
theorem SlR.nil (w : World) (lo hi : Nat) (A : Option Addr) (c : Nat) (hc : c ≤ 9223372036854775807) : SlR w lo hi A 0 c [] := ⟨rfl, Nat.zero_le _, hc, fun j r hr => by simp at hr⟩
theorem SlW.nil (w : World) (lo hi : Nat) (A : Option Addr) (c : Nat) (hc : c ≤ 9223372036854775807) : SlW w lo hi A 0 c [] := ⟨rfl, Nat.zero_le _, hc, fun j r hr => by simp at hr⟩
end
section
variable {H : Type} {enc : TypeId × Value → H} {P : Program}
open Go.ChangeShapes Go.WideShapes Go.ChangeAt Go.Joins Go.Deep
end
end Go.Proofs.Ytgnilmdaegnaaaa
