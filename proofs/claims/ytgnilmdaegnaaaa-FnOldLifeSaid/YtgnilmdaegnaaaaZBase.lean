/- Words for memory: numbers that lie in a row of cells, slices of them, worlds of which only some blocks have turned. No conditions. -/
import Derived.WalkKit
import Derived.WalkSpells
import Derived.WalkLawsBesides
import Derived.Deep.MidRow
import Derived.Maps.AppendAt
import Derived.Deep.AppendLies
set_option linter.unusedSimpArgs false
set_option linter.unusedVariables false
namespace Go.Proofs.Ytgnilmdaegnaaaa
open Go.RowKit
theorem World.heap_size_alloc (w : World) (o : Obj) : (w.alloc o).heap.size = w.heap.size + 1 := by simp
theorem World.heap_size_setCell (w : World) (a : Addr) (u : Value) : (w.setCell a u).heap.size = w.heap.size := by simp [World.setCell]
theorem World.heap_size_drew (w : World) : w.drew.heap.size = w.heap.size := rfl
theorem bcell {W w1 : World} (hb : Below W.heap.size W w1) : (∀ b o, b < W.heap.size → w1.cell? ⟨b, o, none⟩ = W.cell? ⟨b, o, none⟩) ∧ (∀ b o, b < W.heap.size → w1.frozen? ⟨b, o, none⟩ = W.frozen? ⟨b, o, none⟩) :=
  ⟨fun b o h => hb.cell (p := ⟨b, o, none⟩) h, fun b o h => hb.frozen (p := ⟨b, o, none⟩) h⟩
/-- The numbers zs lie in block g from offset off on, and may be written. -/
def Ints (w : World) (g off : Nat) (zs : List Int) : Prop :=
  ∀ j z, zs[j]? = some z → w.cell? ⟨g, off + j, none⟩ = some (.int .i64 z) ∧ w.frozen? ⟨g, off + j, none⟩ = false
/-- Only blocks from lo up to hi, and new ones, have turned. -/
structure Upd (lo hi : Nat) (w w' : World) : Prop where
  os : w'.os = w.os
  tape : w'.tape = w.tape
  output : w'.output = w.output
  size : w.heap.size ≤ w'.heap.size
  block : ∀ b, b < w.heap.size → (b < lo ∨ hi ≤ b) → w'.heap[b]? = w.heap[b]?
theorem Upd.refl (lo hi : Nat) (w : World) : Upd lo hi w w := ⟨rfl, rfl, rfl, Nat.le_refl _, fun _ _ _ => rfl⟩
theorem Upd.trans {lo hi : Nat} {a b c : World} (h : Upd lo hi a b) (k : Upd lo hi b c) : Upd lo hi a c :=
  ⟨k.os.trans h.os, k.tape.trans h.tape, k.output.trans h.output, Nat.le_trans h.size k.size, fun i hi' ho => (k.block i (Nat.lt_of_lt_of_le hi' h.size) ho).trans (h.block i hi' ho)⟩
theorem Upd.mono {lo hi lo' hi' : Nat} {w w' : World} (h : Upd lo hi w w') (h1 : lo' ≤ lo) (h2 : hi ≤ hi') : Upd lo' hi' w w' :=
  ⟨h.os, h.tape, h.output, h.size, fun b hb ho => h.block b hb (by omega)⟩
theorem Upd.of_below {lo hi : Nat} {w w' : World} (h : Below w.heap.size w w') : Upd lo hi w w' :=
  ⟨h.os, h.tape, h.output, h.size, fun b hb _ => h.block b hb⟩
theorem Upd.below {lo hi B : Nat} {w w' : World} (h : Upd lo hi w w') (h1 : B ≤ lo) (h2 : B ≤ w.heap.size) : Below B w w' :=
  ⟨h.os, h.tape, h.output, h.size, fun b hb => h.block b (by omega) (by omega)⟩
theorem Upd.setCell {lo hi : Nat} {a w : World} (h : Upd lo hi a w) {p : Addr} (h1 : lo ≤ p.block) (h2 : p.block < hi) (u : Value) : Upd lo hi a (w.setCell p u) :=
  h.trans ⟨rfl, rfl, rfl, by simp [World.setCell], fun b _ ho => Below.heap_setCell _ _ _ _ (by omega)⟩
theorem Upd.drew {lo hi : Nat} {a w : World} (h : Upd lo hi a w) : Upd lo hi a w.drew := ⟨h.os, h.tape, h.output, h.size, h.block⟩
theorem Upd.alloc {lo hi : Nat} {a w : World} (h : Upd lo hi a w) (o : Obj) : Upd lo hi a (w.alloc o) :=
  h.trans ⟨rfl, rfl, rfl, by simp, fun _ hb _ => Below.heap_alloc _ _ _ hb⟩
section
variable {w w' : World} {g off : Nat} {zs : List Int}
theorem Ints.nil (w : World) (g off : Nat) : Ints w g off [] := fun j z h => by simp at h
theorem Ints.lt (h : Ints w g off zs) (hn : zs ≠ []) : g < w.heap.size := by
  obtain ⟨z, l, rfl⟩ := List.exists_cons_of_ne_nil hn
  exact World.block_lt_of_cell? w _ (h 0 z rfl).1
theorem Ints.same (h : Ints w g off zs) (hb : w'.heap[g]? = w.heap[g]?) : Ints w' g off zs := fun j z hz =>
  ⟨(World.cell?_of_block (w := w) (a := ⟨g, off + j, none⟩) hb).trans (h j z hz).1, (World.frozen?_of_block (w := w) (a := ⟨g, off + j, none⟩) hb).trans (h j z hz).2⟩
theorem Ints.below {B : Nat} (h : Ints w g off zs) (hb : Below B w w') (hg : g < B) : Ints w' g off zs := h.same (hb.block g hg)
theorem Ints.upd {lo hi : Nat} (h : Ints w g off zs) (hu : Upd lo hi w w') (ho : g < lo ∨ hi ≤ g) : Ints w' g off zs := by
  by_cases hn : zs = []
  · subst hn; exact Ints.nil _ _ _
  · exact h.same (hu.block g (h.lt hn) ho)
theorem Ints.getD (h : Ints w g off zs) {j : Nat} (hj : j < zs.length) : w.cell? ⟨g, off + j, none⟩ = some (.int .i64 (zs.getD j 0)) ∧ w.frozen? ⟨g, off + j, none⟩ = false := by
  refine h j _ ?_
  simp [List.getD, List.getElem?_eq_getElem hj]
theorem Ints.set (h : Ints w g off zs) (i : Nat) (y : Int) : Ints (w.setCell ⟨g, off + i, none⟩ (.int .i64 y)) g off (zs.set i y) := by
  intro j z hz
  rw [List.getElem?_set] at hz
  by_cases hij : i = j
  · subst hij
    by_cases hl : i < zs.length
    · simp [hl] at hz
      subst hz
      have hc := (h i _ (List.getElem?_eq_getElem hl))
      exact ⟨World.cell?_setCell_same _ _ _ hc.1, by rw [World.frozen?_setCell]; exact hc.2⟩
    · simp [hl] at hz
  · rw [if_neg hij] at hz
    have hc := h j z hz
    refine ⟨?_, by rw [World.frozen?_setCell]; exact hc.2⟩
    rw [World.cell?_setCell_other _ _ _ _ (by intro e; injection e with e1 e2; omega)]
    exact hc.1
theorem Ints.sets (h : Ints w g off zs) (i : Nat) (ys : List Int) (hi : i + ys.length ≤ zs.length) :
    Ints (w.setCells g (off + i) (ys.map (.int .i64))) g off (zs.take i ++ ys ++ zs.drop (i + ys.length)) := by
  intro j z hz
  have hlt : (zs.take i).length = i := by simp; omega
  by_cases h1 : j < i
  · rw [List.append_assoc, List.getElem?_append_left (by omega), List.getElem?_take, if_pos h1] at hz
    have hc := h j z hz
    exact ⟨(World.cell?_setCells_out g _ _ w _ (fun _ _ => by simp; omega)).trans hc.1, by rw [World.frozen?_setCells]; exact hc.2⟩
  by_cases h2 : j < i + ys.length
  · rw [List.append_assoc, List.getElem?_append_right (by omega), List.getElem?_append_left (by omega), hlt] at hz
    have hc := World.cell?_setCells_in g (ys.map (.int .i64)) (off + i) w (fun j' hj' => by
      have := h.getD (j := i + j') (by simp at hj'; omega)
      rw [show off + i + j' = off + (i + j') by omega, this.1]; rfl) (j - i) (by simp; omega)
    rw [show off + j = off + i + (j - i) by omega]
    refine ⟨hc.trans ?_, ?_⟩
    · rw [List.getElem_map]
      rw [List.getElem?_eq_getElem (by omega)] at hz
      injection hz with hz
      rw [hz]
    · rw [World.frozen?_setCells]
      have := h.getD (j := j) (by omega)
      rw [show off + i + (j - i) = off + j by omega]
      exact this.2
  · rw [List.getElem?_append_right (by simp; omega), List.getElem?_drop] at hz
    have e : i + ys.length + (j - (zs.take i ++ ys).length) = j := by simp; omega
    rw [e] at hz
    have hc := h j z hz
    exact ⟨(World.cell?_setCells_out g _ _ w _ (fun _ _ => by simp; omega)).trans hc.1, by rw [World.frozen?_setCells]; exact hc.2⟩
theorem Ints.sub (h : Ints w g off zs) (i : Nat) (m : Nat) : Ints w g (off + i) ((zs.drop i).take m) := fun j z hz => by
  rw [List.getElem?_take] at hz
  split at hz
  · rw [List.getElem?_drop] at hz
    rw [show off + i + j = off + (i + j) by omega]
    exact h _ z hz
  · cases hz
end
/-- The slice '.slice A n c' of n elements of k numbers each holds the numbers zs; its block lies from lo on and below hi. -/
structure Sl (w : World) (lo hi k : Nat) (A : Option Addr) (n c : Nat) (zs : List Int) : Prop where
  len : zs.length = n * k
  cap : n ≤ c
  big : c ≤ 9223372036854775807
  lie : 0 < n → ∃ g off, A = some ⟨g, off, none⟩ ∧ lo ≤ g ∧ g < hi ∧ Ints w g off zs
section
variable {w w' : World} {lo hi k : Nat} {A : Option Addr} {n c : Nat} {zs : List Int}
theorem Sl.same (h : Sl w lo hi k A n c zs) (hs : ∀ g off, A = some ⟨g, off, none⟩ → lo ≤ g → g < hi → Ints w g off zs → Ints w' g off zs) : Sl w' lo hi k A n c zs :=
  ⟨h.len, h.cap, h.big, fun hn => by
    obtain ⟨g, off, e, h1, h2, h3⟩ := h.lie hn
    exact ⟨g, off, e, h1, h2, hs g off e h1 h2 h3⟩⟩
theorem Sl.below {B : Nat} (h : Sl w lo hi k A n c zs) (hb : Below B w w') (hB : hi ≤ B) : Sl w' lo hi k A n c zs :=
  h.same fun _ _ _ _ hg hz => hz.below hb (by omega)
theorem Sl.upd {lo' hi' : Nat} (h : Sl w lo hi k A n c zs) (hu : Upd lo' hi' w w') (ho : hi ≤ lo' ∨ hi' ≤ lo) : Sl w' lo hi k A n c zs :=
  h.same fun _ _ _ hl hg hz => hz.upd hu (by omega)
theorem Sl.mono {lo' hi' : Nat} (h : Sl w lo hi k A n c zs) (h1 : lo' ≤ lo) (h2 : hi ≤ hi') : Sl w lo' hi' k A n c zs :=
  ⟨h.len, h.cap, h.big, fun hn => by
    obtain ⟨g, off, e, h3, h4, h5⟩ := h.lie hn
    exact ⟨g, off, e, by omega, by omega, h5⟩⟩
theorem Sl.nil (w : World) (lo hi k : Nat) (A : Option Addr) (c : Nat) (hc : c ≤ 9223372036854775807) : Sl w lo hi k A 0 c [] := ⟨by simp, Nat.zero_le _, hc, fun h => absurd h (by omega)⟩
/-- The slice's block is there. -/
theorem Sl.fit (h : Sl w lo hi k A n c zs) (hk : 0 < k) : Sl w lo (min hi w.heap.size) k A n c zs :=
  ⟨h.len, h.cap, h.big, fun hn => by
    obtain ⟨g, off, e, h3, h4, h5⟩ := h.lie hn
    have hp : 0 < n * k := Nat.mul_pos hn hk
    have hne : zs ≠ [] := by
      intro e'
      have hl := h.len
      rw [e'] at hl
      simp only [List.length_nil] at hl
      omega
    exact ⟨g, off, e, h3, Nat.lt_min.2 ⟨h4, h5.lt hne⟩, h5⟩⟩
theorem Sl.of_own {e : TypeId} {v : Value} (h : w.ownsRow lo e k v n (zs.map (.int .i64))) : ∃ A c, v = .slice A n c ∧ Sl w lo w.heap.size k A n c zs := by
  have hl : zs.length = n * k := by simpa using h.1
  rcases h.2 with ⟨rfl, rfl⟩ | ⟨g, cap, cur, rfl, hb, hg, h1, h2, h3, h4⟩
  · exact ⟨none, 0, rfl, hl, Nat.le_refl _, by omega, fun hn => absurd hn (by omega)⟩
  · refine ⟨_, cap, rfl, hl, h1, by unfold maxLen at h2; omega, fun _ => ⟨g, 0, rfl, hb, (Array.getElem?_eq_some_iff.1 hg).1, fun j z hz => ?_⟩⟩
    have hj : j < n * k := by rw [← hl]; exact (List.getElem?_eq_some_iff.1 hz).1
    have hc := World.ownsRow.cellAt h j hj
    have hf := World.ownsRow.frozenAt h j
    rw [Nat.zero_add]
    exact ⟨by rw [hc]; simp [hz], hf⟩
end
end Go.Proofs.Ytgnilmdaegnaaaa
