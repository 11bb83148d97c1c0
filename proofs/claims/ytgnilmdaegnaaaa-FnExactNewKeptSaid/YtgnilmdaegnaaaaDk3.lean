/- Disks: conversions and comparisons of whole disks. No conditions. -/
import Derived.Test.YtgnilmdaegnaaaaDk2
set_option linter.unusedSimpArgs false
set_option linter.unusedVariables false
namespace Go.Proofs.Ytgnilmdaegnaaaa
open Go.RowKit

def DkRes (w : World) (n0 : Nat) (k0 : List (List Int)) (n1 : Nat) (v0 : List WriteD) (e : Ending) (w' : World) : Prop :=
  ∃ A0 c0 A1 c1, e = .returned (.agg #[.slice A0 n0 c0, .slice A1 n1 c1]) ∧ SlR w' w.heap.size w'.heap.size A0 n0 c0 k0 ∧ SlW w' w.heap.size w'.heap.size A1 n1 c1 v0 ∧ Below w.heap.size w w'
def TwRes (w : World) (n0 : Nat) (k0 : List (List Int)) (n1 : Nat) (v0 : List WriteD) (n2 : Nat) (k2 : List (List Int)) (n3 : Nat) (v2 : List WriteD) (e : Ending) (w' : World) : Prop :=
  ∃ A0 c0 A1 c1 A2 c2 A3 c3, e = .returned (.agg #[.slice A0 n0 c0, .slice A1 n1 c1, .slice A2 n2 c2, .slice A3 n3 c3]) ∧ SlR w' w.heap.size w'.heap.size A0 n0 c0 k0 ∧ SlW w' w.heap.size w'.heap.size A1 n1 c1 v0 ∧ SlR w' w.heap.size w'.heap.size A2 n2 c2 k2 ∧ SlW w' w.heap.size w'.heap.size A3 n3 c3 v2 ∧ Below w.heap.size w w'
set_option maxRecDepth 100000 in
set_option maxHeartbeats 4000000 in
theorem toDisk_any (A0 : Option Addr) (n0 c0 : Nat) (k0 : List (List Int)) (A1 : Option Addr) (n1 c1 : Nat) (v0 : List WriteD) (w : World) (h0 : ArgR w A0 n0 c0 k0) (h1 : ArgW w A1 n1 c1 v0) (hn0 : n0 ≤ 1048576 ∧ ∀ r ∈ k0, r.length ≤ 1048576) (hn1 : n1 ≤ 1048576 ∧ ∀ r ∈ v0, r.row.length ≤ 1048576) :
    Calls Try.prog 97 #[.agg #[.slice A0 n0 c0, .slice A1 n1 c1]] w (DkRes w n0 k0 n1 v0) := by
  have H0 := Lib.hid h0
  have H1 := Lib.hid h1
  have N0 := Lib.hid hn0
  have N1 := Lib.hid hn1
  clear h0 h1 hn0 hn1
  go_enter Try.func97, Try.ntmps97
  go_wp2_with fail
  (with_reducible refine (toInt64SS_any _ _ _ _ _ (H0.out.below (by (repeat' (first | with_reducible exact Below.refl _ _ | with_reducible assumption | with_reducible refine Below.drew ?_ | with_reducible refine Below.alloc ?_ ?_ _ | with_reducible refine Below.setCell ?_ ?_ _ | with_reducible refine Below.trans ?_ (Below.mono (by assumption) ?_) | ((try simp only [World.heap_size_alloc, World.heap_size_drew, World.heap_size_setCell]); omega))))) N0.out.1 N0.out.2).mono ?_); rintro _ w1 ⟨X0, d0, rfl, s1, b1⟩
  have y1 := b1.size
  simp only [World.heap_size_alloc] at y1
  have hw1 : Below w.heap.size w w1 := by (repeat' (first | with_reducible exact Below.refl _ _ | with_reducible assumption | with_reducible refine Below.drew ?_ | with_reducible refine Below.alloc ?_ ?_ _ | with_reducible refine Below.setCell ?_ ?_ _ | with_reducible refine Below.trans ?_ (Below.mono (by assumption) ?_) | ((try simp only [World.heap_size_alloc, World.heap_size_drew, World.heap_size_setCell]); omega)))
  have a01 : w1.cell? ⟨w.heap.size, 1, none⟩ = some (.slice A1 n1 c1) := (b1.cell (p := ⟨w.heap.size, 1, none⟩) (by (try simp only [World.heap_size_alloc, World.heap_size_drew, World.heap_size_setCell]); omega)).trans (by simp [go_sem])
  have a10 : w1.cell? ⟨w.heap.size + 1, 0, none⟩ = some (.slice none 0 0) := (b1.cell (p := ⟨w.heap.size + 1, 0, none⟩) (by (try simp only [World.heap_size_alloc, World.heap_size_drew, World.heap_size_setCell]); omega)).trans (by simp [go_sem])
  have af10 : w1.frozen? ⟨w.heap.size + 1, 0, none⟩ = false := (b1.frozen (p := ⟨w.heap.size + 1, 0, none⟩) (by (try simp only [World.heap_size_alloc, World.heap_size_drew, World.heap_size_setCell]); omega)).trans (by simp [go_sem])
  have a11 : w1.cell? ⟨w.heap.size + 1, 1, none⟩ = some (.slice none 0 0) := (b1.cell (p := ⟨w.heap.size + 1, 1, none⟩) (by (try simp only [World.heap_size_alloc, World.heap_size_drew, World.heap_size_setCell]); omega)).trans (by simp [go_sem])
  have af11 : w1.frozen? ⟨w.heap.size + 1, 1, none⟩ = false := (b1.frozen (p := ⟨w.heap.size + 1, 1, none⟩) (by (try simp only [World.heap_size_alloc, World.heap_size_drew, World.heap_size_setCell]); omega)).trans (by simp [go_sem])
  have a20 : w1.cell? ⟨w.heap.size + 1 + 1, 0, none⟩ = some (.slice none 0 0) := (b1.cell (p := ⟨w.heap.size + 1 + 1, 0, none⟩) (by (try simp only [World.heap_size_alloc, World.heap_size_drew, World.heap_size_setCell]); omega)).trans (by simp [go_sem])
  have af20 : w1.frozen? ⟨w.heap.size + 1 + 1, 0, none⟩ = false := (b1.frozen (p := ⟨w.heap.size + 1 + 1, 0, none⟩) (by (try simp only [World.heap_size_alloc, World.heap_size_drew, World.heap_size_setCell]); omega)).trans (by simp [go_sem])
  have a21 : w1.cell? ⟨w.heap.size + 1 + 1, 1, none⟩ = some (.slice none 0 0) := (b1.cell (p := ⟨w.heap.size + 1 + 1, 1, none⟩) (by (try simp only [World.heap_size_alloc, World.heap_size_drew, World.heap_size_setCell]); omega)).trans (by simp [go_sem])
  have af21 : w1.frozen? ⟨w.heap.size + 1 + 1, 1, none⟩ = false := (b1.frozen (p := ⟨w.heap.size + 1 + 1, 1, none⟩) (by (try simp only [World.heap_size_alloc, World.heap_size_drew, World.heap_size_setCell]); omega)).trans (by simp [go_sem])
  have S1 := Lib.hid s1
  have HW1 := Lib.hid hw1
  clear s1 hw1 b1
  go_wp2_with fail
  (with_reducible refine (toWriteS_any _ _ _ _ _ (H1.out.below (HW1.out.setCell (p := ⟨w.heap.size + 1 + 1, 0, none⟩) (by simp only; omega) _)) N1.out.1 N1.out.2).mono ?_); rintro _ w2 ⟨X1, d1, rfl, s2, b2⟩
  have y2 := b2.size
  simp only [World.heap_size_setCell] at y2
  have e10 : w2.cell? ⟨w.heap.size + 1, 0, none⟩ = some (.slice none 0 0) := (b2.cell (p := ⟨w.heap.size + 1, 0, none⟩) (by (try simp only [World.heap_size_alloc, World.heap_size_drew, World.heap_size_setCell]); omega)).trans ((World.cell?_setCell_other _ _ _ _ (by simp)).trans a10)
  have ef10 : w2.frozen? ⟨w.heap.size + 1, 0, none⟩ = false := (b2.frozen (p := ⟨w.heap.size + 1, 0, none⟩) (by (try simp only [World.heap_size_alloc, World.heap_size_drew, World.heap_size_setCell]); omega)).trans (by simp [World.frozen?_setCell, af10])
  have e11 : w2.cell? ⟨w.heap.size + 1, 1, none⟩ = some (.slice none 0 0) := (b2.cell (p := ⟨w.heap.size + 1, 1, none⟩) (by (try simp only [World.heap_size_alloc, World.heap_size_drew, World.heap_size_setCell]); omega)).trans ((World.cell?_setCell_other _ _ _ _ (by simp)).trans a11)
  have ef11 : w2.frozen? ⟨w.heap.size + 1, 1, none⟩ = false := (b2.frozen (p := ⟨w.heap.size + 1, 1, none⟩) (by (try simp only [World.heap_size_alloc, World.heap_size_drew, World.heap_size_setCell]); omega)).trans (by simp [World.frozen?_setCell, af11])
  have e20 : w2.cell? ⟨w.heap.size + 1 + 1, 0, none⟩ = some (.slice X0 n0 d0) := (b2.cell (p := ⟨w.heap.size + 1 + 1, 0, none⟩) (by (try simp only [World.heap_size_alloc, World.heap_size_drew, World.heap_size_setCell]); omega)).trans (World.cell?_setCell_same _ _ _ a20)
  have ef20 : w2.frozen? ⟨w.heap.size + 1 + 1, 0, none⟩ = false := (b2.frozen (p := ⟨w.heap.size + 1 + 1, 0, none⟩) (by (try simp only [World.heap_size_alloc, World.heap_size_drew, World.heap_size_setCell]); omega)).trans (by simp [World.frozen?_setCell, af20])
  have e21 : w2.cell? ⟨w.heap.size + 1 + 1, 1, none⟩ = some (.slice none 0 0) := (b2.cell (p := ⟨w.heap.size + 1 + 1, 1, none⟩) (by (try simp only [World.heap_size_alloc, World.heap_size_drew, World.heap_size_setCell]); omega)).trans ((World.cell?_setCell_other _ _ _ _ (by simp)).trans a21)
  have ef21 : w2.frozen? ⟨w.heap.size + 1 + 1, 1, none⟩ = false := (b2.frozen (p := ⟨w.heap.size + 1 + 1, 1, none⟩) (by (try simp only [World.heap_size_alloc, World.heap_size_drew, World.heap_size_setCell]); omega)).trans (by simp [World.frozen?_setCell, af21])
  have hu1 : Upd (w.heap.size + 1 + 1) (w.heap.size + 1 + 1 + 1) w1 (w1.setCell ⟨w.heap.size + 1 + 1, 0, none⟩ (.slice X0 n0 d0)) := (Upd.refl _ _ _).setCell (p := ⟨w.heap.size + 1 + 1, 0, none⟩) (Nat.le_refl _) (show w.heap.size + 1 + 1 < w.heap.size + 1 + 1 + 1 by omega) _
  have R2 := Lib.hid (((S1.out.mono (lo' := w.heap.size + 1 + 1 + 1) (by (try simp only [World.heap_size_alloc, World.heap_size_drew, World.heap_size_setCell]); omega) (Nat.le_refl _)).upd hu1 (.inr (by omega))).below b2 (by (try simp only [World.heap_size_alloc, World.heap_size_drew, World.heap_size_setCell]); omega))
  have W2 := Lib.hid (s2.mono (lo' := w.heap.size + 1 + 1 + 1) (by (try simp only [World.heap_size_alloc, World.heap_size_drew, World.heap_size_setCell]); omega) (Nat.le_refl _))
  have hw2 : Below w.heap.size w w2 := (HW1.out.setCell (p := ⟨w.heap.size + 1 + 1, 0, none⟩) (by simp only; omega) _).trans (b2.mono (by (try simp only [World.heap_size_alloc, World.heap_size_drew, World.heap_size_setCell]); omega))
  have HW2 := Lib.hid hw2
  clear a01 a10 a11 a20 a21 af10 af11 af20 af21 s2 b2 hw2 hu1
  go_wp2_with fail
  refine bodyPost_ret (v := .agg #[.slice X0 n0 d0, .slice X1 n1 d1]) (by simp [results, Try.results97, go_sem, e10, e11, e20, e21, ef10, ef11, ef20, ef21]) rfl ⟨X0, d0, X1, d1, rfl, ?_, ?_, ?_⟩
  · refine SlR.mono (SlR.upd (lo' := w.heap.size) (hi' := w.heap.size + 3) R2.out ?_ (.inr (by omega))) (by omega) (by (try simp only [World.heap_size_alloc, World.heap_size_drew, World.heap_size_setCell]); omega)
    (repeat' (first | with_reducible exact Upd.refl _ _ _ | with_reducible assumption | with_reducible refine Upd.setCell ?_ ?_ ?_ _ | (simp only []; omega) | omega))
  · refine SlW.mono (SlW.upd (lo' := w.heap.size) (hi' := w.heap.size + 3) W2.out ?_ (.inr (by omega))) (by omega) (by (try simp only [World.heap_size_alloc, World.heap_size_drew, World.heap_size_setCell]); omega)
    (repeat' (first | with_reducible exact Upd.refl _ _ _ | with_reducible assumption | with_reducible refine Upd.setCell ?_ ?_ ?_ _ | (simp only []; omega) | omega))
  · have h9 := HW2.out
    (repeat' (first | with_reducible exact Below.refl _ _ | with_reducible assumption | with_reducible refine Below.drew ?_ | with_reducible refine Below.alloc ?_ ?_ _ | with_reducible refine Below.setCell ?_ ?_ _ | with_reducible refine Below.trans ?_ (Below.mono (by assumption) ?_) | ((try simp only [World.heap_size_alloc, World.heap_size_drew, World.heap_size_setCell]); omega)))
set_option maxRecDepth 100000 in
set_option maxHeartbeats 8000000 in
theorem toTwo_any (A0 : Option Addr) (n0 c0 : Nat) (k0 : List (List Int)) (A1 : Option Addr) (n1 c1 : Nat) (v0 : List WriteD) (A2 : Option Addr) (n2 c2 : Nat) (k2 : List (List Int)) (A3 : Option Addr) (n3 c3 : Nat) (v2 : List WriteD) (w : World) (h0 : ArgR w A0 n0 c0 k0) (h1 : ArgW w A1 n1 c1 v0) (h2 : ArgR w A2 n2 c2 k2) (h3 : ArgW w A3 n3 c3 v2)
    (hn0 : n0 ≤ 1048576 ∧ ∀ r ∈ k0, r.length ≤ 1048576) (hn1 : n1 ≤ 1048576 ∧ ∀ r ∈ v0, r.row.length ≤ 1048576) (hn2 : n2 ≤ 1048576 ∧ ∀ r ∈ k2, r.length ≤ 1048576) (hn3 : n3 ≤ 1048576 ∧ ∀ r ∈ v2, r.row.length ≤ 1048576) :
    Calls Try.prog 39 #[.agg #[.slice A0 n0 c0, .slice A1 n1 c1, .slice A2 n2 c2, .slice A3 n3 c3]] w (TwRes w n0 k0 n1 v0 n2 k2 n3 v2) := by
  have H0 := Lib.hid h0
  have H1 := Lib.hid h1
  have H2 := Lib.hid h2
  have H3 := Lib.hid h3
  have N0 := Lib.hid hn0
  have N1 := Lib.hid hn1
  have N2 := Lib.hid hn2
  have N3 := Lib.hid hn3
  clear h0 h1 h2 h3 hn0 hn1 hn2 hn3
  go_enter Try.func39, Try.ntmps39
  go_wp2_with fail
  (with_reducible refine (toDisk_any _ _ _ _ _ _ _ _ _ (H0.out.below (by (repeat' (first | with_reducible exact Below.refl _ _ | with_reducible assumption | with_reducible refine Below.drew ?_ | with_reducible refine Below.alloc ?_ ?_ _ | with_reducible refine Below.setCell ?_ ?_ _ | with_reducible refine Below.trans ?_ (Below.mono (by assumption) ?_) | ((try simp only [World.heap_size_alloc, World.heap_size_drew, World.heap_size_setCell]); omega))))) (H1.out.below (by (repeat' (first | with_reducible exact Below.refl _ _ | with_reducible assumption | with_reducible refine Below.drew ?_ | with_reducible refine Below.alloc ?_ ?_ _ | with_reducible refine Below.setCell ?_ ?_ _ | with_reducible refine Below.trans ?_ (Below.mono (by assumption) ?_) | ((try simp only [World.heap_size_alloc, World.heap_size_drew, World.heap_size_setCell]); omega))))) N0.out N1.out).mono ?_); rintro _ w1 ⟨X0, d0, X1, d1, rfl, r1, s1, b1⟩
  have y1 := b1.size
  simp only [World.heap_size_alloc] at y1
  have hw1 : Below w.heap.size w w1 := by (repeat' (first | with_reducible exact Below.refl _ _ | with_reducible assumption | with_reducible refine Below.drew ?_ | with_reducible refine Below.alloc ?_ ?_ _ | with_reducible refine Below.setCell ?_ ?_ _ | with_reducible refine Below.trans ?_ (Below.mono (by assumption) ?_) | ((try simp only [World.heap_size_alloc, World.heap_size_drew, World.heap_size_setCell]); omega)))
  have a02 : w1.cell? ⟨w.heap.size, 2, none⟩ = some (.slice A2 n2 c2) := (b1.cell (p := ⟨w.heap.size, 2, none⟩) (by (try simp only [World.heap_size_alloc, World.heap_size_drew, World.heap_size_setCell]); omega)).trans (by simp [go_sem])
  have a03 : w1.cell? ⟨w.heap.size, 3, none⟩ = some (.slice A3 n3 c3) := (b1.cell (p := ⟨w.heap.size, 3, none⟩) (by (try simp only [World.heap_size_alloc, World.heap_size_drew, World.heap_size_setCell]); omega)).trans (by simp [go_sem])
  have a10 : w1.cell? ⟨w.heap.size + 1, 0, none⟩ = some (.slice none 0 0) := (b1.cell (p := ⟨w.heap.size + 1, 0, none⟩) (by (try simp only [World.heap_size_alloc, World.heap_size_drew, World.heap_size_setCell]); omega)).trans (by simp [go_sem])
  have af10 : w1.frozen? ⟨w.heap.size + 1, 0, none⟩ = false := (b1.frozen (p := ⟨w.heap.size + 1, 0, none⟩) (by (try simp only [World.heap_size_alloc, World.heap_size_drew, World.heap_size_setCell]); omega)).trans (by simp [go_sem])
  have a11 : w1.cell? ⟨w.heap.size + 1, 1, none⟩ = some (.slice none 0 0) := (b1.cell (p := ⟨w.heap.size + 1, 1, none⟩) (by (try simp only [World.heap_size_alloc, World.heap_size_drew, World.heap_size_setCell]); omega)).trans (by simp [go_sem])
  have af11 : w1.frozen? ⟨w.heap.size + 1, 1, none⟩ = false := (b1.frozen (p := ⟨w.heap.size + 1, 1, none⟩) (by (try simp only [World.heap_size_alloc, World.heap_size_drew, World.heap_size_setCell]); omega)).trans (by simp [go_sem])
  have a12 : w1.cell? ⟨w.heap.size + 1, 2, none⟩ = some (.slice none 0 0) := (b1.cell (p := ⟨w.heap.size + 1, 2, none⟩) (by (try simp only [World.heap_size_alloc, World.heap_size_drew, World.heap_size_setCell]); omega)).trans (by simp [go_sem])
  have af12 : w1.frozen? ⟨w.heap.size + 1, 2, none⟩ = false := (b1.frozen (p := ⟨w.heap.size + 1, 2, none⟩) (by (try simp only [World.heap_size_alloc, World.heap_size_drew, World.heap_size_setCell]); omega)).trans (by simp [go_sem])
  have a13 : w1.cell? ⟨w.heap.size + 1, 3, none⟩ = some (.slice none 0 0) := (b1.cell (p := ⟨w.heap.size + 1, 3, none⟩) (by (try simp only [World.heap_size_alloc, World.heap_size_drew, World.heap_size_setCell]); omega)).trans (by simp [go_sem])
  have af13 : w1.frozen? ⟨w.heap.size + 1, 3, none⟩ = false := (b1.frozen (p := ⟨w.heap.size + 1, 3, none⟩) (by (try simp only [World.heap_size_alloc, World.heap_size_drew, World.heap_size_setCell]); omega)).trans (by simp [go_sem])
  have a20 : w1.cell? ⟨w.heap.size + 1 + 1, 0, none⟩ = some (.slice none 0 0) := (b1.cell (p := ⟨w.heap.size + 1 + 1, 0, none⟩) (by (try simp only [World.heap_size_alloc, World.heap_size_drew, World.heap_size_setCell]); omega)).trans (by simp [go_sem])
  have af20 : w1.frozen? ⟨w.heap.size + 1 + 1, 0, none⟩ = false := (b1.frozen (p := ⟨w.heap.size + 1 + 1, 0, none⟩) (by (try simp only [World.heap_size_alloc, World.heap_size_drew, World.heap_size_setCell]); omega)).trans (by simp [go_sem])
  have a21 : w1.cell? ⟨w.heap.size + 1 + 1, 1, none⟩ = some (.slice none 0 0) := (b1.cell (p := ⟨w.heap.size + 1 + 1, 1, none⟩) (by (try simp only [World.heap_size_alloc, World.heap_size_drew, World.heap_size_setCell]); omega)).trans (by simp [go_sem])
  have af21 : w1.frozen? ⟨w.heap.size + 1 + 1, 1, none⟩ = false := (b1.frozen (p := ⟨w.heap.size + 1 + 1, 1, none⟩) (by (try simp only [World.heap_size_alloc, World.heap_size_drew, World.heap_size_setCell]); omega)).trans (by simp [go_sem])
  have a22 : w1.cell? ⟨w.heap.size + 1 + 1, 2, none⟩ = some (.slice none 0 0) := (b1.cell (p := ⟨w.heap.size + 1 + 1, 2, none⟩) (by (try simp only [World.heap_size_alloc, World.heap_size_drew, World.heap_size_setCell]); omega)).trans (by simp [go_sem])
  have af22 : w1.frozen? ⟨w.heap.size + 1 + 1, 2, none⟩ = false := (b1.frozen (p := ⟨w.heap.size + 1 + 1, 2, none⟩) (by (try simp only [World.heap_size_alloc, World.heap_size_drew, World.heap_size_setCell]); omega)).trans (by simp [go_sem])
  have a23 : w1.cell? ⟨w.heap.size + 1 + 1, 3, none⟩ = some (.slice none 0 0) := (b1.cell (p := ⟨w.heap.size + 1 + 1, 3, none⟩) (by (try simp only [World.heap_size_alloc, World.heap_size_drew, World.heap_size_setCell]); omega)).trans (by simp [go_sem])
  have af23 : w1.frozen? ⟨w.heap.size + 1 + 1, 3, none⟩ = false := (b1.frozen (p := ⟨w.heap.size + 1 + 1, 3, none⟩) (by (try simp only [World.heap_size_alloc, World.heap_size_drew, World.heap_size_setCell]); omega)).trans (by simp [go_sem])
  have R1 := Lib.hid r1
  have S1 := Lib.hid s1
  have HW1 := Lib.hid hw1
  clear r1 s1 hw1 b1
  have hwa : Below w.heap.size w ((w1.setCell ⟨w.heap.size + 1 + 1, 0, none⟩ (.slice X0 n0 d0)).setCell ⟨w.heap.size + 1 + 1, 1, none⟩ (.slice X1 n1 d1)) := (HW1.out.setCell (p := ⟨w.heap.size + 1 + 1, 0, none⟩) (by simp only; omega) _).setCell (p := ⟨w.heap.size + 1 + 1, 1, none⟩) (by simp only; omega) _
  have HWA := Lib.hid hwa
  clear hwa
  go_wp2_with fail
  (with_reducible refine (toDisk_any _ _ _ _ _ _ _ _ _ (H2.out.below HWA.out) (H3.out.below HWA.out) N2.out N3.out).mono ?_); rintro _ w2 ⟨X2, d2, X3, d3, rfl, r2, s2, b2⟩
  have y2 := b2.size
  simp only [World.heap_size_setCell] at y2
  have e10 : w2.cell? ⟨w.heap.size + 1, 0, none⟩ = some (.slice none 0 0) := (b2.cell (p := ⟨w.heap.size + 1, 0, none⟩) (by (try simp only [World.heap_size_alloc, World.heap_size_drew, World.heap_size_setCell]); omega)).trans ((World.cell?_setCell_other _ _ _ _ (by simp)).trans ((World.cell?_setCell_other _ _ _ _ (by simp)).trans a10))
  have ef10 : w2.frozen? ⟨w.heap.size + 1, 0, none⟩ = false := (b2.frozen (p := ⟨w.heap.size + 1, 0, none⟩) (by (try simp only [World.heap_size_alloc, World.heap_size_drew, World.heap_size_setCell]); omega)).trans (by simp [World.frozen?_setCell, af10])
  have e11 : w2.cell? ⟨w.heap.size + 1, 1, none⟩ = some (.slice none 0 0) := (b2.cell (p := ⟨w.heap.size + 1, 1, none⟩) (by (try simp only [World.heap_size_alloc, World.heap_size_drew, World.heap_size_setCell]); omega)).trans ((World.cell?_setCell_other _ _ _ _ (by simp)).trans ((World.cell?_setCell_other _ _ _ _ (by simp)).trans a11))
  have ef11 : w2.frozen? ⟨w.heap.size + 1, 1, none⟩ = false := (b2.frozen (p := ⟨w.heap.size + 1, 1, none⟩) (by (try simp only [World.heap_size_alloc, World.heap_size_drew, World.heap_size_setCell]); omega)).trans (by simp [World.frozen?_setCell, af11])
  have e12 : w2.cell? ⟨w.heap.size + 1, 2, none⟩ = some (.slice none 0 0) := (b2.cell (p := ⟨w.heap.size + 1, 2, none⟩) (by (try simp only [World.heap_size_alloc, World.heap_size_drew, World.heap_size_setCell]); omega)).trans ((World.cell?_setCell_other _ _ _ _ (by simp)).trans ((World.cell?_setCell_other _ _ _ _ (by simp)).trans a12))
  have ef12 : w2.frozen? ⟨w.heap.size + 1, 2, none⟩ = false := (b2.frozen (p := ⟨w.heap.size + 1, 2, none⟩) (by (try simp only [World.heap_size_alloc, World.heap_size_drew, World.heap_size_setCell]); omega)).trans (by simp [World.frozen?_setCell, af12])
  have e13 : w2.cell? ⟨w.heap.size + 1, 3, none⟩ = some (.slice none 0 0) := (b2.cell (p := ⟨w.heap.size + 1, 3, none⟩) (by (try simp only [World.heap_size_alloc, World.heap_size_drew, World.heap_size_setCell]); omega)).trans ((World.cell?_setCell_other _ _ _ _ (by simp)).trans ((World.cell?_setCell_other _ _ _ _ (by simp)).trans a13))
  have ef13 : w2.frozen? ⟨w.heap.size + 1, 3, none⟩ = false := (b2.frozen (p := ⟨w.heap.size + 1, 3, none⟩) (by (try simp only [World.heap_size_alloc, World.heap_size_drew, World.heap_size_setCell]); omega)).trans (by simp [World.frozen?_setCell, af13])
  have e20 : w2.cell? ⟨w.heap.size + 1 + 1, 0, none⟩ = some (.slice X0 n0 d0) := (b2.cell (p := ⟨w.heap.size + 1 + 1, 0, none⟩) (by (try simp only [World.heap_size_alloc, World.heap_size_drew, World.heap_size_setCell]); omega)).trans ((World.cell?_setCell_other _ _ _ _ (by simp)).trans (World.cell?_setCell_same _ _ _ a20))
  have ef20 : w2.frozen? ⟨w.heap.size + 1 + 1, 0, none⟩ = false := (b2.frozen (p := ⟨w.heap.size + 1 + 1, 0, none⟩) (by (try simp only [World.heap_size_alloc, World.heap_size_drew, World.heap_size_setCell]); omega)).trans (by simp [World.frozen?_setCell, af20])
  have e21 : w2.cell? ⟨w.heap.size + 1 + 1, 1, none⟩ = some (.slice X1 n1 d1) := (b2.cell (p := ⟨w.heap.size + 1 + 1, 1, none⟩) (by (try simp only [World.heap_size_alloc, World.heap_size_drew, World.heap_size_setCell]); omega)).trans (World.cell?_setCell_same _ _ _ ((World.cell?_setCell_other _ _ _ _ (by simp)).trans a21))
  have ef21 : w2.frozen? ⟨w.heap.size + 1 + 1, 1, none⟩ = false := (b2.frozen (p := ⟨w.heap.size + 1 + 1, 1, none⟩) (by (try simp only [World.heap_size_alloc, World.heap_size_drew, World.heap_size_setCell]); omega)).trans (by simp [World.frozen?_setCell, af21])
  have e22 : w2.cell? ⟨w.heap.size + 1 + 1, 2, none⟩ = some (.slice none 0 0) := (b2.cell (p := ⟨w.heap.size + 1 + 1, 2, none⟩) (by (try simp only [World.heap_size_alloc, World.heap_size_drew, World.heap_size_setCell]); omega)).trans ((World.cell?_setCell_other _ _ _ _ (by simp)).trans ((World.cell?_setCell_other _ _ _ _ (by simp)).trans a22))
  have ef22 : w2.frozen? ⟨w.heap.size + 1 + 1, 2, none⟩ = false := (b2.frozen (p := ⟨w.heap.size + 1 + 1, 2, none⟩) (by (try simp only [World.heap_size_alloc, World.heap_size_drew, World.heap_size_setCell]); omega)).trans (by simp [World.frozen?_setCell, af22])
  have e23 : w2.cell? ⟨w.heap.size + 1 + 1, 3, none⟩ = some (.slice none 0 0) := (b2.cell (p := ⟨w.heap.size + 1 + 1, 3, none⟩) (by (try simp only [World.heap_size_alloc, World.heap_size_drew, World.heap_size_setCell]); omega)).trans ((World.cell?_setCell_other _ _ _ _ (by simp)).trans ((World.cell?_setCell_other _ _ _ _ (by simp)).trans a23))
  have ef23 : w2.frozen? ⟨w.heap.size + 1 + 1, 3, none⟩ = false := (b2.frozen (p := ⟨w.heap.size + 1 + 1, 3, none⟩) (by (try simp only [World.heap_size_alloc, World.heap_size_drew, World.heap_size_setCell]); omega)).trans (by simp [World.frozen?_setCell, af23])
  have hu1 : Upd (w.heap.size + 1 + 1) (w.heap.size + 1 + 1 + 1) w1 ((w1.setCell ⟨w.heap.size + 1 + 1, 0, none⟩ (.slice X0 n0 d0)).setCell ⟨w.heap.size + 1 + 1, 1, none⟩ (.slice X1 n1 d1)) := ((Upd.refl _ _ _).setCell (p := ⟨w.heap.size + 1 + 1, 0, none⟩) (Nat.le_refl _) (show w.heap.size + 1 + 1 < w.heap.size + 1 + 1 + 1 by omega) _).setCell (p := ⟨w.heap.size + 1 + 1, 1, none⟩) (Nat.le_refl _) (show w.heap.size + 1 + 1 < w.heap.size + 1 + 1 + 1 by omega) _
  have Q0 := Lib.hid (((R1.out.mono (lo' := w.heap.size + 1 + 1 + 1) (by (try simp only [World.heap_size_alloc, World.heap_size_drew, World.heap_size_setCell]); omega) (Nat.le_refl _)).upd hu1 (.inr (by omega))).below b2 (by (try simp only [World.heap_size_alloc, World.heap_size_drew, World.heap_size_setCell]); omega))
  have Q1 := Lib.hid (((S1.out.mono (lo' := w.heap.size + 1 + 1 + 1) (by (try simp only [World.heap_size_alloc, World.heap_size_drew, World.heap_size_setCell]); omega) (Nat.le_refl _)).upd hu1 (.inr (by omega))).below b2 (by (try simp only [World.heap_size_alloc, World.heap_size_drew, World.heap_size_setCell]); omega))
  have Q2 := Lib.hid (r2.mono (lo' := w.heap.size + 1 + 1 + 1) (by (try simp only [World.heap_size_alloc, World.heap_size_drew, World.heap_size_setCell]); omega) (Nat.le_refl _))
  have Q3 := Lib.hid (s2.mono (lo' := w.heap.size + 1 + 1 + 1) (by (try simp only [World.heap_size_alloc, World.heap_size_drew, World.heap_size_setCell]); omega) (Nat.le_refl _))
  have hw2 : Below w.heap.size w w2 := HWA.out.trans (b2.mono (by (try simp only [World.heap_size_alloc, World.heap_size_drew, World.heap_size_setCell]); omega))
  have HW2 := Lib.hid hw2
  clear a02 a03 a10 a11 a12 a13 a20 a21 a22 a23 af10 af11 af12 af13 af20 af21 af22 af23 r2 s2 b2 hw2 hu1
  go_wp2_with fail
  refine bodyPost_ret (v := .agg #[.slice X0 n0 d0, .slice X1 n1 d1, .slice X2 n2 d2, .slice X3 n3 d3]) (by simp [results, Try.results39, go_sem, e10, e11, e12, e13, e20, e21, e22, e23, ef10, ef11, ef12, ef13, ef20, ef21, ef22, ef23]) rfl ⟨X0, d0, X1, d1, X2, d2, X3, d3, rfl, ?_, ?_, ?_, ?_, ?_⟩
  · refine SlR.mono (SlR.upd (lo' := w.heap.size) (hi' := w.heap.size + 3) Q0.out ?_ (.inr (by omega))) (by omega) (by (try simp only [World.heap_size_alloc, World.heap_size_drew, World.heap_size_setCell]); omega)
    (repeat' (first | with_reducible exact Upd.refl _ _ _ | with_reducible assumption | with_reducible refine Upd.setCell ?_ ?_ ?_ _ | (simp only []; omega) | omega))
  · refine SlW.mono (SlW.upd (lo' := w.heap.size) (hi' := w.heap.size + 3) Q1.out ?_ (.inr (by omega))) (by omega) (by (try simp only [World.heap_size_alloc, World.heap_size_drew, World.heap_size_setCell]); omega)
    (repeat' (first | with_reducible exact Upd.refl _ _ _ | with_reducible assumption | with_reducible refine Upd.setCell ?_ ?_ ?_ _ | (simp only []; omega) | omega))
  · refine SlR.mono (SlR.upd (lo' := w.heap.size) (hi' := w.heap.size + 3) Q2.out ?_ (.inr (by omega))) (by omega) (by (try simp only [World.heap_size_alloc, World.heap_size_drew, World.heap_size_setCell]); omega)
    (repeat' (first | with_reducible exact Upd.refl _ _ _ | with_reducible assumption | with_reducible refine Upd.setCell ?_ ?_ ?_ _ | (simp only []; omega) | omega))
  · refine SlW.mono (SlW.upd (lo' := w.heap.size) (hi' := w.heap.size + 3) Q3.out ?_ (.inr (by omega))) (by omega) (by (try simp only [World.heap_size_alloc, World.heap_size_drew, World.heap_size_setCell]); omega)
    (repeat' (first | with_reducible exact Upd.refl _ _ _ | with_reducible assumption | with_reducible refine Upd.setCell ?_ ?_ ?_ _ | (simp only []; omega) | omega))
  · have h9 := HW2.out
    (repeat' (first | with_reducible exact Below.refl _ _ | with_reducible assumption | with_reducible refine Below.drew ?_ | with_reducible refine Below.alloc ?_ ?_ _ | with_reducible refine Below.setCell ?_ ?_ _ | with_reducible refine Below.trans ?_ (Below.mono (by assumption) ?_) | ((try simp only [World.heap_size_alloc, World.heap_size_drew, World.heap_size_setCell]); omega)))

end Go.Proofs.Ytgnilmdaegnaaaa
