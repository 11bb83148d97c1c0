/- The law FnExactEntryAt returns true for every input. No conditions. -/
import Derived.Test.YtijefbmnhcecmaaBk4
import Derived.Test.YtijefbmnhcecmaaHelp1
import Derived.Deep.RegionHeld3
set_option linter.unusedSimpArgs false
set_option linter.unusedVariables false
namespace Go.Proofs.Ytijefbmnhcecmaa
open Go.ChangeShapes Go.WideShapes Go.ChangeAt Go.RowKit
namespace EntryAt
set_option maxRecDepth 100000 in
set_option maxHeartbeats 16000000 in
theorem law_any (i0_0 i0_1 : Int) (A0 : Option Addr) (n0 c0 : Nat) (l0 : List EntryD) (x1 : Int) (w : World) (h0 : ArgSl w 9 A0 n0 c0 (l0.flatMap EntryD.ints)) : Calls Try.prog 5 #[.agg #[.int .i64 i0_0, .int .i64 i0_1, .slice A0 n0 c0], .int .i64 x1] w fun e w' => e = .returned (.bool true) ∧ Below w.heap.size w w' := by
  rcases Nat.lt_or_ge (1048576) n0 with hb0 | hn0
  · have hbb : n0 ≤ 9223372036854775807 := Nat.le_trans h0.cap h0.big
    clear h0
    go_enter Try.func5, Try.ntmps5
    go_wp2_with fail
    (with_reducible refine (szBook_big _ _ _ n0 _ _ _ (by omega) (by omega) hbb (by omega)).mono ?_); rintro _ wz ⟨rfl, bz⟩
    have yz := bz.size
    (try simp only [World.heap_size_alloc] at yz)
    go_wp2_with fail
    go_ret
    exact ⟨rfl, by (repeat' (first | with_reducible exact Below.refl _ _ | with_reducible assumption | with_reducible refine Below.drew ?_ | with_reducible refine Below.alloc ?_ ?_ _ | with_reducible refine Below.setCell ?_ ?_ _ | with_reducible refine Below.trans ?_ (Below.mono (by assumption) ?_) | ((try simp only [World.heap_size_alloc, World.heap_size_drew, World.heap_size_setCell]); omega)))⟩
  have CS := fun (A0 : Option Addr) (n0 c0 lo0 hi0 : Nat) W (s0 : Sl W lo0 hi0 9 A0 n0 c0 (l0.flatMap EntryD.ints)) => sEntryAt_any i0_0 i0_1 A0 n0 c0 lo0 hi0 l0 x1 W s0
  have CI := fun (A0 : Option Addr) (n0 c0 lo0 hi0 : Nat) W (s0 : Sl W lo0 hi0 9 A0 n0 c0 (l0.flatMap EntryD.ints)) => entryAt_any i0_0 i0_1 A0 n0 c0 lo0 hi0 l0 x1 W s0
  generalize entryAtM i0_0 i0_1 l0 x1 = r at CS CI
  obtain ⟨rv, rb⟩ := r
  have hrb : (rb != rb) = false := by simp
  have HS := Lib.hid CS
  have HI := Lib.hid CI
  clear CS CI
  have bx0 : (w.alloc (.cells #[.int .i64 i0_0, .int .i64 i0_1, .slice A0 n0 c0] 24)).cell? ⟨w.heap.size, 0, none⟩ = some (.int .i64 i0_0) := by simp
  have bx1 : (w.alloc (.cells #[.int .i64 i0_0, .int .i64 i0_1, .slice A0 n0 c0] 24)).cell? ⟨w.heap.size, 1, none⟩ = some (.int .i64 i0_1) := by simp
  have bx2 : (w.alloc (.cells #[.int .i64 i0_0, .int .i64 i0_1, .slice A0 n0 c0] 24)).cell? ⟨w.heap.size, 2, none⟩ = some (.slice A0 n0 c0) := by simp
  have SK : ∀ W, Below (w.heap.size + 1) (w.alloc (.cells #[.int .i64 i0_0, .int .i64 i0_1, .slice A0 n0 c0] 24)) W → (W.cell? ⟨w.heap.size, 0, none⟩ = some (.int .i64 i0_0) ∧ W.cell? ⟨w.heap.size, 1, none⟩ = some (.int .i64 i0_1) ∧ W.cell? ⟨w.heap.size, 2, none⟩ = some (.slice A0 n0 c0) ∧ Below (w.heap.size + 1) (w.alloc (.cells #[.int .i64 i0_0, .int .i64 i0_1, .slice A0 n0 c0] 24)) W) := fun W hb => ⟨(hb.cell (p := ⟨w.heap.size, 0, none⟩) (show w.heap.size < w.heap.size + 1 by omega)).trans bx0, (hb.cell (p := ⟨w.heap.size, 1, none⟩) (show w.heap.size < w.heap.size + 1 by omega)).trans bx1, (hb.cell (p := ⟨w.heap.size, 2, none⟩) (show w.heap.size < w.heap.size + 1 by omega)).trans bx2, hb⟩
  have HSK := Lib.hid SK
  clear SK bx0 bx1 bx2
  go_enter Try.func5, Try.ntmps5
  go_wp2_with fail
  (with_reducible refine (szBook_ok _ _ _ n0 _ _ _ (by omega) (by omega)).mono ?_); rintro _ w1 ⟨rfl, b1⟩
  have y1 := b1.size
  (try simp only [World.heap_size_alloc, World.heap_size_drew] at y1)
  have c1 : Below w.heap.size w w1 := by (repeat' (first | with_reducible exact Below.refl _ _ | with_reducible assumption | with_reducible refine Below.drew ?_ | with_reducible refine Below.alloc ?_ ?_ _ | with_reducible refine Below.setCell ?_ ?_ _ | with_reducible refine Below.trans ?_ (Below.mono (by assumption) ?_) | ((try simp only [World.heap_size_alloc, World.heap_size_drew, World.heap_size_setCell]); omega)))
  obtain ⟨b1_c, b1_f⟩ := bcell b1
  have z1_0 : w.heap.size < w1.heap.size := by omega
  have cB1 : Below (w.heap.size + 1) (w.alloc (.cells #[.int .i64 i0_0, .int .i64 i0_1, .slice A0 n0 c0] 24)) w1 := Below.trans (by (repeat' (first | with_reducible exact Below.refl _ _ | with_reducible assumption | with_reducible refine Below.drew ?_ | with_reducible refine Below.alloc ?_ ?_ _ | with_reducible refine Below.setCell ?_ ?_ _ | with_reducible refine Below.trans ?_ (Below.mono (by assumption) ?_) | ((try simp only [World.heap_size_alloc, World.heap_size_drew, World.heap_size_setCell]); omega)))) (b1.mono (by (try simp only [World.heap_size_alloc, World.heap_size_drew, World.heap_size_setCell]); omega))
  go_wp2_with fail
  (with_reducible refine (toBook_any _ _ _ _ _ (l0.flatMap EntryD.ints) _ (h0.below (by (repeat' (first | with_reducible exact Below.refl _ _ | with_reducible assumption | with_reducible refine Below.drew ?_ | with_reducible refine Below.alloc ?_ ?_ _ | with_reducible refine Below.setCell ?_ ?_ _ | with_reducible refine Below.trans ?_ (Below.mono (by assumption) ?_) | ((try simp only [World.heap_size_alloc, World.heap_size_drew, World.heap_size_setCell]); omega))))) hn0).mono ?_); rintro _ w2 ⟨A2, q2, rfl, s2, b2⟩
  have y2 := b2.size
  (try simp only [World.heap_size_alloc, World.heap_size_drew] at y2)
  have c2 : Below w1.heap.size w1 w2 := by (repeat' (first | with_reducible exact Below.refl _ _ | with_reducible assumption | with_reducible refine Below.drew ?_ | with_reducible refine Below.alloc ?_ ?_ _ | with_reducible refine Below.setCell ?_ ?_ _ | with_reducible refine Below.trans ?_ (Below.mono (by assumption) ?_) | ((try simp only [World.heap_size_alloc, World.heap_size_drew, World.heap_size_setCell]); omega)))
  obtain ⟨b2_c, b2_f⟩ := bcell b2
  have z2_0 : w.heap.size < w2.heap.size := by omega
  have sa_2 := s2.mono (lo' := w1.heap.size) (by (try simp only [World.heap_size_alloc, World.heap_size_drew, World.heap_size_setCell]); omega) (Nat.le_refl _)
  clear s2
  have cB2 : Below (w.heap.size + 1) (w.alloc (.cells #[.int .i64 i0_0, .int .i64 i0_1, .slice A0 n0 c0] 24)) w2 := Below.trans (by (repeat' (first | with_reducible exact Below.refl _ _ | with_reducible assumption | with_reducible refine Below.drew ?_ | with_reducible refine Below.alloc ?_ ?_ _ | with_reducible refine Below.setCell ?_ ?_ _ | with_reducible refine Below.trans ?_ (Below.mono (by assumption) ?_) | ((try simp only [World.heap_size_alloc, World.heap_size_drew, World.heap_size_setCell]); omega)))) (b2.mono (by (try simp only [World.heap_size_alloc, World.heap_size_drew, World.heap_size_setCell]); omega))
  go_wp2_with fail
  (with_reducible refine (HS.out _ _ _ _ _ _ (sa_2)).mono ?_); rintro _ w3 ⟨rfl, b3⟩
  have y3 := b3.size
  (try simp only [World.heap_size_alloc, World.heap_size_drew] at y3)
  have c3 : Below w2.heap.size w2 w3 := by (repeat' (first | with_reducible exact Below.refl _ _ | with_reducible assumption | with_reducible refine Below.drew ?_ | with_reducible refine Below.alloc ?_ ?_ _ | with_reducible refine Below.setCell ?_ ?_ _ | with_reducible refine Below.trans ?_ (Below.mono (by assumption) ?_) | ((try simp only [World.heap_size_alloc, World.heap_size_drew, World.heap_size_setCell]); omega)))
  obtain ⟨b3_c, b3_f⟩ := bcell b3
  have z3_0 : w.heap.size < w3.heap.size := by omega
  have sa_3 := sa_2.below c3 (by omega)
  clear sa_2
  have cB3 : Below (w.heap.size + 1) (w.alloc (.cells #[.int .i64 i0_0, .int .i64 i0_1, .slice A0 n0 c0] 24)) w3 := Below.trans (by (repeat' (first | with_reducible exact Below.refl _ _ | with_reducible assumption | with_reducible refine Below.drew ?_ | with_reducible refine Below.alloc ?_ ?_ _ | with_reducible refine Below.setCell ?_ ?_ _ | with_reducible refine Below.trans ?_ (Below.mono (by assumption) ?_) | ((try simp only [World.heap_size_alloc, World.heap_size_drew, World.heap_size_setCell]); omega)))) (b3.mono (by (try simp only [World.heap_size_alloc, World.heap_size_drew, World.heap_size_setCell]); omega))
  clear sa_3
  go_wp2_with fail
  (with_reducible refine (toBook_any _ _ _ _ _ (l0.flatMap EntryD.ints) _ (h0.below (by (repeat' (first | with_reducible exact Below.refl _ _ | with_reducible assumption | with_reducible refine Below.drew ?_ | with_reducible refine Below.alloc ?_ ?_ _ | with_reducible refine Below.setCell ?_ ?_ _ | with_reducible refine Below.trans ?_ (Below.mono (by assumption) ?_) | ((try simp only [World.heap_size_alloc, World.heap_size_drew, World.heap_size_setCell]); omega))))) hn0).mono ?_); rintro _ w4 ⟨A4, q4, rfl, s4, b4⟩
  have y4 := b4.size
  (try simp only [World.heap_size_alloc, World.heap_size_drew] at y4)
  have c4 : Below w3.heap.size w3 w4 := by (repeat' (first | with_reducible exact Below.refl _ _ | with_reducible assumption | with_reducible refine Below.drew ?_ | with_reducible refine Below.alloc ?_ ?_ _ | with_reducible refine Below.setCell ?_ ?_ _ | with_reducible refine Below.trans ?_ (Below.mono (by assumption) ?_) | ((try simp only [World.heap_size_alloc, World.heap_size_drew, World.heap_size_setCell]); omega)))
  obtain ⟨b4_c, b4_f⟩ := bcell b4
  have z4_0 : w.heap.size < w4.heap.size := by omega
  have z4_1 : w3.heap.size < w4.heap.size := by omega
  have sx_4 := s4.mono (lo' := w3.heap.size) (by (try simp only [World.heap_size_alloc, World.heap_size_drew, World.heap_size_setCell]); omega) (Nat.le_refl _)
  clear s4
  have cB4 : Below (w.heap.size + 1) (w.alloc (.cells #[.int .i64 i0_0, .int .i64 i0_1, .slice A0 n0 c0] 24)) w4 := Below.trans (by (repeat' (first | with_reducible exact Below.refl _ _ | with_reducible assumption | with_reducible refine Below.drew ?_ | with_reducible refine Below.alloc ?_ ?_ _ | with_reducible refine Below.setCell ?_ ?_ _ | with_reducible refine Below.trans ?_ (Below.mono (by assumption) ?_) | ((try simp only [World.heap_size_alloc, World.heap_size_drew, World.heap_size_setCell]); omega)))) (b4.mono (by (try simp only [World.heap_size_alloc, World.heap_size_drew, World.heap_size_setCell]); omega))
  obtain ⟨bx0, bx1, bx2, _⟩ := HSK.out w4 cB4
  replace bx0 := (World.cell?_alloc_lt (w := w4) (a := ⟨w.heap.size, 0, none⟩) (.cells #[.int .i64 i0_0, .int .i64 i0_1, .slice A4 n0 q4] 29) (show w.heap.size < w4.heap.size by omega)).trans bx0
  replace bx1 := (World.cell?_alloc_lt (w := w4) (a := ⟨w.heap.size, 1, none⟩) (.cells #[.int .i64 i0_0, .int .i64 i0_1, .slice A4 n0 q4] 29) (show w.heap.size < w4.heap.size by omega)).trans bx1
  replace bx2 := (World.cell?_alloc_lt (w := w4) (a := ⟨w.heap.size, 2, none⟩) (.cells #[.int .i64 i0_0, .int .i64 i0_1, .slice A4 n0 q4] 29) (show w.heap.size < w4.heap.size by omega)).trans bx2
  have bx3 : (w4.alloc (.cells #[.int .i64 i0_0, .int .i64 i0_1, .slice A4 n0 q4] 29)).cell? ⟨w4.heap.size, 0, none⟩ = some (.int .i64 i0_0) := by simp
  have bx4 : (w4.alloc (.cells #[.int .i64 i0_0, .int .i64 i0_1, .slice A4 n0 q4] 29)).cell? ⟨w4.heap.size, 1, none⟩ = some (.int .i64 i0_1) := by simp
  have bx5 : (w4.alloc (.cells #[.int .i64 i0_0, .int .i64 i0_1, .slice A4 n0 q4] 29)).cell? ⟨w4.heap.size, 2, none⟩ = some (.slice A4 n0 q4) := by simp
  have SK : ∀ W, Below (w4.heap.size + 1) (w4.alloc (.cells #[.int .i64 i0_0, .int .i64 i0_1, .slice A4 n0 q4] 29)) W → (W.cell? ⟨w.heap.size, 0, none⟩ = some (.int .i64 i0_0) ∧ W.cell? ⟨w.heap.size, 1, none⟩ = some (.int .i64 i0_1) ∧ W.cell? ⟨w.heap.size, 2, none⟩ = some (.slice A0 n0 c0) ∧ W.cell? ⟨w4.heap.size, 0, none⟩ = some (.int .i64 i0_0) ∧ W.cell? ⟨w4.heap.size, 1, none⟩ = some (.int .i64 i0_1) ∧ W.cell? ⟨w4.heap.size, 2, none⟩ = some (.slice A4 n0 q4) ∧ Below (w4.heap.size + 1) (w4.alloc (.cells #[.int .i64 i0_0, .int .i64 i0_1, .slice A4 n0 q4] 29)) W) := fun W hb => ⟨(hb.cell (p := ⟨w.heap.size, 0, none⟩) (show w.heap.size < w4.heap.size + 1 by omega)).trans bx0, (hb.cell (p := ⟨w.heap.size, 1, none⟩) (show w.heap.size < w4.heap.size + 1 by omega)).trans bx1, (hb.cell (p := ⟨w.heap.size, 2, none⟩) (show w.heap.size < w4.heap.size + 1 by omega)).trans bx2, (hb.cell (p := ⟨w4.heap.size, 0, none⟩) (show w4.heap.size < w4.heap.size + 1 by omega)).trans bx3, (hb.cell (p := ⟨w4.heap.size, 1, none⟩) (show w4.heap.size < w4.heap.size + 1 by omega)).trans bx4, (hb.cell (p := ⟨w4.heap.size, 2, none⟩) (show w4.heap.size < w4.heap.size + 1 by omega)).trans bx5, hb⟩
  have HSK4 := Lib.hid SK
  clear SK bx0 bx1 bx2 bx3 bx4 bx5
  go_wp2_with fail
  (with_reducible refine (HI.out _ _ _ _ _ _ (sx_4.below (B := w4.heap.size) (by (repeat' (first | with_reducible exact Below.refl _ _ | with_reducible assumption | with_reducible refine Below.drew ?_ | with_reducible refine Below.alloc ?_ ?_ _ | with_reducible refine Below.setCell ?_ ?_ _ | with_reducible refine Below.trans ?_ (Below.mono (by assumption) ?_) | ((try simp only [World.heap_size_alloc, World.heap_size_drew, World.heap_size_setCell]); omega)))) (by omega))).mono ?_); rintro _ w5 ⟨rfl, b5⟩
  have y5 := b5.size
  (try simp only [World.heap_size_alloc, World.heap_size_drew] at y5)
  have c5 : Below w4.heap.size w4 w5 := by (repeat' (first | with_reducible exact Below.refl _ _ | with_reducible assumption | with_reducible refine Below.drew ?_ | with_reducible refine Below.alloc ?_ ?_ _ | with_reducible refine Below.setCell ?_ ?_ _ | with_reducible refine Below.trans ?_ (Below.mono (by assumption) ?_) | ((try simp only [World.heap_size_alloc, World.heap_size_drew, World.heap_size_setCell]); omega)))
  obtain ⟨b5_c, b5_f⟩ := bcell b5
  have z5_0 : w.heap.size < w5.heap.size := by omega
  have z5_1 : w3.heap.size < w5.heap.size := by omega
  have z5_2 : w4.heap.size < w5.heap.size := by omega
  have sx_5 := sx_4.below c5 (by omega)
  clear sx_4
  have cB5 : Below (w4.heap.size + 1) (w4.alloc (.cells #[.int .i64 i0_0, .int .i64 i0_1, .slice A4 n0 q4] 29)) w5 := Below.trans (by (repeat' (first | with_reducible exact Below.refl _ _ | with_reducible assumption | with_reducible refine Below.drew ?_ | with_reducible refine Below.alloc ?_ ?_ _ | with_reducible refine Below.setCell ?_ ?_ _ | with_reducible refine Below.trans ?_ (Below.mono (by assumption) ?_) | ((try simp only [World.heap_size_alloc, World.heap_size_drew, World.heap_size_setCell]); omega)))) (b5.mono (by (try simp only [World.heap_size_alloc, World.heap_size_drew, World.heap_size_setCell]); omega))
  go_wp2_with fail
  (with_reducible refine (eqEntry_same _ _ _ _ _ _ _ _ _ _).mono ?_); rintro _ w6 ⟨rfl, b6⟩
  have y6 := b6.size
  (try simp only [World.heap_size_alloc, World.heap_size_drew] at y6)
  have c6 : Below w5.heap.size w5 w6 := by (repeat' (first | with_reducible exact Below.refl _ _ | with_reducible assumption | with_reducible refine Below.drew ?_ | with_reducible refine Below.alloc ?_ ?_ _ | with_reducible refine Below.setCell ?_ ?_ _ | with_reducible refine Below.trans ?_ (Below.mono (by assumption) ?_) | ((try simp only [World.heap_size_alloc, World.heap_size_drew, World.heap_size_setCell]); omega)))
  obtain ⟨b6_c, b6_f⟩ := bcell b6
  have z6_0 : w.heap.size < w6.heap.size := by omega
  have z6_1 : w3.heap.size < w6.heap.size := by omega
  have z6_2 : w4.heap.size < w6.heap.size := by omega
  have z6_3 : w5.heap.size < w6.heap.size := by omega
  have sx_6 := sx_5.below c6 (by omega)
  clear sx_5
  have cB6 : Below (w4.heap.size + 1) (w4.alloc (.cells #[.int .i64 i0_0, .int .i64 i0_1, .slice A4 n0 q4] 29)) w6 := Below.trans (by (repeat' (first | with_reducible exact Below.refl _ _ | with_reducible assumption | with_reducible refine Below.drew ?_ | with_reducible refine Below.alloc ?_ ?_ _ | with_reducible refine Below.setCell ?_ ?_ _ | with_reducible refine Below.trans ?_ (Below.mono (by assumption) ?_) | ((try simp only [World.heap_size_alloc, World.heap_size_drew, World.heap_size_setCell]); omega)))) (b6.mono (by (try simp only [World.heap_size_alloc, World.heap_size_drew, World.heap_size_setCell]); omega))
  go_wp2_with fail
  go_region_held3 (fun w' => w'.cell? ⟨w.heap.size, 0, none⟩ = some (.int .i64 i0_0) ∧ w'.cell? ⟨w.heap.size, 1, none⟩ = some (.int .i64 i0_1) ∧ w'.cell? ⟨w.heap.size, 2, none⟩ = some (.slice A0 n0 c0) ∧ w'.cell? ⟨w4.heap.size, 0, none⟩ = some (.int .i64 i0_0) ∧ w'.cell? ⟨w4.heap.size, 1, none⟩ = some (.int .i64 i0_1) ∧ w'.cell? ⟨w4.heap.size, 2, none⟩ = some (.slice A4 n0 q4) ∧ Below (w4.heap.size + 1) (w4.alloc (.cells #[.int .i64 i0_0, .int .i64 i0_1, .slice A4 n0 q4] 29)) w')
    (first | (refine HSK4.out _ ?_; (repeat' (first | with_reducible exact Below.refl _ _ | with_reducible assumption | with_reducible refine Below.drew ?_ | with_reducible refine Below.alloc ?_ ?_ _ | with_reducible refine Below.setCell ?_ ?_ _ | with_reducible refine Below.trans ?_ (Below.mono (by assumption) ?_) | ((try simp only [World.heap_size_alloc, World.heap_size_drew, World.heap_size_setCell]); omega)))) | (go_split_ands; refine HSK4.out _ ?_; (repeat' (first | with_reducible exact Below.refl _ _ | with_reducible assumption | with_reducible refine Below.drew ?_ | with_reducible refine Below.alloc ?_ ?_ _ | with_reducible refine Below.setCell ?_ ?_ _ | with_reducible refine Below.trans ?_ (Below.mono (by assumption) ?_) | ((try simp only [World.heap_size_alloc, World.heap_size_drew, World.heap_size_setCell]); omega)))))
    (first | (go_at_call 18; refine (toBook_any _ _ _ _ _ (l0.flatMap EntryD.ints) _ (h0.below (by (repeat' (first | with_reducible exact Below.refl _ _ | with_reducible assumption | with_reducible refine Below.drew ?_ | with_reducible refine Below.alloc ?_ ?_ _ | with_reducible refine Below.setCell ?_ ?_ _ | with_reducible refine Below.trans ?_ (Below.mono (by assumption) ?_) | ((try simp only [World.heap_size_alloc, World.heap_size_drew, World.heap_size_setCell]); omega))))) hn0).mono ?_; rintro _ w7 ⟨A7, q7, rfl, s7, b7⟩; have y7 := b7.size; (try simp only [World.heap_size_alloc, World.heap_size_drew] at y7); have c7 : Below w6.heap.size w6 w7 := (by (repeat' (first | with_reducible exact Below.refl _ _ | with_reducible assumption | with_reducible refine Below.drew ?_ | with_reducible refine Below.alloc ?_ ?_ _ | with_reducible refine Below.setCell ?_ ?_ _ | with_reducible refine Below.trans ?_ (Below.mono (by assumption) ?_) | ((try simp only [World.heap_size_alloc, World.heap_size_drew, World.heap_size_setCell]); omega)))); have cB7 : Below (w4.heap.size + 1) (w4.alloc (.cells #[.int .i64 i0_0, .int .i64 i0_1, .slice A4 n0 q4] 29)) w7 := Below.trans (by (repeat' (first | with_reducible exact Below.refl _ _ | with_reducible assumption | with_reducible refine Below.drew ?_ | with_reducible refine Below.alloc ?_ ?_ _ | with_reducible refine Below.setCell ?_ ?_ _ | with_reducible refine Below.trans ?_ (Below.mono (by assumption) ?_) | ((try simp only [World.heap_size_alloc, World.heap_size_drew, World.heap_size_setCell]); omega)))) (b7.mono (by (try simp only [World.heap_size_alloc, World.heap_size_drew, World.heap_size_setCell]); omega)); obtain ⟨b7_c, b7_f⟩ := bcell b7; have z7_0 : w.heap.size < w7.heap.size := (by omega); have z7_1 : w3.heap.size < w7.heap.size := (by omega); have z7_2 : w4.heap.size < w7.heap.size := (by omega); have z7_3 : w5.heap.size < w7.heap.size := (by omega); have sx_7 := sx_6.below c7 (by omega); clear sx_6; have sy_7 := s7.mono (lo' := w6.heap.size) (by (try simp only [World.heap_size_alloc, World.heap_size_drew, World.heap_size_setCell]); omega) (Nat.le_refl _); clear s7) | (go_at_call 20; refine (eqBook_same _ _ _ _ _ _ _ _ _ _ _ _ _ (sx_7) (sy_7)).mono ?_; rintro _ w8 ⟨rfl, b8⟩; have y8 := b8.size; (try simp only [World.heap_size_alloc, World.heap_size_drew] at y8); have c8 : Below w7.heap.size w7 w8 := (by (repeat' (first | with_reducible exact Below.refl _ _ | with_reducible assumption | with_reducible refine Below.drew ?_ | with_reducible refine Below.alloc ?_ ?_ _ | with_reducible refine Below.setCell ?_ ?_ _ | with_reducible refine Below.trans ?_ (Below.mono (by assumption) ?_) | ((try simp only [World.heap_size_alloc, World.heap_size_drew, World.heap_size_setCell]); omega)))); have cB8 : Below (w4.heap.size + 1) (w4.alloc (.cells #[.int .i64 i0_0, .int .i64 i0_1, .slice A4 n0 q4] 29)) w8 := Below.trans (by (repeat' (first | with_reducible exact Below.refl _ _ | with_reducible assumption | with_reducible refine Below.drew ?_ | with_reducible refine Below.alloc ?_ ?_ _ | with_reducible refine Below.setCell ?_ ?_ _ | with_reducible refine Below.trans ?_ (Below.mono (by assumption) ?_) | ((try simp only [World.heap_size_alloc, World.heap_size_drew, World.heap_size_setCell]); omega)))) (b8.mono (by (try simp only [World.heap_size_alloc, World.heap_size_drew, World.heap_size_setCell]); omega)); obtain ⟨b8_c, b8_f⟩ := bcell b8; have z8_0 : w.heap.size < w8.heap.size := (by omega); have z8_1 : w3.heap.size < w8.heap.size := (by omega); have z8_2 : w4.heap.size < w8.heap.size := (by omega); have z8_3 : w5.heap.size < w8.heap.size := (by omega); have sx_8 := sx_7.below c8 (by omega); clear sx_7; have sy_8 := sy_7.below c8 (by omega); clear sy_7))
  go_wp2_with fail
  go_ret
  refine ⟨rfl, ?_⟩
  clear b1_c b1_f b2_c b2_f b3_c b3_f b4_c b4_f b5_c b5_f b6_c b6_f b7_c b7_f b8_c b8_f
  (repeat' (first | with_reducible exact Below.refl _ _ | with_reducible assumption | with_reducible refine Below.drew ?_ | with_reducible refine Below.alloc ?_ ?_ _ | with_reducible refine Below.setCell ?_ ?_ _ | with_reducible refine Below.trans ?_ (Below.mono (by assumption) ?_) | ((try simp only [World.heap_size_alloc, World.heap_size_drew, World.heap_size_setCell]); omega)))
theorem own : ownKnob Try.prog.godebug = none := by kernel_rfl
theorem laidOut : laidOutB Try.prog = true := by kernel_rfl
set_option maxRecDepth 100000 in
theorem lifted (os : Os) (started : os.Started) (H : Type) (enc : TypeId × Value → H) :
    ReturnsInHanded {} Try.checked os 5 .any (Rows.fnExactEntryAtSpec.pre6 enc Try.prog Try.f5 Rows.fnExactEntryAtRow.domain false) (Rows.fnExactEntryAtSpec.post enc Try.prog Try.f5 false true false false) := by
  refine returnsInHanded_of_change (C := Try.checked) own started (by kernel_rfl) Try.func5
    (ChangeSpec.witness6 (enc := enc) (C := Try.checked) false ⟨#[], #[.agg #[.int .i64 0, .int .i64 0, .slice none 0 0], .int .i64 0], []⟩ 8 (by kernel_rfl) (by kernel_rfl) (by kernel_rfl) (by kernel_rfl)) ?_
  intro W base args ds gs before hval0 hW hcnd _
  have hval : ∀ (j : Nat) t v, Try.f5.params[j]? = some t → args[j]? = some v → Value.okWide Try.prog W .any base t v := hval0
  have hW' := hW
  obtain ⟨p, q, hA0, hV, rfl, hfz, hnd⟩ := hW
  have hA : DataW.TrodAll enc Try.prog W 0 (fun _ => true) true Try.f5.params.toList args.toList ds p := hA0
  rw [Try.params5] at hA hval
  obtain ⟨v0, v1, d0, d1, p0, p1, rfl, rfl, rfl, h0, h1⟩ := trodAll_two hA
  obtain ⟨rfl, rfl⟩ := trodVars_none hV
  obtain ⟨i0_0, i0_1, A0, n0, c0, z0, rfl, hz0⟩ := open_Book (m := 3) Try.underlying24 (by kernel_rfl) (by kernel_rfl) Try.underlying2 Try.underlying2 Try.underlying22 (by kernel_rfl) (by kernel_rfl) (hval 0 24 v0 rfl rfl) h0
  obtain ⟨l0, rfl⟩ := unflat EntryD.mk_ints n0 z0 hz0.len
  obtain ⟨x1, rfl, rfl, rfl, wx1⟩ := open_int Try.underlying2 (hval 1 2 v1 rfl rfl) h1
  clear hA0 hval0
  refine (law_any i0_0 i0_1 A0 n0 c0 l0 x1 W hz0).mono fun e W' ⟨he, hb⟩ => ?_
  subst he
  exact ⟨_, rfl, law_post laidOut (by kernel_rfl) rfl Try.underlying4 rfl hW' hb rfl rfl rfl⟩
theorem holds : Rows.FnExactEntryAtSaid :=
  OpenClaim.holds_of_wide 5 Try.f5 rfl rfl rfl rfl rfl rfl rfl ⟨rfl, rfl, rfl, rfl, rfl⟩ rfl rfl rfl rfl rfl (by kernel_rfl) Try.func5 (by kernel_rfl)
    (of_decide_eq_true (by kernel_rfl)) (by unfold Func.isWrapper; first | (rw [if_pos (by decide +kernel)]; kernel_rfl) | (rw [if_neg (by decide +kernel)]; exact ⟨rfl, rfl⟩))
    (fun os started H enc _ => lifted os started H enc)
#print axioms holds
end EntryAt
end Go.Proofs.Ytijefbmnhcecmaa
