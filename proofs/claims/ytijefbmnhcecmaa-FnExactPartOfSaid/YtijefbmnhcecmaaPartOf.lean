/- The law FnExactPartOf returns true for every input. No conditions. -/
import Derived.Test.YtijefbmnhcecmaaPart2
import Derived.Test.YtijefbmnhcecmaaHelp1
import Derived.Deep.RegionHeld3
set_option linter.unusedSimpArgs false
set_option linter.unusedVariables false
namespace Go.Proofs.Ytijefbmnhcecmaa
open Go.ChangeShapes Go.WideShapes Go.ChangeAt Go.RowKit
namespace PartOf
set_option maxRecDepth 100000 in
set_option maxHeartbeats 16000000 in
theorem law_any (i0_0 i0_1 : Int) (AA0 : Option Addr) (n0 cp0 : Nat) (l0 : List EntryD) (x1 : Int) (x2 : Int) (w : World) (h0 : ArgSl w 9 AA0 n0 cp0 (l0.flatMap EntryD.ints)) : Calls Try.prog 8 #[.agg #[.int .i64 i0_0, .int .i64 i0_1, .slice AA0 n0 cp0], .int .i64 x1, .int .i64 x2] w fun e w' => e = .returned (.bool true) ∧ Below w.heap.size w w' := by
  rcases Nat.lt_or_ge (1048576) n0 with hb0 | hn0
  · have hbb : n0 ≤ 9223372036854775807 := Nat.le_trans h0.cap h0.big
    clear h0
    go_enter Try.func8, Try.ntmps8
    go_wp2_with fail
    (with_reducible refine (szBook_big _ _ _ n0 _ _ _ (by omega) (by omega) hbb (by omega)).mono ?_); rintro _ wz ⟨rfl, bz⟩
    have yz := bz.size
    (try simp only [World.heap_size_alloc] at yz)
    go_wp2_with fail
    go_ret
    exact ⟨rfl, by (repeat' (first | with_reducible exact Below.refl _ _ | with_reducible assumption | with_reducible refine Below.drew ?_ | with_reducible refine Below.alloc ?_ ?_ _ | with_reducible refine Below.setCell ?_ ?_ _ | with_reducible refine Below.trans ?_ (Below.mono (by assumption) ?_) | ((try simp only [World.heap_size_alloc, World.heap_size_drew, World.heap_size_setCell]); omega)))⟩
  have CS := fun (A0 : Option Addr) (n0 c0 lo0 hi0 : Nat) W (s0 : Sl W lo0 hi0 9 A0 n0 c0 (l0.flatMap EntryD.ints)) => sPartOf_any i0_0 i0_1 A0 n0 c0 lo0 hi0 l0 x1 x2 W s0
  have CI := fun (A0 : Option Addr) (n0 c0 lo0 hi0 : Nat) W (s0 : Sl W lo0 hi0 9 A0 n0 c0 (l0.flatMap EntryD.ints)) => partOf_any i0_0 i0_1 A0 n0 c0 lo0 hi0 l0 x1 x2 W s0
  have hr : (partOfM i0_0 i0_1 l0 x1 x2).length ≤ 1048576 := Nat.le_trans (partOfM_len _ _ _ _ _) (by omega)
  generalize partOfM i0_0 i0_1 l0 x1 x2 = r at CS CI hr
  generalize hrn : r.length = rn at CS CI hr
  clear hrn
  have HS := Lib.hid CS
  have HI := Lib.hid CI
  clear CS CI
  have bx0 : (w.alloc (.cells #[.int .i64 i0_0, .int .i64 i0_1, .slice AA0 n0 cp0] 24)).cell? ⟨w.heap.size, 0, none⟩ = some (.int .i64 i0_0) := by simp
  have bx1 : (w.alloc (.cells #[.int .i64 i0_0, .int .i64 i0_1, .slice AA0 n0 cp0] 24)).cell? ⟨w.heap.size, 1, none⟩ = some (.int .i64 i0_1) := by simp
  have bx2 : (w.alloc (.cells #[.int .i64 i0_0, .int .i64 i0_1, .slice AA0 n0 cp0] 24)).cell? ⟨w.heap.size, 2, none⟩ = some (.slice AA0 n0 cp0) := by simp
  have SK : ∀ W, Below (w.heap.size + 1) (w.alloc (.cells #[.int .i64 i0_0, .int .i64 i0_1, .slice AA0 n0 cp0] 24)) W → (W.cell? ⟨w.heap.size, 0, none⟩ = some (.int .i64 i0_0) ∧ W.cell? ⟨w.heap.size, 1, none⟩ = some (.int .i64 i0_1) ∧ W.cell? ⟨w.heap.size, 2, none⟩ = some (.slice AA0 n0 cp0) ∧ Below (w.heap.size + 1) (w.alloc (.cells #[.int .i64 i0_0, .int .i64 i0_1, .slice AA0 n0 cp0] 24)) W) := fun W hb => ⟨(hb.cell (p := ⟨w.heap.size, 0, none⟩) (show w.heap.size < w.heap.size + 1 by omega)).trans bx0, (hb.cell (p := ⟨w.heap.size, 1, none⟩) (show w.heap.size < w.heap.size + 1 by omega)).trans bx1, (hb.cell (p := ⟨w.heap.size, 2, none⟩) (show w.heap.size < w.heap.size + 1 by omega)).trans bx2, hb⟩
  have HSK := Lib.hid SK
  clear SK bx0 bx1 bx2
  go_enter Try.func8, Try.ntmps8
  go_wp2_with fail
  (with_reducible refine (szBook_ok _ _ _ n0 _ _ _ (by omega) (by omega)).mono ?_); rintro _ w1 ⟨rfl, b1⟩
  have y1 := b1.size
  (try simp only [World.heap_size_alloc, World.heap_size_drew] at y1)
  have c1 : Below w.heap.size w w1 := by (repeat' (first | with_reducible exact Below.refl _ _ | with_reducible assumption | with_reducible refine Below.drew ?_ | with_reducible refine Below.alloc ?_ ?_ _ | with_reducible refine Below.setCell ?_ ?_ _ | with_reducible refine Below.trans ?_ (Below.mono (by assumption) ?_) | ((try simp only [World.heap_size_alloc, World.heap_size_drew, World.heap_size_setCell]); omega)))
  have z1_0 : w.heap.size < w1.heap.size := by omega
  have cB1 : Below (w.heap.size + 1) (w.alloc (.cells #[.int .i64 i0_0, .int .i64 i0_1, .slice AA0 n0 cp0] 24)) w1 := Below.trans (by (repeat' (first | with_reducible exact Below.refl _ _ | with_reducible assumption | with_reducible refine Below.drew ?_ | with_reducible refine Below.alloc ?_ ?_ _ | with_reducible refine Below.setCell ?_ ?_ _ | with_reducible refine Below.trans ?_ (Below.mono (by assumption) ?_) | ((try simp only [World.heap_size_alloc, World.heap_size_drew, World.heap_size_setCell]); omega)))) (b1.mono (by (try simp only [World.heap_size_alloc, World.heap_size_drew, World.heap_size_setCell]); omega))
  obtain ⟨fx0, fx1, fx2, -⟩ := HSK.out w1 cB1
  go_wp2_with fail
  (with_reducible refine (toBook_any _ _ _ _ _ (l0.flatMap EntryD.ints) _ (h0.below (by (repeat' (first | with_reducible exact Below.refl _ _ | with_reducible assumption | with_reducible refine Below.drew ?_ | with_reducible refine Below.alloc ?_ ?_ _ | with_reducible refine Below.setCell ?_ ?_ _ | with_reducible refine Below.trans ?_ (Below.mono (by assumption) ?_) | ((try simp only [World.heap_size_alloc, World.heap_size_drew, World.heap_size_setCell]); omega))))) hn0).mono ?_); rintro _ w2 ⟨A2, q2, rfl, s2, b2⟩
  have y2 := b2.size
  (try simp only [World.heap_size_alloc, World.heap_size_drew] at y2)
  have c2 : Below w1.heap.size w1 w2 := by (repeat' (first | with_reducible exact Below.refl _ _ | with_reducible assumption | with_reducible refine Below.drew ?_ | with_reducible refine Below.alloc ?_ ?_ _ | with_reducible refine Below.setCell ?_ ?_ _ | with_reducible refine Below.trans ?_ (Below.mono (by assumption) ?_) | ((try simp only [World.heap_size_alloc, World.heap_size_drew, World.heap_size_setCell]); omega)))
  have z2_0 : w.heap.size < w2.heap.size := by omega
  have sa_2 := s2.mono (lo' := w1.heap.size) (by (try simp only [World.heap_size_alloc, World.heap_size_drew, World.heap_size_setCell]); omega) (Nat.le_refl _)
  clear s2
  have cB2 : Below (w.heap.size + 1) (w.alloc (.cells #[.int .i64 i0_0, .int .i64 i0_1, .slice AA0 n0 cp0] 24)) w2 := Below.trans (by (repeat' (first | with_reducible exact Below.refl _ _ | with_reducible assumption | with_reducible refine Below.drew ?_ | with_reducible refine Below.alloc ?_ ?_ _ | with_reducible refine Below.setCell ?_ ?_ _ | with_reducible refine Below.trans ?_ (Below.mono (by assumption) ?_) | ((try simp only [World.heap_size_alloc, World.heap_size_drew, World.heap_size_setCell]); omega)))) (b2.mono (by (try simp only [World.heap_size_alloc, World.heap_size_drew, World.heap_size_setCell]); omega))
  clear fx0 fx1 fx2
  obtain ⟨fx0, fx1, fx2, -⟩ := HSK.out w2 cB2
  go_wp2_with fail
  (with_reducible refine (HS.out _ _ _ _ _ _ (sa_2.below (B := w2.heap.size) (by (repeat' (first | with_reducible exact Below.refl _ _ | with_reducible assumption | with_reducible refine Below.drew ?_ | with_reducible refine Below.alloc ?_ ?_ _ | with_reducible refine Below.setCell ?_ ?_ _ | with_reducible refine Below.trans ?_ (Below.mono (by assumption) ?_) | ((try simp only [World.heap_size_alloc, World.heap_size_drew, World.heap_size_setCell]); omega)))) (by omega))).mono ?_); rintro _ w3 ⟨A3, q3, rfl, s3, b3⟩
  have y3 := b3.size
  (try simp only [World.heap_size_alloc, World.heap_size_drew] at y3)
  have c3 : Below w2.heap.size w2 w3 := by (repeat' (first | with_reducible exact Below.refl _ _ | with_reducible assumption | with_reducible refine Below.drew ?_ | with_reducible refine Below.alloc ?_ ?_ _ | with_reducible refine Below.setCell ?_ ?_ _ | with_reducible refine Below.trans ?_ (Below.mono (by assumption) ?_) | ((try simp only [World.heap_size_alloc, World.heap_size_drew, World.heap_size_setCell]); omega)))
  have z3_0 : w.heap.size < w3.heap.size := by omega
  have sa_3 := sa_2.below c3 (by omega)
  clear sa_2
  have sw_3 := s3.mono (lo' := w2.heap.size) (by (try simp only [World.heap_size_alloc, World.heap_size_drew, World.heap_size_setCell]); omega) (Nat.le_refl _)
  clear s3
  have cB3 : Below (w.heap.size + 1) (w.alloc (.cells #[.int .i64 i0_0, .int .i64 i0_1, .slice AA0 n0 cp0] 24)) w3 := Below.trans (by (repeat' (first | with_reducible exact Below.refl _ _ | with_reducible assumption | with_reducible refine Below.drew ?_ | with_reducible refine Below.alloc ?_ ?_ _ | with_reducible refine Below.setCell ?_ ?_ _ | with_reducible refine Below.trans ?_ (Below.mono (by assumption) ?_) | ((try simp only [World.heap_size_alloc, World.heap_size_drew, World.heap_size_setCell]); omega)))) (b3.mono (by (try simp only [World.heap_size_alloc, World.heap_size_drew, World.heap_size_setCell]); omega))
  clear fx0 fx1 fx2
  obtain ⟨fx0, fx1, fx2, -⟩ := HSK.out w3 cB3
  clear sa_3
  go_wp2_with fail
  (with_reducible refine (toBook_any _ _ _ _ _ (l0.flatMap EntryD.ints) _ (h0.below (by (repeat' (first | with_reducible exact Below.refl _ _ | with_reducible assumption | with_reducible refine Below.drew ?_ | with_reducible refine Below.alloc ?_ ?_ _ | with_reducible refine Below.setCell ?_ ?_ _ | with_reducible refine Below.trans ?_ (Below.mono (by assumption) ?_) | ((try simp only [World.heap_size_alloc, World.heap_size_drew, World.heap_size_setCell]); omega))))) hn0).mono ?_); rintro _ w4 ⟨A4, q4, rfl, s4, b4⟩
  have y4 := b4.size
  (try simp only [World.heap_size_alloc, World.heap_size_drew] at y4)
  have c4 : Below w3.heap.size w3 w4 := by (repeat' (first | with_reducible exact Below.refl _ _ | with_reducible assumption | with_reducible refine Below.drew ?_ | with_reducible refine Below.alloc ?_ ?_ _ | with_reducible refine Below.setCell ?_ ?_ _ | with_reducible refine Below.trans ?_ (Below.mono (by assumption) ?_) | ((try simp only [World.heap_size_alloc, World.heap_size_drew, World.heap_size_setCell]); omega)))
  have z4_0 : w.heap.size < w4.heap.size := by omega
  have sw_4 := sw_3.below c4 (by omega)
  clear sw_3
  have sx0_4 := s4.mono (lo' := w3.heap.size) (by (try simp only [World.heap_size_alloc, World.heap_size_drew, World.heap_size_setCell]); omega) (Nat.le_refl _)
  clear s4
  have cB4 : Below (w.heap.size + 1) (w.alloc (.cells #[.int .i64 i0_0, .int .i64 i0_1, .slice AA0 n0 cp0] 24)) w4 := Below.trans (by (repeat' (first | with_reducible exact Below.refl _ _ | with_reducible assumption | with_reducible refine Below.drew ?_ | with_reducible refine Below.alloc ?_ ?_ _ | with_reducible refine Below.setCell ?_ ?_ _ | with_reducible refine Below.trans ?_ (Below.mono (by assumption) ?_) | ((try simp only [World.heap_size_alloc, World.heap_size_drew, World.heap_size_setCell]); omega)))) (b4.mono (by (try simp only [World.heap_size_alloc, World.heap_size_drew, World.heap_size_setCell]); omega))
  clear fx0 fx1 fx2
  obtain ⟨fx0, fx1, fx2, -⟩ := HSK.out w4 cB4
  obtain ⟨bx0, bx1, bx2, -⟩ := HSK.out w4 cB4
  replace bx0 := (World.cell?_alloc_lt (w := w4) (a := ⟨w.heap.size, 0, none⟩) (.cells #[.int .i64 i0_0, .int .i64 i0_1, .slice A4 n0 q4] 29) (show w.heap.size < w4.heap.size by omega)).trans bx0
  replace bx1 := (World.cell?_alloc_lt (w := w4) (a := ⟨w.heap.size, 1, none⟩) (.cells #[.int .i64 i0_0, .int .i64 i0_1, .slice A4 n0 q4] 29) (show w.heap.size < w4.heap.size by omega)).trans bx1
  replace bx2 := (World.cell?_alloc_lt (w := w4) (a := ⟨w.heap.size, 2, none⟩) (.cells #[.int .i64 i0_0, .int .i64 i0_1, .slice A4 n0 q4] 29) (show w.heap.size < w4.heap.size by omega)).trans bx2
  have bx3 : (w4.alloc (.cells #[.int .i64 i0_0, .int .i64 i0_1, .slice A4 n0 q4] 29)).cell? ⟨w4.heap.size, 0, none⟩ = some (.int .i64 i0_0) := by simp
  have bx4 : (w4.alloc (.cells #[.int .i64 i0_0, .int .i64 i0_1, .slice A4 n0 q4] 29)).cell? ⟨w4.heap.size, 1, none⟩ = some (.int .i64 i0_1) := by simp
  have bx5 : (w4.alloc (.cells #[.int .i64 i0_0, .int .i64 i0_1, .slice A4 n0 q4] 29)).cell? ⟨w4.heap.size, 2, none⟩ = some (.slice A4 n0 q4) := by simp
  have SK : ∀ W, Below (w4.heap.size + 1) (w4.alloc (.cells #[.int .i64 i0_0, .int .i64 i0_1, .slice A4 n0 q4] 29)) W → (W.cell? ⟨w.heap.size, 0, none⟩ = some (.int .i64 i0_0) ∧ W.cell? ⟨w.heap.size, 1, none⟩ = some (.int .i64 i0_1) ∧ W.cell? ⟨w.heap.size, 2, none⟩ = some (.slice AA0 n0 cp0) ∧ W.cell? ⟨w4.heap.size, 0, none⟩ = some (.int .i64 i0_0) ∧ W.cell? ⟨w4.heap.size, 1, none⟩ = some (.int .i64 i0_1) ∧ W.cell? ⟨w4.heap.size, 2, none⟩ = some (.slice A4 n0 q4) ∧ Below (w4.heap.size + 1) (w4.alloc (.cells #[.int .i64 i0_0, .int .i64 i0_1, .slice A4 n0 q4] 29)) W) := fun W hb => ⟨(hb.cell (p := ⟨w.heap.size, 0, none⟩) (show w.heap.size < w4.heap.size + 1 by omega)).trans bx0, (hb.cell (p := ⟨w.heap.size, 1, none⟩) (show w.heap.size < w4.heap.size + 1 by omega)).trans bx1, (hb.cell (p := ⟨w.heap.size, 2, none⟩) (show w.heap.size < w4.heap.size + 1 by omega)).trans bx2, (hb.cell (p := ⟨w4.heap.size, 0, none⟩) (show w4.heap.size < w4.heap.size + 1 by omega)).trans bx3, (hb.cell (p := ⟨w4.heap.size, 1, none⟩) (show w4.heap.size < w4.heap.size + 1 by omega)).trans bx4, (hb.cell (p := ⟨w4.heap.size, 2, none⟩) (show w4.heap.size < w4.heap.size + 1 by omega)).trans bx5, hb⟩
  have HSK4 := Lib.hid SK
  clear SK bx0 bx1 bx2 bx3 bx4 bx5
  go_wp2_with fail
  (with_reducible refine (HI.out _ _ _ _ _ _ (sx0_4.below (B := w4.heap.size) (by (repeat' (first | with_reducible exact Below.refl _ _ | with_reducible assumption | with_reducible refine Below.drew ?_ | with_reducible refine Below.alloc ?_ ?_ _ | with_reducible refine Below.setCell ?_ ?_ _ | with_reducible refine Below.trans ?_ (Below.mono (by assumption) ?_) | ((try simp only [World.heap_size_alloc, World.heap_size_drew, World.heap_size_setCell]); omega)))) (by omega))).mono ?_); rintro _ w5 ⟨A5, q5, rfl, s5, b5⟩
  have y5 := b5.size
  (try simp only [World.heap_size_alloc, World.heap_size_drew] at y5)
  have c5 : Below w4.heap.size w4 w5 := by (repeat' (first | with_reducible exact Below.refl _ _ | with_reducible assumption | with_reducible refine Below.drew ?_ | with_reducible refine Below.alloc ?_ ?_ _ | with_reducible refine Below.setCell ?_ ?_ _ | with_reducible refine Below.trans ?_ (Below.mono (by assumption) ?_) | ((try simp only [World.heap_size_alloc, World.heap_size_drew, World.heap_size_setCell]); omega)))
  have z5_0 : w.heap.size < w5.heap.size := by omega
  have z5_1 : w4.heap.size < w5.heap.size := by omega
  have sw_5 := sw_4.below c5 (by omega)
  clear sw_4
  have sx0_5 := sx0_4.below c5 (by omega)
  clear sx0_4
  have sg_5 := s5.mono (lo' := (w4.heap.size + 1)) (by (try simp only [World.heap_size_alloc, World.heap_size_drew, World.heap_size_setCell]); omega) (Nat.le_refl _)
  clear s5
  have cB5 : Below (w4.heap.size + 1) (w4.alloc (.cells #[.int .i64 i0_0, .int .i64 i0_1, .slice A4 n0 q4] 29)) w5 := Below.trans (by (repeat' (first | with_reducible exact Below.refl _ _ | with_reducible assumption | with_reducible refine Below.drew ?_ | with_reducible refine Below.alloc ?_ ?_ _ | with_reducible refine Below.setCell ?_ ?_ _ | with_reducible refine Below.trans ?_ (Below.mono (by assumption) ?_) | ((try simp only [World.heap_size_alloc, World.heap_size_drew, World.heap_size_setCell]); omega)))) (b5.mono (by (try simp only [World.heap_size_alloc, World.heap_size_drew, World.heap_size_setCell]); omega))
  clear fx0 fx1 fx2
  obtain ⟨fx0, fx1, fx2, fx3, fx4, fx5, -⟩ := HSK4.out w5 cB5
  go_wp2_with fail
  (with_reducible refine (eqEntryS_same _ _ _ _ _ _ _ _ _ _ _ (sg_5.below (B := w5.heap.size) (by (repeat' (first | with_reducible exact Below.refl _ _ | with_reducible assumption | with_reducible refine Below.drew ?_ | with_reducible refine Below.alloc ?_ ?_ _ | with_reducible refine Below.setCell ?_ ?_ _ | with_reducible refine Below.trans ?_ (Below.mono (by assumption) ?_) | ((try simp only [World.heap_size_alloc, World.heap_size_drew, World.heap_size_setCell]); omega)))) (by omega)) (sw_5.below (B := w5.heap.size) (by (repeat' (first | with_reducible exact Below.refl _ _ | with_reducible assumption | with_reducible refine Below.drew ?_ | with_reducible refine Below.alloc ?_ ?_ _ | with_reducible refine Below.setCell ?_ ?_ _ | with_reducible refine Below.trans ?_ (Below.mono (by assumption) ?_) | ((try simp only [World.heap_size_alloc, World.heap_size_drew, World.heap_size_setCell]); omega)))) (by omega))).mono ?_); rintro _ w6 ⟨rfl, b6⟩
  have y6 := b6.size
  (try simp only [World.heap_size_alloc, World.heap_size_drew] at y6)
  have c6 : Below w5.heap.size w5 w6 := by (repeat' (first | with_reducible exact Below.refl _ _ | with_reducible assumption | with_reducible refine Below.drew ?_ | with_reducible refine Below.alloc ?_ ?_ _ | with_reducible refine Below.setCell ?_ ?_ _ | with_reducible refine Below.trans ?_ (Below.mono (by assumption) ?_) | ((try simp only [World.heap_size_alloc, World.heap_size_drew, World.heap_size_setCell]); omega)))
  have z6_0 : w.heap.size < w6.heap.size := by omega
  have z6_1 : w4.heap.size < w6.heap.size := by omega
  have sw_6 := sw_5.below c6 (by omega)
  clear sw_5
  have sx0_6 := sx0_5.below c6 (by omega)
  clear sx0_5
  have sg_6 := sg_5.below c6 (by omega)
  clear sg_5
  have cB6 : Below (w4.heap.size + 1) (w4.alloc (.cells #[.int .i64 i0_0, .int .i64 i0_1, .slice A4 n0 q4] 29)) w6 := Below.trans (by (repeat' (first | with_reducible exact Below.refl _ _ | with_reducible assumption | with_reducible refine Below.drew ?_ | with_reducible refine Below.alloc ?_ ?_ _ | with_reducible refine Below.setCell ?_ ?_ _ | with_reducible refine Below.trans ?_ (Below.mono (by assumption) ?_) | ((try simp only [World.heap_size_alloc, World.heap_size_drew, World.heap_size_setCell]); omega)))) (b6.mono (by (try simp only [World.heap_size_alloc, World.heap_size_drew, World.heap_size_setCell]); omega))
  clear fx0 fx1 fx2 fx3 fx4 fx5
  obtain ⟨fx0, fx1, fx2, fx3, fx4, fx5, -⟩ := HSK4.out w6 cB6
  go_wp2_with fail
  go_region_held3 (fun w' => w'.cell? ⟨w.heap.size, 0, none⟩ = some (.int .i64 i0_0) ∧ w'.cell? ⟨w.heap.size, 1, none⟩ = some (.int .i64 i0_1) ∧ w'.cell? ⟨w.heap.size, 2, none⟩ = some (.slice AA0 n0 cp0) ∧ w'.cell? ⟨w4.heap.size, 0, none⟩ = some (.int .i64 i0_0) ∧ w'.cell? ⟨w4.heap.size, 1, none⟩ = some (.int .i64 i0_1) ∧ w'.cell? ⟨w4.heap.size, 2, none⟩ = some (.slice A4 n0 q4) ∧ Below (w4.heap.size + 1) (w4.alloc (.cells #[.int .i64 i0_0, .int .i64 i0_1, .slice A4 n0 q4] 29)) w')
    (first | (refine HSK4.out _ ?_; (repeat' (first | with_reducible exact Below.refl _ _ | with_reducible assumption | with_reducible refine Below.drew ?_ | with_reducible refine Below.alloc ?_ ?_ _ | with_reducible refine Below.setCell ?_ ?_ _ | with_reducible refine Below.trans ?_ (Below.mono (by assumption) ?_) | ((try simp only [World.heap_size_alloc, World.heap_size_drew, World.heap_size_setCell]); omega)))) | (go_split_ands; refine HSK4.out _ ?_; (repeat' (first | with_reducible exact Below.refl _ _ | with_reducible assumption | with_reducible refine Below.drew ?_ | with_reducible refine Below.alloc ?_ ?_ _ | with_reducible refine Below.setCell ?_ ?_ _ | with_reducible refine Below.trans ?_ (Below.mono (by assumption) ?_) | ((try simp only [World.heap_size_alloc, World.heap_size_drew, World.heap_size_setCell]); omega)))))
    (first | (go_at_call 18; (with_reducible refine (toBook_any _ _ _ _ _ (l0.flatMap EntryD.ints) _ (h0.below (by (repeat' (first | with_reducible exact Below.refl _ _ | with_reducible assumption | with_reducible refine Below.drew ?_ | with_reducible refine Below.alloc ?_ ?_ _ | with_reducible refine Below.setCell ?_ ?_ _ | with_reducible refine Below.trans ?_ (Below.mono (by assumption) ?_) | ((try simp only [World.heap_size_alloc, World.heap_size_drew, World.heap_size_setCell]); omega))))) hn0).mono ?_); rintro _ w7 ⟨A7, q7, rfl, s7, b7⟩; have y7 := b7.size; (try simp only [World.heap_size_alloc, World.heap_size_drew] at y7); have c7 : Below w6.heap.size w6 w7 := (by (repeat' (first | with_reducible exact Below.refl _ _ | with_reducible assumption | with_reducible refine Below.drew ?_ | with_reducible refine Below.alloc ?_ ?_ _ | with_reducible refine Below.setCell ?_ ?_ _ | with_reducible refine Below.trans ?_ (Below.mono (by assumption) ?_) | ((try simp only [World.heap_size_alloc, World.heap_size_drew, World.heap_size_setCell]); omega)))); have cB7 : Below (w4.heap.size + 1) (w4.alloc (.cells #[.int .i64 i0_0, .int .i64 i0_1, .slice A4 n0 q4] 29)) w7 := Below.trans (by (repeat' (first | with_reducible exact Below.refl _ _ | with_reducible assumption | with_reducible refine Below.drew ?_ | with_reducible refine Below.alloc ?_ ?_ _ | with_reducible refine Below.setCell ?_ ?_ _ | with_reducible refine Below.trans ?_ (Below.mono (by assumption) ?_) | ((try simp only [World.heap_size_alloc, World.heap_size_drew, World.heap_size_setCell]); omega)))) (b7.mono (by (try simp only [World.heap_size_alloc, World.heap_size_drew, World.heap_size_setCell]); omega)); have z7_0 : w.heap.size < w7.heap.size := (by omega); have z7_1 : w4.heap.size < w7.heap.size := (by omega); have sw_7 := sw_6.below c7 (by omega); clear sw_6; have sx0_7 := sx0_6.below c7 (by omega); clear sx0_6; have sg_7 := sg_6.below c7 (by omega); clear sg_6; have sy_7 := s7.mono (lo' := w6.heap.size) (by (try simp only [World.heap_size_alloc, World.heap_size_drew, World.heap_size_setCell]); omega) (Nat.le_refl _); clear s7) | (go_at_call 20; (with_reducible refine (eqBook_same _ _ _ _ _ _ _ _ _ _ _ _ _ (sx0_7) (sy_7)).mono ?_); rintro _ w8 ⟨rfl, b8⟩; have y8 := b8.size; (try simp only [World.heap_size_alloc, World.heap_size_drew] at y8); have c8 : Below w7.heap.size w7 w8 := (by (repeat' (first | with_reducible exact Below.refl _ _ | with_reducible assumption | with_reducible refine Below.drew ?_ | with_reducible refine Below.alloc ?_ ?_ _ | with_reducible refine Below.setCell ?_ ?_ _ | with_reducible refine Below.trans ?_ (Below.mono (by assumption) ?_) | ((try simp only [World.heap_size_alloc, World.heap_size_drew, World.heap_size_setCell]); omega)))); have cB8 : Below (w4.heap.size + 1) (w4.alloc (.cells #[.int .i64 i0_0, .int .i64 i0_1, .slice A4 n0 q4] 29)) w8 := Below.trans (by (repeat' (first | with_reducible exact Below.refl _ _ | with_reducible assumption | with_reducible refine Below.drew ?_ | with_reducible refine Below.alloc ?_ ?_ _ | with_reducible refine Below.setCell ?_ ?_ _ | with_reducible refine Below.trans ?_ (Below.mono (by assumption) ?_) | ((try simp only [World.heap_size_alloc, World.heap_size_drew, World.heap_size_setCell]); omega)))) (b8.mono (by (try simp only [World.heap_size_alloc, World.heap_size_drew, World.heap_size_setCell]); omega)); have z8_0 : w.heap.size < w8.heap.size := (by omega); have z8_1 : w4.heap.size < w8.heap.size := (by omega); have sw_8 := sw_7.below c8 (by omega); clear sw_7; have sx0_8 := sx0_7.below c8 (by omega); clear sx0_7; have sg_8 := sg_7.below c8 (by omega); clear sg_7; have sy_8 := sy_7.below c8 (by omega); clear sy_7; clear sy_8))
  clear fx0 fx1 fx2 fx3 fx4 fx5
  obtain ⟨fx0, fx1, fx2, fx3, fx4, fx5, -⟩ := HSK4.out w8 cB8
  go_wp2_with fail
  (with_reducible refine (markBook_any _ _ _ _ _ _ _ _ _ _ (sx0_8.below (B := w8.heap.size) (by (repeat' (first | with_reducible exact Below.refl _ _ | with_reducible assumption | with_reducible refine Below.drew ?_ | with_reducible refine Below.alloc ?_ ?_ _ | with_reducible refine Below.setCell ?_ ?_ _ | with_reducible refine Below.trans ?_ (Below.mono (by assumption) ?_) | ((try simp only [World.heap_size_alloc, World.heap_size_drew, World.heap_size_setCell]); omega)))) (by omega)) (by omega) hn0 (by omega) (by omega)).mono ?_); rintro _ w9 ⟨rfl, m9, u9⟩
  have b9 := u9.below (B := w3.heap.size) (by omega) (by first | omega | ((try simp only [World.heap_size_alloc, World.heap_size_drew, World.heap_size_setCell]); omega))
  have y9 := u9.size
  (try simp only [World.heap_size_alloc, World.heap_size_drew] at y9)
  have c9 : Below w3.heap.size w8 w9 := by (repeat' (first | with_reducible exact Below.refl _ _ | with_reducible assumption | with_reducible refine Below.drew ?_ | with_reducible refine Below.alloc ?_ ?_ _ | with_reducible refine Below.setCell ?_ ?_ _ | with_reducible refine Below.trans ?_ (Below.mono (by assumption) ?_) | ((try simp only [World.heap_size_alloc, World.heap_size_drew, World.heap_size_setCell]); omega)))
  have z9_0 : w.heap.size < w9.heap.size := by omega
  have z9_1 : w4.heap.size < w9.heap.size := by omega
  have sw_9 := sw_8.upd u9 (by omega)
  clear sw_8
  clear sx0_8
  have sg_9 := sg_8.upd u9 (by omega)
  clear sg_8
  have sx0_9 := m9
  clear m9
  have bx0 : w9.cell? ⟨w.heap.size, 0, none⟩ = some (.int .i64 i0_0) := ((ucell u9 (b := w.heap.size) (by first | omega | ((try simp only [World.heap_size_alloc, World.heap_size_drew, World.heap_size_setCell]); omega)) (by first | omega | ((try simp only [World.heap_size_alloc, World.heap_size_drew, World.heap_size_setCell]); omega))).1 0).trans (by first | exact fx0 | simp)
  have bx1 : w9.cell? ⟨w.heap.size, 1, none⟩ = some (.int .i64 i0_1) := ((ucell u9 (b := w.heap.size) (by first | omega | ((try simp only [World.heap_size_alloc, World.heap_size_drew, World.heap_size_setCell]); omega)) (by first | omega | ((try simp only [World.heap_size_alloc, World.heap_size_drew, World.heap_size_setCell]); omega))).1 1).trans (by first | exact fx1 | simp)
  have bx2 : w9.cell? ⟨w.heap.size, 2, none⟩ = some (.slice AA0 n0 cp0) := ((ucell u9 (b := w.heap.size) (by first | omega | ((try simp only [World.heap_size_alloc, World.heap_size_drew, World.heap_size_setCell]); omega)) (by first | omega | ((try simp only [World.heap_size_alloc, World.heap_size_drew, World.heap_size_setCell]); omega))).1 2).trans (by first | exact fx2 | simp)
  have bx3 : w9.cell? ⟨w4.heap.size, 0, none⟩ = some (.int .i64 i0_0) := ((ucell u9 (b := w4.heap.size) (by first | omega | ((try simp only [World.heap_size_alloc, World.heap_size_drew, World.heap_size_setCell]); omega)) (by first | omega | ((try simp only [World.heap_size_alloc, World.heap_size_drew, World.heap_size_setCell]); omega))).1 0).trans (by first | exact fx3 | simp)
  have bx4 : w9.cell? ⟨w4.heap.size, 1, none⟩ = some (.int .i64 i0_1) := ((ucell u9 (b := w4.heap.size) (by first | omega | ((try simp only [World.heap_size_alloc, World.heap_size_drew, World.heap_size_setCell]); omega)) (by first | omega | ((try simp only [World.heap_size_alloc, World.heap_size_drew, World.heap_size_setCell]); omega))).1 1).trans (by first | exact fx4 | simp)
  have bx5 : w9.cell? ⟨w4.heap.size, 2, none⟩ = some (.slice A4 n0 q4) := ((ucell u9 (b := w4.heap.size) (by first | omega | ((try simp only [World.heap_size_alloc, World.heap_size_drew, World.heap_size_setCell]); omega)) (by first | omega | ((try simp only [World.heap_size_alloc, World.heap_size_drew, World.heap_size_setCell]); omega))).1 2).trans (by first | exact fx5 | simp)
  clear fx0 fx1 fx2 fx3 fx4 fx5
  have SK : ∀ W, Below (w9.heap.size) w9 W → (W.cell? ⟨w.heap.size, 0, none⟩ = some (.int .i64 i0_0) ∧ W.cell? ⟨w.heap.size, 1, none⟩ = some (.int .i64 i0_1) ∧ W.cell? ⟨w.heap.size, 2, none⟩ = some (.slice AA0 n0 cp0) ∧ W.cell? ⟨w4.heap.size, 0, none⟩ = some (.int .i64 i0_0) ∧ W.cell? ⟨w4.heap.size, 1, none⟩ = some (.int .i64 i0_1) ∧ W.cell? ⟨w4.heap.size, 2, none⟩ = some (.slice A4 n0 q4) ∧ Below (w9.heap.size) w9 W) := fun W hb => ⟨(hb.cell (p := ⟨w.heap.size, 0, none⟩) (show w.heap.size < w9.heap.size by omega)).trans bx0, (hb.cell (p := ⟨w.heap.size, 1, none⟩) (show w.heap.size < w9.heap.size by omega)).trans bx1, (hb.cell (p := ⟨w.heap.size, 2, none⟩) (show w.heap.size < w9.heap.size by omega)).trans bx2, (hb.cell (p := ⟨w4.heap.size, 0, none⟩) (show w4.heap.size < w9.heap.size by omega)).trans bx3, (hb.cell (p := ⟨w4.heap.size, 1, none⟩) (show w4.heap.size < w9.heap.size by omega)).trans bx4, (hb.cell (p := ⟨w4.heap.size, 2, none⟩) (show w4.heap.size < w9.heap.size by omega)).trans bx5, hb⟩
  have HSK9 := Lib.hid SK
  clear SK bx0 bx1 bx2 bx3 bx4 bx5
  obtain ⟨fx0, fx1, fx2, fx3, fx4, fx5, -⟩ := HSK9.out w9 (Below.refl _ _)
  go_wp2_with fail
  (with_reducible refine (eqEntryS_same _ _ _ _ _ _ _ _ _ _ _ (sg_9.below (B := w9.heap.size) (by (repeat' (first | with_reducible exact Below.refl _ _ | with_reducible assumption | with_reducible refine Below.drew ?_ | with_reducible refine Below.alloc ?_ ?_ _ | with_reducible refine Below.setCell ?_ ?_ _ | with_reducible refine Below.trans ?_ (Below.mono (by assumption) ?_) | ((try simp only [World.heap_size_alloc, World.heap_size_drew, World.heap_size_setCell]); omega)))) (by omega)) (sw_9.below (B := w9.heap.size) (by (repeat' (first | with_reducible exact Below.refl _ _ | with_reducible assumption | with_reducible refine Below.drew ?_ | with_reducible refine Below.alloc ?_ ?_ _ | with_reducible refine Below.setCell ?_ ?_ _ | with_reducible refine Below.trans ?_ (Below.mono (by assumption) ?_) | ((try simp only [World.heap_size_alloc, World.heap_size_drew, World.heap_size_setCell]); omega)))) (by omega))).mono ?_); rintro _ w10 ⟨rfl, b10⟩
  have y10 := b10.size
  (try simp only [World.heap_size_alloc, World.heap_size_drew] at y10)
  have c10 : Below w9.heap.size w9 w10 := by (repeat' (first | with_reducible exact Below.refl _ _ | with_reducible assumption | with_reducible refine Below.drew ?_ | with_reducible refine Below.alloc ?_ ?_ _ | with_reducible refine Below.setCell ?_ ?_ _ | with_reducible refine Below.trans ?_ (Below.mono (by assumption) ?_) | ((try simp only [World.heap_size_alloc, World.heap_size_drew, World.heap_size_setCell]); omega)))
  have z10_0 : w.heap.size < w10.heap.size := by omega
  have z10_1 : w4.heap.size < w10.heap.size := by omega
  have sw_10 := sw_9.below c10 (by omega)
  clear sw_9
  have sg_10 := sg_9.below c10 (by omega)
  clear sg_9
  have sx0_10 := sx0_9.below c10 (by omega)
  clear sx0_9
  have cB10 : Below (w9.heap.size) w9 w10 := Below.trans (by (repeat' (first | with_reducible exact Below.refl _ _ | with_reducible assumption | with_reducible refine Below.drew ?_ | with_reducible refine Below.alloc ?_ ?_ _ | with_reducible refine Below.setCell ?_ ?_ _ | with_reducible refine Below.trans ?_ (Below.mono (by assumption) ?_) | ((try simp only [World.heap_size_alloc, World.heap_size_drew, World.heap_size_setCell]); omega)))) (b10.mono (by (try simp only [World.heap_size_alloc, World.heap_size_drew, World.heap_size_setCell]); omega))
  clear fx0 fx1 fx2 fx3 fx4 fx5
  obtain ⟨fx0, fx1, fx2, fx3, fx4, fx5, -⟩ := HSK9.out w10 cB10
  clear sx0_10
  go_wp2_with fail
  (with_reducible refine (markEntryS_any _ _ _ _ _ _ 1 _ (sg_10.below (B := w10.heap.size) (by (repeat' (first | with_reducible exact Below.refl _ _ | with_reducible assumption | with_reducible refine Below.drew ?_ | with_reducible refine Below.alloc ?_ ?_ _ | with_reducible refine Below.setCell ?_ ?_ _ | with_reducible refine Below.trans ?_ (Below.mono (by assumption) ?_) | ((try simp only [World.heap_size_alloc, World.heap_size_drew, World.heap_size_setCell]); omega)))) (by omega)) hr (by omega) (by omega)).mono ?_); rintro _ w11 ⟨rfl, m11, u11⟩
  have b11 := u11.below (B := (w4.heap.size + 1)) (by omega) (by first | omega | ((try simp only [World.heap_size_alloc, World.heap_size_drew, World.heap_size_setCell]); omega))
  have y11 := u11.size
  (try simp only [World.heap_size_alloc, World.heap_size_drew] at y11)
  have c11 : Below (w4.heap.size + 1) w10 w11 := by (repeat' (first | with_reducible exact Below.refl _ _ | with_reducible assumption | with_reducible refine Below.drew ?_ | with_reducible refine Below.alloc ?_ ?_ _ | with_reducible refine Below.setCell ?_ ?_ _ | with_reducible refine Below.trans ?_ (Below.mono (by assumption) ?_) | ((try simp only [World.heap_size_alloc, World.heap_size_drew, World.heap_size_setCell]); omega)))
  have z11_0 : w.heap.size < w11.heap.size := by omega
  have z11_1 : w4.heap.size < w11.heap.size := by omega
  have sw_11 := sw_10.upd u11 (by omega)
  clear sw_10
  clear sg_10
  have sg_11 := m11
  clear m11
  have bx0 : w11.cell? ⟨w.heap.size, 0, none⟩ = some (.int .i64 i0_0) := ((ucell u11 (b := w.heap.size) (by first | omega | ((try simp only [World.heap_size_alloc, World.heap_size_drew, World.heap_size_setCell]); omega)) (by first | omega | ((try simp only [World.heap_size_alloc, World.heap_size_drew, World.heap_size_setCell]); omega))).1 0).trans (by first | exact fx0 | simp)
  have bx1 : w11.cell? ⟨w.heap.size, 1, none⟩ = some (.int .i64 i0_1) := ((ucell u11 (b := w.heap.size) (by first | omega | ((try simp only [World.heap_size_alloc, World.heap_size_drew, World.heap_size_setCell]); omega)) (by first | omega | ((try simp only [World.heap_size_alloc, World.heap_size_drew, World.heap_size_setCell]); omega))).1 1).trans (by first | exact fx1 | simp)
  have bx2 : w11.cell? ⟨w.heap.size, 2, none⟩ = some (.slice AA0 n0 cp0) := ((ucell u11 (b := w.heap.size) (by first | omega | ((try simp only [World.heap_size_alloc, World.heap_size_drew, World.heap_size_setCell]); omega)) (by first | omega | ((try simp only [World.heap_size_alloc, World.heap_size_drew, World.heap_size_setCell]); omega))).1 2).trans (by first | exact fx2 | simp)
  have bx3 : w11.cell? ⟨w4.heap.size, 0, none⟩ = some (.int .i64 i0_0) := ((ucell u11 (b := w4.heap.size) (by first | omega | ((try simp only [World.heap_size_alloc, World.heap_size_drew, World.heap_size_setCell]); omega)) (by first | omega | ((try simp only [World.heap_size_alloc, World.heap_size_drew, World.heap_size_setCell]); omega))).1 0).trans (by first | exact fx3 | simp)
  have bx4 : w11.cell? ⟨w4.heap.size, 1, none⟩ = some (.int .i64 i0_1) := ((ucell u11 (b := w4.heap.size) (by first | omega | ((try simp only [World.heap_size_alloc, World.heap_size_drew, World.heap_size_setCell]); omega)) (by first | omega | ((try simp only [World.heap_size_alloc, World.heap_size_drew, World.heap_size_setCell]); omega))).1 1).trans (by first | exact fx4 | simp)
  have bx5 : w11.cell? ⟨w4.heap.size, 2, none⟩ = some (.slice A4 n0 q4) := ((ucell u11 (b := w4.heap.size) (by first | omega | ((try simp only [World.heap_size_alloc, World.heap_size_drew, World.heap_size_setCell]); omega)) (by first | omega | ((try simp only [World.heap_size_alloc, World.heap_size_drew, World.heap_size_setCell]); omega))).1 2).trans (by first | exact fx5 | simp)
  clear fx0 fx1 fx2 fx3 fx4 fx5
  have SK : ∀ W, Below (w11.heap.size) w11 W → (W.cell? ⟨w.heap.size, 0, none⟩ = some (.int .i64 i0_0) ∧ W.cell? ⟨w.heap.size, 1, none⟩ = some (.int .i64 i0_1) ∧ W.cell? ⟨w.heap.size, 2, none⟩ = some (.slice AA0 n0 cp0) ∧ W.cell? ⟨w4.heap.size, 0, none⟩ = some (.int .i64 i0_0) ∧ W.cell? ⟨w4.heap.size, 1, none⟩ = some (.int .i64 i0_1) ∧ W.cell? ⟨w4.heap.size, 2, none⟩ = some (.slice A4 n0 q4) ∧ Below (w11.heap.size) w11 W) := fun W hb => ⟨(hb.cell (p := ⟨w.heap.size, 0, none⟩) (show w.heap.size < w11.heap.size by omega)).trans bx0, (hb.cell (p := ⟨w.heap.size, 1, none⟩) (show w.heap.size < w11.heap.size by omega)).trans bx1, (hb.cell (p := ⟨w.heap.size, 2, none⟩) (show w.heap.size < w11.heap.size by omega)).trans bx2, (hb.cell (p := ⟨w4.heap.size, 0, none⟩) (show w4.heap.size < w11.heap.size by omega)).trans bx3, (hb.cell (p := ⟨w4.heap.size, 1, none⟩) (show w4.heap.size < w11.heap.size by omega)).trans bx4, (hb.cell (p := ⟨w4.heap.size, 2, none⟩) (show w4.heap.size < w11.heap.size by omega)).trans bx5, hb⟩
  have HSK11 := Lib.hid SK
  clear SK bx0 bx1 bx2 bx3 bx4 bx5
  obtain ⟨fx0, fx1, fx2, fx3, fx4, fx5, -⟩ := HSK11.out w11 (Below.refl _ _)
  go_wp2_with fail
  (with_reducible refine (heldEntryS_ok _ _ _ _ _ 1 _ (sg_11.below (B := w11.heap.size) (by (repeat' (first | with_reducible exact Below.refl _ _ | with_reducible assumption | with_reducible refine Below.drew ?_ | with_reducible refine Below.alloc ?_ ?_ _ | with_reducible refine Below.setCell ?_ ?_ _ | with_reducible refine Below.trans ?_ (Below.mono (by assumption) ?_) | ((try simp only [World.heap_size_alloc, World.heap_size_drew, World.heap_size_setCell]); omega)))) (by omega)) hr (by omega) (by omega)).mono ?_); rintro _ _ ⟨rfl, rfl⟩
  go_wp2_with fail
  (with_reducible refine (toBook_any _ _ _ _ _ (l0.flatMap EntryD.ints) _ (h0.below (by (repeat' (first | with_reducible exact Below.refl _ _ | with_reducible assumption | with_reducible refine Below.drew ?_ | with_reducible refine Below.alloc ?_ ?_ _ | with_reducible refine Below.setCell ?_ ?_ _ | with_reducible refine Below.trans ?_ (Below.mono (by assumption) ?_) | ((try simp only [World.heap_size_alloc, World.heap_size_drew, World.heap_size_setCell]); omega))))) hn0).mono ?_); rintro _ w12 ⟨A12, q12, rfl, s12, b12⟩
  have y12 := b12.size
  (try simp only [World.heap_size_alloc, World.heap_size_drew] at y12)
  have c12 : Below w11.heap.size w11 w12 := by (repeat' (first | with_reducible exact Below.refl _ _ | with_reducible assumption | with_reducible refine Below.drew ?_ | with_reducible refine Below.alloc ?_ ?_ _ | with_reducible refine Below.setCell ?_ ?_ _ | with_reducible refine Below.trans ?_ (Below.mono (by assumption) ?_) | ((try simp only [World.heap_size_alloc, World.heap_size_drew, World.heap_size_setCell]); omega)))
  have z12_0 : w.heap.size < w12.heap.size := by omega
  have z12_1 : w4.heap.size < w12.heap.size := by omega
  have sw_12 := sw_11.below c12 (by omega)
  clear sw_11
  have sg_12 := sg_11.below c12 (by omega)
  clear sg_11
  have sb_12 := s12.mono (lo' := w11.heap.size) (by (try simp only [World.heap_size_alloc, World.heap_size_drew, World.heap_size_setCell]); omega) (Nat.le_refl _)
  clear s12
  have cB12 : Below (w11.heap.size) w11 w12 := Below.trans (by (repeat' (first | with_reducible exact Below.refl _ _ | with_reducible assumption | with_reducible refine Below.drew ?_ | with_reducible refine Below.alloc ?_ ?_ _ | with_reducible refine Below.setCell ?_ ?_ _ | with_reducible refine Below.trans ?_ (Below.mono (by assumption) ?_) | ((try simp only [World.heap_size_alloc, World.heap_size_drew, World.heap_size_setCell]); omega)))) (b12.mono (by (try simp only [World.heap_size_alloc, World.heap_size_drew, World.heap_size_setCell]); omega))
  clear fx0 fx1 fx2 fx3 fx4 fx5
  obtain ⟨fx0, fx1, fx2, fx3, fx4, fx5, -⟩ := HSK11.out w12 cB12
  go_wp2_with fail
  (with_reducible refine (HI.out _ _ _ _ _ _ (sb_12.below (B := w12.heap.size) (by (repeat' (first | with_reducible exact Below.refl _ _ | with_reducible assumption | with_reducible refine Below.drew ?_ | with_reducible refine Below.alloc ?_ ?_ _ | with_reducible refine Below.setCell ?_ ?_ _ | with_reducible refine Below.trans ?_ (Below.mono (by assumption) ?_) | ((try simp only [World.heap_size_alloc, World.heap_size_drew, World.heap_size_setCell]); omega)))) (by omega))).mono ?_); rintro _ w13 ⟨A13, q13, rfl, s13, b13⟩
  have y13 := b13.size
  (try simp only [World.heap_size_alloc, World.heap_size_drew] at y13)
  have c13 : Below w12.heap.size w12 w13 := by (repeat' (first | with_reducible exact Below.refl _ _ | with_reducible assumption | with_reducible refine Below.drew ?_ | with_reducible refine Below.alloc ?_ ?_ _ | with_reducible refine Below.setCell ?_ ?_ _ | with_reducible refine Below.trans ?_ (Below.mono (by assumption) ?_) | ((try simp only [World.heap_size_alloc, World.heap_size_drew, World.heap_size_setCell]); omega)))
  have z13_0 : w.heap.size < w13.heap.size := by omega
  have z13_1 : w4.heap.size < w13.heap.size := by omega
  have sw_13 := sw_12.below c13 (by omega)
  clear sw_12
  have sg_13 := sg_12.below c13 (by omega)
  clear sg_12
  have sb_13 := sb_12.below c13 (by omega)
  clear sb_12
  have sh_13 := s13.mono (lo' := w12.heap.size) (by (try simp only [World.heap_size_alloc, World.heap_size_drew, World.heap_size_setCell]); omega) (Nat.le_refl _)
  clear s13
  have cB13 : Below (w11.heap.size) w11 w13 := Below.trans (by (repeat' (first | with_reducible exact Below.refl _ _ | with_reducible assumption | with_reducible refine Below.drew ?_ | with_reducible refine Below.alloc ?_ ?_ _ | with_reducible refine Below.setCell ?_ ?_ _ | with_reducible refine Below.trans ?_ (Below.mono (by assumption) ?_) | ((try simp only [World.heap_size_alloc, World.heap_size_drew, World.heap_size_setCell]); omega)))) (b13.mono (by (try simp only [World.heap_size_alloc, World.heap_size_drew, World.heap_size_setCell]); omega))
  clear fx0 fx1 fx2 fx3 fx4 fx5
  obtain ⟨fx0, fx1, fx2, fx3, fx4, fx5, -⟩ := HSK11.out w13 cB13
  clear sb_13
  go_wp2_with fail
  (with_reducible refine (eqEntryS_same _ _ _ _ _ _ _ _ _ _ _ (sh_13.below (B := w13.heap.size) (by (repeat' (first | with_reducible exact Below.refl _ _ | with_reducible assumption | with_reducible refine Below.drew ?_ | with_reducible refine Below.alloc ?_ ?_ _ | with_reducible refine Below.setCell ?_ ?_ _ | with_reducible refine Below.trans ?_ (Below.mono (by assumption) ?_) | ((try simp only [World.heap_size_alloc, World.heap_size_drew, World.heap_size_setCell]); omega)))) (by omega)) (sw_13.below (B := w13.heap.size) (by (repeat' (first | with_reducible exact Below.refl _ _ | with_reducible assumption | with_reducible refine Below.drew ?_ | with_reducible refine Below.alloc ?_ ?_ _ | with_reducible refine Below.setCell ?_ ?_ _ | with_reducible refine Below.trans ?_ (Below.mono (by assumption) ?_) | ((try simp only [World.heap_size_alloc, World.heap_size_drew, World.heap_size_setCell]); omega)))) (by omega))).mono ?_); rintro _ w14 ⟨rfl, b14⟩
  have y14 := b14.size
  (try simp only [World.heap_size_alloc, World.heap_size_drew] at y14)
  have c14 : Below w13.heap.size w13 w14 := by (repeat' (first | with_reducible exact Below.refl _ _ | with_reducible assumption | with_reducible refine Below.drew ?_ | with_reducible refine Below.alloc ?_ ?_ _ | with_reducible refine Below.setCell ?_ ?_ _ | with_reducible refine Below.trans ?_ (Below.mono (by assumption) ?_) | ((try simp only [World.heap_size_alloc, World.heap_size_drew, World.heap_size_setCell]); omega)))
  have z14_0 : w.heap.size < w14.heap.size := by omega
  have z14_1 : w4.heap.size < w14.heap.size := by omega
  have sw_14 := sw_13.below c14 (by omega)
  clear sw_13
  have sg_14 := sg_13.below c14 (by omega)
  clear sg_13
  have sh_14 := sh_13.below c14 (by omega)
  clear sh_13
  have cB14 : Below (w11.heap.size) w11 w14 := Below.trans (by (repeat' (first | with_reducible exact Below.refl _ _ | with_reducible assumption | with_reducible refine Below.drew ?_ | with_reducible refine Below.alloc ?_ ?_ _ | with_reducible refine Below.setCell ?_ ?_ _ | with_reducible refine Below.trans ?_ (Below.mono (by assumption) ?_) | ((try simp only [World.heap_size_alloc, World.heap_size_drew, World.heap_size_setCell]); omega)))) (b14.mono (by (try simp only [World.heap_size_alloc, World.heap_size_drew, World.heap_size_setCell]); omega))
  clear fx0 fx1 fx2 fx3 fx4 fx5
  obtain ⟨fx0, fx1, fx2, fx3, fx4, fx5, -⟩ := HSK11.out w14 cB14
  go_wp2_with fail
  (with_reducible refine (heldEntryS_ok _ _ _ _ _ 1 _ (sg_14.below (B := w14.heap.size) (by (repeat' (first | with_reducible exact Below.refl _ _ | with_reducible assumption | with_reducible refine Below.drew ?_ | with_reducible refine Below.alloc ?_ ?_ _ | with_reducible refine Below.setCell ?_ ?_ _ | with_reducible refine Below.trans ?_ (Below.mono (by assumption) ?_) | ((try simp only [World.heap_size_alloc, World.heap_size_drew, World.heap_size_setCell]); omega)))) (by omega)) hr (by omega) (by omega)).mono ?_); rintro _ _ ⟨rfl, rfl⟩
  go_wp2_with fail
  go_ret
  refine ⟨rfl, ?_⟩
  (repeat' (first | with_reducible exact Below.refl _ _ | with_reducible assumption | with_reducible refine Below.drew ?_ | with_reducible refine Below.alloc ?_ ?_ _ | with_reducible refine Below.setCell ?_ ?_ _ | with_reducible refine Below.trans ?_ (Below.mono (by assumption) ?_) | ((try simp only [World.heap_size_alloc, World.heap_size_drew, World.heap_size_setCell]); omega)))
theorem own : ownKnob Try.prog.godebug = none := by kernel_rfl
theorem laidOut : laidOutB Try.prog = true := by kernel_rfl
set_option maxRecDepth 100000 in
theorem lifted (os : Os) (started : os.Started) (H : Type) (enc : TypeId × Value → H) :
    ReturnsInHanded {} Try.checked os 8 .any (Rows.fnExactPartOfSpec.pre6 enc Try.prog Try.f8 Rows.fnExactPartOfRow.domain false) (Rows.fnExactPartOfSpec.post enc Try.prog Try.f8 false true false false) := by
  refine returnsInHanded_of_change (C := Try.checked) own started (by kernel_rfl) Try.func8
    (ChangeSpec.witness6 (enc := enc) (C := Try.checked) false ⟨#[], #[.agg #[.int .i64 0, .int .i64 0, .slice none 0 0], .int .i64 0, .int .i64 0], []⟩ 8 (by kernel_rfl) (by kernel_rfl) (by kernel_rfl) (by kernel_rfl)) ?_
  intro W base args ds gs before hval0 hW hcnd _
  have hval : ∀ (j : Nat) t v, Try.f8.params[j]? = some t → args[j]? = some v → Value.okWide Try.prog W .any base t v := hval0
  have hW' := hW
  obtain ⟨p, q, hA0, hV, rfl, hfz, hnd⟩ := hW
  have hA : DataW.TrodAll enc Try.prog W 0 (fun _ => true) true Try.f8.params.toList args.toList ds p := hA0
  rw [Try.params8] at hA hval
  obtain ⟨v0, v1, v2, d0, d1, d2, p0, p1, p2, rfl, rfl, rfl, h0, h1, h2⟩ := trodAll_three hA
  obtain ⟨rfl, rfl⟩ := trodVars_none hV
  obtain ⟨i0_0, i0_1, A0, n0, c0, z0, rfl, hz0⟩ := open_Book (m := 3) Try.underlying24 (by kernel_rfl) (by kernel_rfl) Try.underlying2 Try.underlying2 Try.underlying22 (by kernel_rfl) (by kernel_rfl) (hval 0 24 v0 rfl rfl) h0
  obtain ⟨l0, rfl⟩ := unflat EntryD.mk_ints n0 z0 hz0.len
  obtain ⟨x1, rfl, rfl, rfl, wx1⟩ := open_int Try.underlying2 (hval 1 2 v1 rfl rfl) h1
  obtain ⟨x2, rfl, rfl, rfl, wx2⟩ := open_int Try.underlying2 (hval 2 2 v2 rfl rfl) h2
  clear hA0 hval0
  refine (law_any i0_0 i0_1 A0 n0 c0 l0 x1 x2 W hz0).mono fun e W' ⟨he, hb⟩ => ?_
  subst he
  exact ⟨_, rfl, law_post laidOut (by kernel_rfl) rfl Try.underlying4 rfl hW' hb rfl rfl rfl⟩
theorem holds : Rows.FnExactPartOfSaid :=
  OpenClaim.holds_of_wide 8 Try.f8 rfl rfl rfl rfl rfl rfl rfl ⟨rfl, rfl, rfl, rfl, rfl⟩ rfl rfl rfl rfl rfl (by kernel_rfl) Try.func8 (by kernel_rfl)
    (of_decide_eq_true (by kernel_rfl)) (by unfold Func.isWrapper; first | (rw [if_pos (by decide +kernel)]; kernel_rfl) | (rw [if_neg (by decide +kernel)]; exact ⟨rfl, rfl⟩))
    (fun os started H enc _ => lifted os started H enc)
#print axioms holds
end PartOf
end Go.Proofs.Ytijefbmnhcecmaa
