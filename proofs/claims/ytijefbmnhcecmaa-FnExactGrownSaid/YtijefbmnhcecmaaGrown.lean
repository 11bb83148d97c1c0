/- The law FnExactGrown returns true for every input. No conditions. -/
import Derived.Test.YtijefbmnhcecmaaBk15
import Derived.Test.YtijefbmnhcecmaaHelp1
import Derived.Deep.RegionHeld3
set_option linter.unusedSimpArgs false
set_option linter.unusedVariables false
namespace Go.Proofs.Ytijefbmnhcecmaa
open Go.ChangeShapes Go.WideShapes Go.ChangeAt Go.RowKit
namespace Grown
set_option maxRecDepth 100000 in
set_option maxHeartbeats 16000000 in
theorem law_any (i0_0 i0_1 : Int) (AA0 : Option Addr) (n0 cp0 : Nat) (l0 : List EntryD) (AA1 : Option Addr) (n1 cp1 : Nat) (l1 : List EntryD) (w : World) (h0 : ArgSl w 9 AA0 n0 cp0 (l0.flatMap EntryD.ints)) (h1 : ArgSl w 9 AA1 n1 cp1 (l1.flatMap EntryD.ints)) : Calls Try.prog 12 #[.agg #[.int .i64 i0_0, .int .i64 i0_1, .slice AA0 n0 cp0], .slice AA1 n1 cp1] w fun e w' => e = .returned (.bool true) ∧ Below w.heap.size w w' := by
  rcases Nat.lt_or_ge (1048576) n0 with hb0 | hn0
  · have hbb : n0 ≤ 9223372036854775807 := Nat.le_trans h0.cap h0.big
    clear h0 h1
    go_enter Try.func12, Try.ntmps12
    go_wp2_with fail
    (with_reducible refine (szBook_big _ _ _ n0 _ _ _ (by omega) (by omega) hbb (by omega)).mono ?_); rintro _ wz ⟨rfl, bz⟩
    have yz := bz.size
    (try simp only [World.heap_size_alloc] at yz)
    go_wp2_with fail
    go_ret
    exact ⟨rfl, by (repeat' (first | with_reducible exact Below.refl _ _ | with_reducible assumption | with_reducible refine Below.drew ?_ | with_reducible refine Below.alloc ?_ ?_ _ | with_reducible refine Below.setCell ?_ ?_ _ | with_reducible refine Below.trans ?_ (Below.mono (by assumption) ?_) | ((try simp only [World.heap_size_alloc, World.heap_size_drew, World.heap_size_setCell]); omega)))⟩
  rcases Nat.lt_or_ge (1048576 - n0) n1 with hb1 | hn1
  · have hbb : n1 ≤ 9223372036854775807 := Nat.le_trans h1.cap h1.big
    clear h0 h1
    go_enter Try.func12, Try.ntmps12
    go_wp2_with fail
    (with_reducible refine (szBook_ok _ _ _ n0 _ _ _ (by omega) (by omega)).mono ?_); rintro _ wb0 ⟨rfl, bb0⟩
    have yb0 := bb0.size
    (try simp only [World.heap_size_alloc] at yb0)
    obtain ⟨bb0_c, bb0_f⟩ := bcell bb0
    have zb0_0 : w.heap.size < wb0.heap.size := by omega
    go_wp2_with fail
    (with_reducible refine (szEntryS_big  _ n1 _ _ _ (by omega) (by omega) hbb (by omega)).mono ?_); rintro _ _ ⟨rfl, rfl⟩
    go_wp2_with fail
    go_ret
    clear bb0_c bb0_f
    exact ⟨rfl, by (repeat' (first | with_reducible exact Below.refl _ _ | with_reducible assumption | with_reducible refine Below.drew ?_ | with_reducible refine Below.alloc ?_ ?_ _ | with_reducible refine Below.setCell ?_ ?_ _ | with_reducible refine Below.trans ?_ (Below.mono (by assumption) ?_) | ((try simp only [World.heap_size_alloc, World.heap_size_drew, World.heap_size_setCell]); omega)))⟩
  have hs1 := hn1
  replace hn1 : n1 ≤ 1048576 := by omega
  have CS := fun (A0 : Option Addr) (n0 c0 lo0 hi0 : Nat) (A1 : Option Addr) (n1 c1 lo1 hi1 : Nat) W (s0 : Sl W lo0 hi0 9 A0 n0 c0 (l0.flatMap EntryD.ints)) (s1 : Sl W lo1 hi1 9 A1 n1 c1 (l1.flatMap EntryD.ints)) => sGrown_any i0_0 i0_1 A0 n0 c0 lo0 hi0 l0 A1 n1 c1 lo1 hi1 l1 W s0 s1
  have CI := fun (A0 : Option Addr) (n0 c0 lo0 hi0 : Nat) (A1 : Option Addr) (n1 c1 lo1 hi1 : Nat) W (s0 : Sl W lo0 hi0 9 A0 n0 c0 (l0.flatMap EntryD.ints)) (s1 : Sl W lo1 hi1 9 A1 n1 c1 (l1.flatMap EntryD.ints)) => grown_any i0_0 i0_1 A0 n0 c0 lo0 hi0 l0 A1 n1 c1 lo1 hi1 l1 W s0 s1
  have hr : (grownM i0_0 i0_1 l0 l1).2.2.1.length ≤ 1048576 := grownM_len _ _ _ _
  generalize grownM i0_0 i0_1 l0 l1 = r at CS CI hr
  obtain ⟨rb0, rt0, rl, rb⟩ := r
  simp only at CS CI hr
  generalize hrn : rl.length = rn at CS CI hr
  have hrb : (rb != rb) = false := by simp
  clear hrn
  have HS := Lib.hid CS
  have HI := Lib.hid CI
  clear CS CI
  have bx0 : (w.alloc (.cells #[.int .i64 i0_0, .int .i64 i0_1, .slice AA0 n0 cp0] 24)).cell? ⟨w.heap.size, 0, none⟩ = some (.int .i64 i0_0) := by simp
  have bx1 : (w.alloc (.cells #[.int .i64 i0_0, .int .i64 i0_1, .slice AA0 n0 cp0] 24)).cell? ⟨w.heap.size, 1, none⟩ = some (.int .i64 i0_1) := by simp
  have bx2 : (w.alloc (.cells #[.int .i64 i0_0, .int .i64 i0_1, .slice AA0 n0 cp0] 24)).cell? ⟨w.heap.size, 2, none⟩ = some (.slice AA0 n0 cp0) := by simp
  have SK : ∀ W, Below (w.heap.size + 1) (w.alloc (.cells #[.int .i64 i0_0, .int .i64 i0_1, .slice AA0 n0 cp0] 24)) W → (W.cell? ⟨w.heap.size, 0, none⟩ = some (.int .i64 i0_0) ∧ W.cell? ⟨w.heap.size, 1, none⟩ = some (.int .i64 i0_1) ∧ W.cell? ⟨w.heap.size, 2, none⟩ = some (.slice AA0 n0 cp0) ∧ Below (w.heap.size + 1) (w.alloc (.cells #[.int .i64 i0_0, .int .i64 i0_1, .slice AA0 n0 cp0] 24)) W) := fun W hb => ⟨(hb.cell (p := ⟨w.heap.size, 0, none⟩) (show w.heap.size < w.heap.size + 1 by omega)).trans bx0, (hb.cell (p := ⟨w.heap.size, 1, none⟩) (show w.heap.size < w.heap.size + 1 by omega)).trans bx1, (hb.cell (p := ⟨w.heap.size, 2, none⟩) (show w.heap.size < w.heap.size + 1 by omega)).trans bx2, hb⟩
  have HSK := Lib.hid SK
  clear SK bx0 bx1 bx2
  go_enter Try.func12, Try.ntmps12
  go_wp2_with fail
  (with_reducible refine (szBook_ok _ _ _ n0 _ _ _ (by omega) (by omega)).mono ?_); rintro _ w1 ⟨rfl, b1⟩
  have y1 := b1.size
  (try simp only [World.heap_size_alloc, World.heap_size_drew] at y1)
  have c1 : Below w.heap.size w w1 := by (repeat' (first | with_reducible exact Below.refl _ _ | with_reducible assumption | with_reducible refine Below.drew ?_ | with_reducible refine Below.alloc ?_ ?_ _ | with_reducible refine Below.setCell ?_ ?_ _ | with_reducible refine Below.trans ?_ (Below.mono (by assumption) ?_) | ((try simp only [World.heap_size_alloc, World.heap_size_drew, World.heap_size_setCell]); omega)))
  have z1_0 : w.heap.size < w1.heap.size := by omega
  have cB1 : Below (w.heap.size + 1) (w.alloc (.cells #[.int .i64 i0_0, .int .i64 i0_1, .slice AA0 n0 cp0] 24)) w1 := Below.trans (by (repeat' (first | with_reducible exact Below.refl _ _ | with_reducible assumption | with_reducible refine Below.drew ?_ | with_reducible refine Below.alloc ?_ ?_ _ | with_reducible refine Below.setCell ?_ ?_ _ | with_reducible refine Below.trans ?_ (Below.mono (by assumption) ?_) | ((try simp only [World.heap_size_alloc, World.heap_size_drew, World.heap_size_setCell]); omega)))) (b1.mono (by (try simp only [World.heap_size_alloc, World.heap_size_drew, World.heap_size_setCell]); omega))
  obtain ⟨fx0, fx1, fx2, -⟩ := HSK.out w1 cB1
  go_wp2_with fail
  (with_reducible refine (szEntryS_ok  _ n1 _ _ _ (by omega) (by omega)).mono ?_); rintro _ _ ⟨rfl, rfl⟩
  go_wp2_with fail
  (with_reducible refine (toBook_any _ _ _ _ _ (l0.flatMap EntryD.ints) _ (h0.below (by (repeat' (first | with_reducible exact Below.refl _ _ | with_reducible assumption | with_reducible refine Below.drew ?_ | with_reducible refine Below.alloc ?_ ?_ _ | with_reducible refine Below.setCell ?_ ?_ _ | with_reducible refine Below.trans ?_ (Below.mono (by assumption) ?_) | ((try simp only [World.heap_size_alloc, World.heap_size_drew, World.heap_size_setCell]); omega))))) hn0).mono ?_); rintro _ w2 ⟨A2, q2, rfl, s2, b2⟩
  have y2 := b2.size
  (try simp only [World.heap_size_alloc, World.heap_size_drew] at y2)
  have c2 : Below w1.heap.size w1 w2 := by (repeat' (first | with_reducible exact Below.refl _ _ | with_reducible assumption | with_reducible refine Below.drew ?_ | with_reducible refine Below.alloc ?_ ?_ _ | with_reducible refine Below.setCell ?_ ?_ _ | with_reducible refine Below.trans ?_ (Below.mono (by assumption) ?_) | ((try simp only [World.heap_size_alloc, World.heap_size_drew, World.heap_size_setCell]); omega)))
  have z2_0 : w.heap.size < w2.heap.size := by omega
  have sa0_2 := s2.mono (lo' := w1.heap.size) (by (try simp only [World.heap_size_alloc, World.heap_size_drew, World.heap_size_setCell]); omega) (Nat.le_refl _)
  clear s2
  have cB2 : Below (w.heap.size + 1) (w.alloc (.cells #[.int .i64 i0_0, .int .i64 i0_1, .slice AA0 n0 cp0] 24)) w2 := Below.trans (by (repeat' (first | with_reducible exact Below.refl _ _ | with_reducible assumption | with_reducible refine Below.drew ?_ | with_reducible refine Below.alloc ?_ ?_ _ | with_reducible refine Below.setCell ?_ ?_ _ | with_reducible refine Below.trans ?_ (Below.mono (by assumption) ?_) | ((try simp only [World.heap_size_alloc, World.heap_size_drew, World.heap_size_setCell]); omega)))) (b2.mono (by (try simp only [World.heap_size_alloc, World.heap_size_drew, World.heap_size_setCell]); omega))
  clear fx0 fx1 fx2
  obtain ⟨fx0, fx1, fx2, -⟩ := HSK.out w2 cB2
  go_wp2_with fail
  (with_reducible refine (toEntryS_any _ _ _ (l1.flatMap EntryD.ints) _ (h1.below (by (repeat' (first | with_reducible exact Below.refl _ _ | with_reducible assumption | with_reducible refine Below.drew ?_ | with_reducible refine Below.alloc ?_ ?_ _ | with_reducible refine Below.setCell ?_ ?_ _ | with_reducible refine Below.trans ?_ (Below.mono (by assumption) ?_) | ((try simp only [World.heap_size_alloc, World.heap_size_drew, World.heap_size_setCell]); omega))))) hn1).mono ?_); rintro _ w3 ⟨A3, q3, rfl, s3, b3⟩
  have y3 := b3.size
  (try simp only [World.heap_size_alloc, World.heap_size_drew] at y3)
  have c3 : Below w2.heap.size w2 w3 := by (repeat' (first | with_reducible exact Below.refl _ _ | with_reducible assumption | with_reducible refine Below.drew ?_ | with_reducible refine Below.alloc ?_ ?_ _ | with_reducible refine Below.setCell ?_ ?_ _ | with_reducible refine Below.trans ?_ (Below.mono (by assumption) ?_) | ((try simp only [World.heap_size_alloc, World.heap_size_drew, World.heap_size_setCell]); omega)))
  have z3_0 : w.heap.size < w3.heap.size := by omega
  have sa0_3 := sa0_2.below c3 (by omega)
  clear sa0_2
  have sa1_3 := s3.mono (lo' := w2.heap.size) (by (try simp only [World.heap_size_alloc, World.heap_size_drew, World.heap_size_setCell]); omega) (Nat.le_refl _)
  clear s3
  have cB3 : Below (w.heap.size + 1) (w.alloc (.cells #[.int .i64 i0_0, .int .i64 i0_1, .slice AA0 n0 cp0] 24)) w3 := Below.trans (by (repeat' (first | with_reducible exact Below.refl _ _ | with_reducible assumption | with_reducible refine Below.drew ?_ | with_reducible refine Below.alloc ?_ ?_ _ | with_reducible refine Below.setCell ?_ ?_ _ | with_reducible refine Below.trans ?_ (Below.mono (by assumption) ?_) | ((try simp only [World.heap_size_alloc, World.heap_size_drew, World.heap_size_setCell]); omega)))) (b3.mono (by (try simp only [World.heap_size_alloc, World.heap_size_drew, World.heap_size_setCell]); omega))
  clear fx0 fx1 fx2
  obtain ⟨fx0, fx1, fx2, -⟩ := HSK.out w3 cB3
  go_wp2_with fail
  (with_reducible refine (HS.out _ _ _ _ _ _ _ _ _ _ _ (sa0_3) (sa1_3)).mono ?_); rintro _ w4 ⟨A4, q4, rfl, s4, b4⟩
  have y4 := b4.size
  (try simp only [World.heap_size_alloc, World.heap_size_drew] at y4)
  have c4 : Below w3.heap.size w3 w4 := by (repeat' (first | with_reducible exact Below.refl _ _ | with_reducible assumption | with_reducible refine Below.drew ?_ | with_reducible refine Below.alloc ?_ ?_ _ | with_reducible refine Below.setCell ?_ ?_ _ | with_reducible refine Below.trans ?_ (Below.mono (by assumption) ?_) | ((try simp only [World.heap_size_alloc, World.heap_size_drew, World.heap_size_setCell]); omega)))
  have z4_0 : w.heap.size < w4.heap.size := by omega
  have sa0_4 := sa0_3.below c4 (by omega)
  clear sa0_3
  have sa1_4 := sa1_3.below c4 (by omega)
  clear sa1_3
  have sw_4 := s4.mono (lo' := w3.heap.size) (by (try simp only [World.heap_size_alloc, World.heap_size_drew, World.heap_size_setCell]); omega) (Nat.le_refl _)
  clear s4
  have cB4 : Below (w.heap.size + 1) (w.alloc (.cells #[.int .i64 i0_0, .int .i64 i0_1, .slice AA0 n0 cp0] 24)) w4 := Below.trans (by (repeat' (first | with_reducible exact Below.refl _ _ | with_reducible assumption | with_reducible refine Below.drew ?_ | with_reducible refine Below.alloc ?_ ?_ _ | with_reducible refine Below.setCell ?_ ?_ _ | with_reducible refine Below.trans ?_ (Below.mono (by assumption) ?_) | ((try simp only [World.heap_size_alloc, World.heap_size_drew, World.heap_size_setCell]); omega)))) (b4.mono (by (try simp only [World.heap_size_alloc, World.heap_size_drew, World.heap_size_setCell]); omega))
  clear fx0 fx1 fx2
  obtain ⟨fx0, fx1, fx2, -⟩ := HSK.out w4 cB4
  clear sa0_4
  clear sa1_4
  obtain ⟨bx0, bx1, bx2, -⟩ := HSK.out w4 cB4
  replace bx0 := (World.cell?_alloc_lt (w := w4) (a := ⟨w.heap.size, 0, none⟩) (.cells #[.int .i64 rb0, .int .i64 rt0, .slice A4 rn q4] 29) (show w.heap.size < w4.heap.size by omega)).trans bx0
  replace bx1 := (World.cell?_alloc_lt (w := w4) (a := ⟨w.heap.size, 1, none⟩) (.cells #[.int .i64 rb0, .int .i64 rt0, .slice A4 rn q4] 29) (show w.heap.size < w4.heap.size by omega)).trans bx1
  replace bx2 := (World.cell?_alloc_lt (w := w4) (a := ⟨w.heap.size, 2, none⟩) (.cells #[.int .i64 rb0, .int .i64 rt0, .slice A4 rn q4] 29) (show w.heap.size < w4.heap.size by omega)).trans bx2
  have bx3 : (w4.alloc (.cells #[.int .i64 rb0, .int .i64 rt0, .slice A4 rn q4] 29)).cell? ⟨w4.heap.size, 0, none⟩ = some (.int .i64 rb0) := by simp
  have bx4 : (w4.alloc (.cells #[.int .i64 rb0, .int .i64 rt0, .slice A4 rn q4] 29)).cell? ⟨w4.heap.size, 1, none⟩ = some (.int .i64 rt0) := by simp
  have bx5 : (w4.alloc (.cells #[.int .i64 rb0, .int .i64 rt0, .slice A4 rn q4] 29)).cell? ⟨w4.heap.size, 2, none⟩ = some (.slice A4 rn q4) := by simp
  have SK : ∀ W, Below (w4.heap.size + 1) (w4.alloc (.cells #[.int .i64 rb0, .int .i64 rt0, .slice A4 rn q4] 29)) W → (W.cell? ⟨w.heap.size, 0, none⟩ = some (.int .i64 i0_0) ∧ W.cell? ⟨w.heap.size, 1, none⟩ = some (.int .i64 i0_1) ∧ W.cell? ⟨w.heap.size, 2, none⟩ = some (.slice AA0 n0 cp0) ∧ W.cell? ⟨w4.heap.size, 0, none⟩ = some (.int .i64 rb0) ∧ W.cell? ⟨w4.heap.size, 1, none⟩ = some (.int .i64 rt0) ∧ W.cell? ⟨w4.heap.size, 2, none⟩ = some (.slice A4 rn q4) ∧ Below (w4.heap.size + 1) (w4.alloc (.cells #[.int .i64 rb0, .int .i64 rt0, .slice A4 rn q4] 29)) W) := fun W hb => ⟨(hb.cell (p := ⟨w.heap.size, 0, none⟩) (show w.heap.size < w4.heap.size + 1 by omega)).trans bx0, (hb.cell (p := ⟨w.heap.size, 1, none⟩) (show w.heap.size < w4.heap.size + 1 by omega)).trans bx1, (hb.cell (p := ⟨w.heap.size, 2, none⟩) (show w.heap.size < w4.heap.size + 1 by omega)).trans bx2, (hb.cell (p := ⟨w4.heap.size, 0, none⟩) (show w4.heap.size < w4.heap.size + 1 by omega)).trans bx3, (hb.cell (p := ⟨w4.heap.size, 1, none⟩) (show w4.heap.size < w4.heap.size + 1 by omega)).trans bx4, (hb.cell (p := ⟨w4.heap.size, 2, none⟩) (show w4.heap.size < w4.heap.size + 1 by omega)).trans bx5, hb⟩
  have HSK4 := Lib.hid SK
  clear SK bx0 bx1 bx2 bx3 bx4 bx5
  go_wp2_with fail
  (with_reducible refine (toBook_any _ _ _ _ _ (l0.flatMap EntryD.ints) _ (h0.below (by (repeat' (first | with_reducible exact Below.refl _ _ | with_reducible assumption | with_reducible refine Below.drew ?_ | with_reducible refine Below.alloc ?_ ?_ _ | with_reducible refine Below.setCell ?_ ?_ _ | with_reducible refine Below.trans ?_ (Below.mono (by assumption) ?_) | ((try simp only [World.heap_size_alloc, World.heap_size_drew, World.heap_size_setCell]); omega))))) hn0).mono ?_); rintro _ w5 ⟨A5, q5, rfl, s5, b5⟩
  have y5 := b5.size
  (try simp only [World.heap_size_alloc, World.heap_size_drew] at y5)
  have c5 : Below w4.heap.size w4 w5 := by (repeat' (first | with_reducible exact Below.refl _ _ | with_reducible assumption | with_reducible refine Below.drew ?_ | with_reducible refine Below.alloc ?_ ?_ _ | with_reducible refine Below.setCell ?_ ?_ _ | with_reducible refine Below.trans ?_ (Below.mono (by assumption) ?_) | ((try simp only [World.heap_size_alloc, World.heap_size_drew, World.heap_size_setCell]); omega)))
  have z5_0 : w.heap.size < w5.heap.size := by omega
  have z5_1 : w4.heap.size < w5.heap.size := by omega
  have sw_5 := sw_4.below c5 (by omega)
  clear sw_4
  have sx0_5 := s5.mono (lo' := (w4.heap.size + 1)) (by (try simp only [World.heap_size_alloc, World.heap_size_drew, World.heap_size_setCell]); omega) (Nat.le_refl _)
  clear s5
  have cB5 : Below (w4.heap.size + 1) (w4.alloc (.cells #[.int .i64 rb0, .int .i64 rt0, .slice A4 rn q4] 29)) w5 := Below.trans (by (repeat' (first | with_reducible exact Below.refl _ _ | with_reducible assumption | with_reducible refine Below.drew ?_ | with_reducible refine Below.alloc ?_ ?_ _ | with_reducible refine Below.setCell ?_ ?_ _ | with_reducible refine Below.trans ?_ (Below.mono (by assumption) ?_) | ((try simp only [World.heap_size_alloc, World.heap_size_drew, World.heap_size_setCell]); omega)))) (b5.mono (by (try simp only [World.heap_size_alloc, World.heap_size_drew, World.heap_size_setCell]); omega))
  clear fx0 fx1 fx2
  obtain ⟨fx0, fx1, fx2, fx3, fx4, fx5, -⟩ := HSK4.out w5 cB5
  obtain ⟨bx0, bx1, bx2, bx3, bx4, bx5, -⟩ := HSK4.out w5 cB5
  replace bx0 := (World.cell?_alloc_lt (w := w5) (a := ⟨w.heap.size, 0, none⟩) (.cells #[.int .i64 i0_0, .int .i64 i0_1, .slice A5 n0 q5] 29) (show w.heap.size < w5.heap.size by omega)).trans bx0
  replace bx1 := (World.cell?_alloc_lt (w := w5) (a := ⟨w.heap.size, 1, none⟩) (.cells #[.int .i64 i0_0, .int .i64 i0_1, .slice A5 n0 q5] 29) (show w.heap.size < w5.heap.size by omega)).trans bx1
  replace bx2 := (World.cell?_alloc_lt (w := w5) (a := ⟨w.heap.size, 2, none⟩) (.cells #[.int .i64 i0_0, .int .i64 i0_1, .slice A5 n0 q5] 29) (show w.heap.size < w5.heap.size by omega)).trans bx2
  replace bx3 := (World.cell?_alloc_lt (w := w5) (a := ⟨w4.heap.size, 0, none⟩) (.cells #[.int .i64 i0_0, .int .i64 i0_1, .slice A5 n0 q5] 29) (show w4.heap.size < w5.heap.size by omega)).trans bx3
  replace bx4 := (World.cell?_alloc_lt (w := w5) (a := ⟨w4.heap.size, 1, none⟩) (.cells #[.int .i64 i0_0, .int .i64 i0_1, .slice A5 n0 q5] 29) (show w4.heap.size < w5.heap.size by omega)).trans bx4
  replace bx5 := (World.cell?_alloc_lt (w := w5) (a := ⟨w4.heap.size, 2, none⟩) (.cells #[.int .i64 i0_0, .int .i64 i0_1, .slice A5 n0 q5] 29) (show w4.heap.size < w5.heap.size by omega)).trans bx5
  have bx6 : (w5.alloc (.cells #[.int .i64 i0_0, .int .i64 i0_1, .slice A5 n0 q5] 29)).cell? ⟨w5.heap.size, 0, none⟩ = some (.int .i64 i0_0) := by simp
  have bx7 : (w5.alloc (.cells #[.int .i64 i0_0, .int .i64 i0_1, .slice A5 n0 q5] 29)).cell? ⟨w5.heap.size, 1, none⟩ = some (.int .i64 i0_1) := by simp
  have bx8 : (w5.alloc (.cells #[.int .i64 i0_0, .int .i64 i0_1, .slice A5 n0 q5] 29)).cell? ⟨w5.heap.size, 2, none⟩ = some (.slice A5 n0 q5) := by simp
  have SK : ∀ W, Below (w5.heap.size + 1) (w5.alloc (.cells #[.int .i64 i0_0, .int .i64 i0_1, .slice A5 n0 q5] 29)) W → (W.cell? ⟨w.heap.size, 0, none⟩ = some (.int .i64 i0_0) ∧ W.cell? ⟨w.heap.size, 1, none⟩ = some (.int .i64 i0_1) ∧ W.cell? ⟨w.heap.size, 2, none⟩ = some (.slice AA0 n0 cp0) ∧ W.cell? ⟨w4.heap.size, 0, none⟩ = some (.int .i64 rb0) ∧ W.cell? ⟨w4.heap.size, 1, none⟩ = some (.int .i64 rt0) ∧ W.cell? ⟨w4.heap.size, 2, none⟩ = some (.slice A4 rn q4) ∧ W.cell? ⟨w5.heap.size, 0, none⟩ = some (.int .i64 i0_0) ∧ W.cell? ⟨w5.heap.size, 1, none⟩ = some (.int .i64 i0_1) ∧ W.cell? ⟨w5.heap.size, 2, none⟩ = some (.slice A5 n0 q5) ∧ Below (w5.heap.size + 1) (w5.alloc (.cells #[.int .i64 i0_0, .int .i64 i0_1, .slice A5 n0 q5] 29)) W) := fun W hb => ⟨(hb.cell (p := ⟨w.heap.size, 0, none⟩) (show w.heap.size < w5.heap.size + 1 by omega)).trans bx0, (hb.cell (p := ⟨w.heap.size, 1, none⟩) (show w.heap.size < w5.heap.size + 1 by omega)).trans bx1, (hb.cell (p := ⟨w.heap.size, 2, none⟩) (show w.heap.size < w5.heap.size + 1 by omega)).trans bx2, (hb.cell (p := ⟨w4.heap.size, 0, none⟩) (show w4.heap.size < w5.heap.size + 1 by omega)).trans bx3, (hb.cell (p := ⟨w4.heap.size, 1, none⟩) (show w4.heap.size < w5.heap.size + 1 by omega)).trans bx4, (hb.cell (p := ⟨w4.heap.size, 2, none⟩) (show w4.heap.size < w5.heap.size + 1 by omega)).trans bx5, (hb.cell (p := ⟨w5.heap.size, 0, none⟩) (show w5.heap.size < w5.heap.size + 1 by omega)).trans bx6, (hb.cell (p := ⟨w5.heap.size, 1, none⟩) (show w5.heap.size < w5.heap.size + 1 by omega)).trans bx7, (hb.cell (p := ⟨w5.heap.size, 2, none⟩) (show w5.heap.size < w5.heap.size + 1 by omega)).trans bx8, hb⟩
  have HSK5 := Lib.hid SK
  clear SK bx0 bx1 bx2 bx3 bx4 bx5 bx6 bx7 bx8
  go_wp2_with fail
  (with_reducible refine (toEntryS_any _ _ _ (l1.flatMap EntryD.ints) _ (h1.below (by (repeat' (first | with_reducible exact Below.refl _ _ | with_reducible assumption | with_reducible refine Below.drew ?_ | with_reducible refine Below.alloc ?_ ?_ _ | with_reducible refine Below.setCell ?_ ?_ _ | with_reducible refine Below.trans ?_ (Below.mono (by assumption) ?_) | ((try simp only [World.heap_size_alloc, World.heap_size_drew, World.heap_size_setCell]); omega))))) hn1).mono ?_); rintro _ w6 ⟨A6, q6, rfl, s6, b6⟩
  have y6 := b6.size
  (try simp only [World.heap_size_alloc, World.heap_size_drew] at y6)
  have c6 : Below w5.heap.size w5 w6 := by (repeat' (first | with_reducible exact Below.refl _ _ | with_reducible assumption | with_reducible refine Below.drew ?_ | with_reducible refine Below.alloc ?_ ?_ _ | with_reducible refine Below.setCell ?_ ?_ _ | with_reducible refine Below.trans ?_ (Below.mono (by assumption) ?_) | ((try simp only [World.heap_size_alloc, World.heap_size_drew, World.heap_size_setCell]); omega)))
  have z6_0 : w.heap.size < w6.heap.size := by omega
  have z6_1 : w4.heap.size < w6.heap.size := by omega
  have z6_2 : w5.heap.size < w6.heap.size := by omega
  have sw_6 := sw_5.below c6 (by omega)
  clear sw_5
  have sx0_6 := sx0_5.below c6 (by omega)
  clear sx0_5
  have sx1_6 := s6.mono (lo' := (w5.heap.size + 1)) (by (try simp only [World.heap_size_alloc, World.heap_size_drew, World.heap_size_setCell]); omega) (Nat.le_refl _)
  clear s6
  have cB6 : Below (w5.heap.size + 1) (w5.alloc (.cells #[.int .i64 i0_0, .int .i64 i0_1, .slice A5 n0 q5] 29)) w6 := Below.trans (by (repeat' (first | with_reducible exact Below.refl _ _ | with_reducible assumption | with_reducible refine Below.drew ?_ | with_reducible refine Below.alloc ?_ ?_ _ | with_reducible refine Below.setCell ?_ ?_ _ | with_reducible refine Below.trans ?_ (Below.mono (by assumption) ?_) | ((try simp only [World.heap_size_alloc, World.heap_size_drew, World.heap_size_setCell]); omega)))) (b6.mono (by (try simp only [World.heap_size_alloc, World.heap_size_drew, World.heap_size_setCell]); omega))
  clear fx0 fx1 fx2 fx3 fx4 fx5
  obtain ⟨fx0, fx1, fx2, fx3, fx4, fx5, fx6, fx7, fx8, -⟩ := HSK5.out w6 cB6
  go_wp2_with fail
  (with_reducible refine (HI.out _ _ _ _ _ _ _ _ _ _ _ (sx0_6.below (B := w6.heap.size) (by (repeat' (first | with_reducible exact Below.refl _ _ | with_reducible assumption | with_reducible refine Below.drew ?_ | with_reducible refine Below.alloc ?_ ?_ _ | with_reducible refine Below.setCell ?_ ?_ _ | with_reducible refine Below.trans ?_ (Below.mono (by assumption) ?_) | ((try simp only [World.heap_size_alloc, World.heap_size_drew, World.heap_size_setCell]); omega)))) (by omega)) (sx1_6.below (B := w6.heap.size) (by (repeat' (first | with_reducible exact Below.refl _ _ | with_reducible assumption | with_reducible refine Below.drew ?_ | with_reducible refine Below.alloc ?_ ?_ _ | with_reducible refine Below.setCell ?_ ?_ _ | with_reducible refine Below.trans ?_ (Below.mono (by assumption) ?_) | ((try simp only [World.heap_size_alloc, World.heap_size_drew, World.heap_size_setCell]); omega)))) (by omega))).mono ?_); rintro _ w7 ⟨A7, q7, rfl, s7, b7⟩
  have y7 := b7.size
  (try simp only [World.heap_size_alloc, World.heap_size_drew] at y7)
  have c7 : Below w6.heap.size w6 w7 := by (repeat' (first | with_reducible exact Below.refl _ _ | with_reducible assumption | with_reducible refine Below.drew ?_ | with_reducible refine Below.alloc ?_ ?_ _ | with_reducible refine Below.setCell ?_ ?_ _ | with_reducible refine Below.trans ?_ (Below.mono (by assumption) ?_) | ((try simp only [World.heap_size_alloc, World.heap_size_drew, World.heap_size_setCell]); omega)))
  have z7_0 : w.heap.size < w7.heap.size := by omega
  have z7_1 : w4.heap.size < w7.heap.size := by omega
  have z7_2 : w5.heap.size < w7.heap.size := by omega
  have sw_7 := sw_6.below c7 (by omega)
  clear sw_6
  have sx0_7 := sx0_6.below c7 (by omega)
  clear sx0_6
  have sx1_7 := sx1_6.below c7 (by omega)
  clear sx1_6
  have sg_7 := s7.mono (lo' := w6.heap.size) (by (try simp only [World.heap_size_alloc, World.heap_size_drew, World.heap_size_setCell]); omega) (Nat.le_refl _)
  clear s7
  have cB7 : Below (w5.heap.size + 1) (w5.alloc (.cells #[.int .i64 i0_0, .int .i64 i0_1, .slice A5 n0 q5] 29)) w7 := Below.trans (by (repeat' (first | with_reducible exact Below.refl _ _ | with_reducible assumption | with_reducible refine Below.drew ?_ | with_reducible refine Below.alloc ?_ ?_ _ | with_reducible refine Below.setCell ?_ ?_ _ | with_reducible refine Below.trans ?_ (Below.mono (by assumption) ?_) | ((try simp only [World.heap_size_alloc, World.heap_size_drew, World.heap_size_setCell]); omega)))) (b7.mono (by (try simp only [World.heap_size_alloc, World.heap_size_drew, World.heap_size_setCell]); omega))
  clear fx0 fx1 fx2 fx3 fx4 fx5 fx6 fx7 fx8
  obtain ⟨fx0, fx1, fx2, fx3, fx4, fx5, fx6, fx7, fx8, -⟩ := HSK5.out w7 cB7
  obtain ⟨bx0, bx1, bx2, bx3, bx4, bx5, bx6, bx7, bx8, -⟩ := HSK5.out w7 cB7
  replace bx0 := (World.cell?_alloc_lt (w := w7) (a := ⟨w.heap.size, 0, none⟩) (.cells #[.int .i64 rb0, .int .i64 rt0, .slice A7 rn q7] 29) (show w.heap.size < w7.heap.size by omega)).trans bx0
  replace bx1 := (World.cell?_alloc_lt (w := w7) (a := ⟨w.heap.size, 1, none⟩) (.cells #[.int .i64 rb0, .int .i64 rt0, .slice A7 rn q7] 29) (show w.heap.size < w7.heap.size by omega)).trans bx1
  replace bx2 := (World.cell?_alloc_lt (w := w7) (a := ⟨w.heap.size, 2, none⟩) (.cells #[.int .i64 rb0, .int .i64 rt0, .slice A7 rn q7] 29) (show w.heap.size < w7.heap.size by omega)).trans bx2
  replace bx3 := (World.cell?_alloc_lt (w := w7) (a := ⟨w4.heap.size, 0, none⟩) (.cells #[.int .i64 rb0, .int .i64 rt0, .slice A7 rn q7] 29) (show w4.heap.size < w7.heap.size by omega)).trans bx3
  replace bx4 := (World.cell?_alloc_lt (w := w7) (a := ⟨w4.heap.size, 1, none⟩) (.cells #[.int .i64 rb0, .int .i64 rt0, .slice A7 rn q7] 29) (show w4.heap.size < w7.heap.size by omega)).trans bx4
  replace bx5 := (World.cell?_alloc_lt (w := w7) (a := ⟨w4.heap.size, 2, none⟩) (.cells #[.int .i64 rb0, .int .i64 rt0, .slice A7 rn q7] 29) (show w4.heap.size < w7.heap.size by omega)).trans bx5
  replace bx6 := (World.cell?_alloc_lt (w := w7) (a := ⟨w5.heap.size, 0, none⟩) (.cells #[.int .i64 rb0, .int .i64 rt0, .slice A7 rn q7] 29) (show w5.heap.size < w7.heap.size by omega)).trans bx6
  replace bx7 := (World.cell?_alloc_lt (w := w7) (a := ⟨w5.heap.size, 1, none⟩) (.cells #[.int .i64 rb0, .int .i64 rt0, .slice A7 rn q7] 29) (show w5.heap.size < w7.heap.size by omega)).trans bx7
  replace bx8 := (World.cell?_alloc_lt (w := w7) (a := ⟨w5.heap.size, 2, none⟩) (.cells #[.int .i64 rb0, .int .i64 rt0, .slice A7 rn q7] 29) (show w5.heap.size < w7.heap.size by omega)).trans bx8
  have bx9 : (w7.alloc (.cells #[.int .i64 rb0, .int .i64 rt0, .slice A7 rn q7] 29)).cell? ⟨w7.heap.size, 0, none⟩ = some (.int .i64 rb0) := by simp
  have bx10 : (w7.alloc (.cells #[.int .i64 rb0, .int .i64 rt0, .slice A7 rn q7] 29)).cell? ⟨w7.heap.size, 1, none⟩ = some (.int .i64 rt0) := by simp
  have bx11 : (w7.alloc (.cells #[.int .i64 rb0, .int .i64 rt0, .slice A7 rn q7] 29)).cell? ⟨w7.heap.size, 2, none⟩ = some (.slice A7 rn q7) := by simp
  have SK : ∀ W, Below (w7.heap.size + 1) (w7.alloc (.cells #[.int .i64 rb0, .int .i64 rt0, .slice A7 rn q7] 29)) W → (W.cell? ⟨w.heap.size, 0, none⟩ = some (.int .i64 i0_0) ∧ W.cell? ⟨w.heap.size, 1, none⟩ = some (.int .i64 i0_1) ∧ W.cell? ⟨w.heap.size, 2, none⟩ = some (.slice AA0 n0 cp0) ∧ W.cell? ⟨w4.heap.size, 0, none⟩ = some (.int .i64 rb0) ∧ W.cell? ⟨w4.heap.size, 1, none⟩ = some (.int .i64 rt0) ∧ W.cell? ⟨w4.heap.size, 2, none⟩ = some (.slice A4 rn q4) ∧ W.cell? ⟨w5.heap.size, 0, none⟩ = some (.int .i64 i0_0) ∧ W.cell? ⟨w5.heap.size, 1, none⟩ = some (.int .i64 i0_1) ∧ W.cell? ⟨w5.heap.size, 2, none⟩ = some (.slice A5 n0 q5) ∧ W.cell? ⟨w7.heap.size, 0, none⟩ = some (.int .i64 rb0) ∧ W.cell? ⟨w7.heap.size, 1, none⟩ = some (.int .i64 rt0) ∧ W.cell? ⟨w7.heap.size, 2, none⟩ = some (.slice A7 rn q7) ∧ Below (w7.heap.size + 1) (w7.alloc (.cells #[.int .i64 rb0, .int .i64 rt0, .slice A7 rn q7] 29)) W) := fun W hb => ⟨(hb.cell (p := ⟨w.heap.size, 0, none⟩) (show w.heap.size < w7.heap.size + 1 by omega)).trans bx0, (hb.cell (p := ⟨w.heap.size, 1, none⟩) (show w.heap.size < w7.heap.size + 1 by omega)).trans bx1, (hb.cell (p := ⟨w.heap.size, 2, none⟩) (show w.heap.size < w7.heap.size + 1 by omega)).trans bx2, (hb.cell (p := ⟨w4.heap.size, 0, none⟩) (show w4.heap.size < w7.heap.size + 1 by omega)).trans bx3, (hb.cell (p := ⟨w4.heap.size, 1, none⟩) (show w4.heap.size < w7.heap.size + 1 by omega)).trans bx4, (hb.cell (p := ⟨w4.heap.size, 2, none⟩) (show w4.heap.size < w7.heap.size + 1 by omega)).trans bx5, (hb.cell (p := ⟨w5.heap.size, 0, none⟩) (show w5.heap.size < w7.heap.size + 1 by omega)).trans bx6, (hb.cell (p := ⟨w5.heap.size, 1, none⟩) (show w5.heap.size < w7.heap.size + 1 by omega)).trans bx7, (hb.cell (p := ⟨w5.heap.size, 2, none⟩) (show w5.heap.size < w7.heap.size + 1 by omega)).trans bx8, (hb.cell (p := ⟨w7.heap.size, 0, none⟩) (show w7.heap.size < w7.heap.size + 1 by omega)).trans bx9, (hb.cell (p := ⟨w7.heap.size, 1, none⟩) (show w7.heap.size < w7.heap.size + 1 by omega)).trans bx10, (hb.cell (p := ⟨w7.heap.size, 2, none⟩) (show w7.heap.size < w7.heap.size + 1 by omega)).trans bx11, hb⟩
  have HSK7 := Lib.hid SK
  clear SK bx0 bx1 bx2 bx3 bx4 bx5 bx6 bx7 bx8 bx9 bx10 bx11
  go_wp2_with fail
  (with_reducible refine (eqBook_same _ _ _ _ _ _ _ _ _ _ _ _ _ (sg_7.below (B := w7.heap.size) (by (repeat' (first | with_reducible exact Below.refl _ _ | with_reducible assumption | with_reducible refine Below.drew ?_ | with_reducible refine Below.alloc ?_ ?_ _ | with_reducible refine Below.setCell ?_ ?_ _ | with_reducible refine Below.trans ?_ (Below.mono (by assumption) ?_) | ((try simp only [World.heap_size_alloc, World.heap_size_drew, World.heap_size_setCell]); omega)))) (by omega)) (sw_7.below (B := w7.heap.size) (by (repeat' (first | with_reducible exact Below.refl _ _ | with_reducible assumption | with_reducible refine Below.drew ?_ | with_reducible refine Below.alloc ?_ ?_ _ | with_reducible refine Below.setCell ?_ ?_ _ | with_reducible refine Below.trans ?_ (Below.mono (by assumption) ?_) | ((try simp only [World.heap_size_alloc, World.heap_size_drew, World.heap_size_setCell]); omega)))) (by omega))).mono ?_); rintro _ w8 ⟨rfl, b8⟩
  have y8 := b8.size
  (try simp only [World.heap_size_alloc, World.heap_size_drew] at y8)
  have c8 : Below w7.heap.size w7 w8 := by (repeat' (first | with_reducible exact Below.refl _ _ | with_reducible assumption | with_reducible refine Below.drew ?_ | with_reducible refine Below.alloc ?_ ?_ _ | with_reducible refine Below.setCell ?_ ?_ _ | with_reducible refine Below.trans ?_ (Below.mono (by assumption) ?_) | ((try simp only [World.heap_size_alloc, World.heap_size_drew, World.heap_size_setCell]); omega)))
  have z8_0 : w.heap.size < w8.heap.size := by omega
  have z8_1 : w4.heap.size < w8.heap.size := by omega
  have z8_2 : w5.heap.size < w8.heap.size := by omega
  have z8_3 : w7.heap.size < w8.heap.size := by omega
  have sw_8 := sw_7.below c8 (by omega)
  clear sw_7
  have sx0_8 := sx0_7.below c8 (by omega)
  clear sx0_7
  have sx1_8 := sx1_7.below c8 (by omega)
  clear sx1_7
  have sg_8 := sg_7.below c8 (by omega)
  clear sg_7
  have cB8 : Below (w7.heap.size + 1) (w7.alloc (.cells #[.int .i64 rb0, .int .i64 rt0, .slice A7 rn q7] 29)) w8 := Below.trans (by (repeat' (first | with_reducible exact Below.refl _ _ | with_reducible assumption | with_reducible refine Below.drew ?_ | with_reducible refine Below.alloc ?_ ?_ _ | with_reducible refine Below.setCell ?_ ?_ _ | with_reducible refine Below.trans ?_ (Below.mono (by assumption) ?_) | ((try simp only [World.heap_size_alloc, World.heap_size_drew, World.heap_size_setCell]); omega)))) (b8.mono (by (try simp only [World.heap_size_alloc, World.heap_size_drew, World.heap_size_setCell]); omega))
  clear fx0 fx1 fx2 fx3 fx4 fx5 fx6 fx7 fx8
  obtain ⟨fx0, fx1, fx2, fx3, fx4, fx5, fx6, fx7, fx8, fx9, fx10, fx11, -⟩ := HSK7.out w8 cB8
  go_wp2_with fail
  go_region_held3 (fun w' => w'.cell? ⟨w.heap.size, 0, none⟩ = some (.int .i64 i0_0) ∧ w'.cell? ⟨w.heap.size, 1, none⟩ = some (.int .i64 i0_1) ∧ w'.cell? ⟨w.heap.size, 2, none⟩ = some (.slice AA0 n0 cp0) ∧ w'.cell? ⟨w4.heap.size, 0, none⟩ = some (.int .i64 rb0) ∧ w'.cell? ⟨w4.heap.size, 1, none⟩ = some (.int .i64 rt0) ∧ w'.cell? ⟨w4.heap.size, 2, none⟩ = some (.slice A4 rn q4) ∧ w'.cell? ⟨w5.heap.size, 0, none⟩ = some (.int .i64 i0_0) ∧ w'.cell? ⟨w5.heap.size, 1, none⟩ = some (.int .i64 i0_1) ∧ w'.cell? ⟨w5.heap.size, 2, none⟩ = some (.slice A5 n0 q5) ∧ w'.cell? ⟨w7.heap.size, 0, none⟩ = some (.int .i64 rb0) ∧ w'.cell? ⟨w7.heap.size, 1, none⟩ = some (.int .i64 rt0) ∧ w'.cell? ⟨w7.heap.size, 2, none⟩ = some (.slice A7 rn q7) ∧ Below (w7.heap.size + 1) (w7.alloc (.cells #[.int .i64 rb0, .int .i64 rt0, .slice A7 rn q7] 29)) w')
    (first | (refine HSK7.out _ ?_; (repeat' (first | with_reducible exact Below.refl _ _ | with_reducible assumption | with_reducible refine Below.drew ?_ | with_reducible refine Below.alloc ?_ ?_ _ | with_reducible refine Below.setCell ?_ ?_ _ | with_reducible refine Below.trans ?_ (Below.mono (by assumption) ?_) | ((try simp only [World.heap_size_alloc, World.heap_size_drew, World.heap_size_setCell]); omega)))) | (go_split_ands; refine HSK7.out _ ?_; (repeat' (first | with_reducible exact Below.refl _ _ | with_reducible assumption | with_reducible refine Below.drew ?_ | with_reducible refine Below.alloc ?_ ?_ _ | with_reducible refine Below.setCell ?_ ?_ _ | with_reducible refine Below.trans ?_ (Below.mono (by assumption) ?_) | ((try simp only [World.heap_size_alloc, World.heap_size_drew, World.heap_size_setCell]); omega)))))
    (first | (go_at_call 18; (with_reducible refine (toBook_any _ _ _ _ _ (l0.flatMap EntryD.ints) _ (h0.below (by (repeat' (first | with_reducible exact Below.refl _ _ | with_reducible assumption | with_reducible refine Below.drew ?_ | with_reducible refine Below.alloc ?_ ?_ _ | with_reducible refine Below.setCell ?_ ?_ _ | with_reducible refine Below.trans ?_ (Below.mono (by assumption) ?_) | ((try simp only [World.heap_size_alloc, World.heap_size_drew, World.heap_size_setCell]); omega))))) hn0).mono ?_); rintro _ w9 ⟨A9, q9, rfl, s9, b9⟩; have y9 := b9.size; (try simp only [World.heap_size_alloc, World.heap_size_drew] at y9); have c9 : Below w8.heap.size w8 w9 := (by (repeat' (first | with_reducible exact Below.refl _ _ | with_reducible assumption | with_reducible refine Below.drew ?_ | with_reducible refine Below.alloc ?_ ?_ _ | with_reducible refine Below.setCell ?_ ?_ _ | with_reducible refine Below.trans ?_ (Below.mono (by assumption) ?_) | ((try simp only [World.heap_size_alloc, World.heap_size_drew, World.heap_size_setCell]); omega)))); have cB9 : Below (w7.heap.size + 1) (w7.alloc (.cells #[.int .i64 rb0, .int .i64 rt0, .slice A7 rn q7] 29)) w9 := Below.trans (by (repeat' (first | with_reducible exact Below.refl _ _ | with_reducible assumption | with_reducible refine Below.drew ?_ | with_reducible refine Below.alloc ?_ ?_ _ | with_reducible refine Below.setCell ?_ ?_ _ | with_reducible refine Below.trans ?_ (Below.mono (by assumption) ?_) | ((try simp only [World.heap_size_alloc, World.heap_size_drew, World.heap_size_setCell]); omega)))) (b9.mono (by (try simp only [World.heap_size_alloc, World.heap_size_drew, World.heap_size_setCell]); omega)); have z9_0 : w.heap.size < w9.heap.size := (by omega); have z9_1 : w4.heap.size < w9.heap.size := (by omega); have z9_2 : w5.heap.size < w9.heap.size := (by omega); have z9_3 : w7.heap.size < w9.heap.size := (by omega); have sw_9 := sw_8.below c9 (by omega); clear sw_8; have sx0_9 := sx0_8.below c9 (by omega); clear sx0_8; have sx1_9 := sx1_8.below c9 (by omega); clear sx1_8; have sg_9 := sg_8.below c9 (by omega); clear sg_8; have sy_9 := s9.mono (lo' := w8.heap.size) (by (try simp only [World.heap_size_alloc, World.heap_size_drew, World.heap_size_setCell]); omega) (Nat.le_refl _); clear s9) | (go_at_call 20; (with_reducible refine (eqBook_same _ _ _ _ _ _ _ _ _ _ _ _ _ (sx0_9) (sy_9)).mono ?_); rintro _ w10 ⟨rfl, b10⟩; have y10 := b10.size; (try simp only [World.heap_size_alloc, World.heap_size_drew] at y10); have c10 : Below w9.heap.size w9 w10 := (by (repeat' (first | with_reducible exact Below.refl _ _ | with_reducible assumption | with_reducible refine Below.drew ?_ | with_reducible refine Below.alloc ?_ ?_ _ | with_reducible refine Below.setCell ?_ ?_ _ | with_reducible refine Below.trans ?_ (Below.mono (by assumption) ?_) | ((try simp only [World.heap_size_alloc, World.heap_size_drew, World.heap_size_setCell]); omega)))); have cB10 : Below (w7.heap.size + 1) (w7.alloc (.cells #[.int .i64 rb0, .int .i64 rt0, .slice A7 rn q7] 29)) w10 := Below.trans (by (repeat' (first | with_reducible exact Below.refl _ _ | with_reducible assumption | with_reducible refine Below.drew ?_ | with_reducible refine Below.alloc ?_ ?_ _ | with_reducible refine Below.setCell ?_ ?_ _ | with_reducible refine Below.trans ?_ (Below.mono (by assumption) ?_) | ((try simp only [World.heap_size_alloc, World.heap_size_drew, World.heap_size_setCell]); omega)))) (b10.mono (by (try simp only [World.heap_size_alloc, World.heap_size_drew, World.heap_size_setCell]); omega)); have z10_0 : w.heap.size < w10.heap.size := (by omega); have z10_1 : w4.heap.size < w10.heap.size := (by omega); have z10_2 : w5.heap.size < w10.heap.size := (by omega); have z10_3 : w7.heap.size < w10.heap.size := (by omega); have sw_10 := sw_9.below c10 (by omega); clear sw_9; have sx0_10 := sx0_9.below c10 (by omega); clear sx0_9; have sx1_10 := sx1_9.below c10 (by omega); clear sx1_9; have sg_10 := sg_9.below c10 (by omega); clear sg_9; have sy_10 := sy_9.below c10 (by omega); clear sy_9; clear sy_10))
  clear fx0 fx1 fx2 fx3 fx4 fx5 fx6 fx7 fx8 fx9 fx10 fx11
  obtain ⟨fx0, fx1, fx2, fx3, fx4, fx5, fx6, fx7, fx8, fx9, fx10, fx11, -⟩ := HSK7.out w10 cB10
  go_wp2_with fail
  (with_reducible refine (toEntryS_any _ _ _ (l1.flatMap EntryD.ints) _ (h1.below (by (repeat' (first | with_reducible exact Below.refl _ _ | with_reducible assumption | with_reducible refine Below.drew ?_ | with_reducible refine Below.alloc ?_ ?_ _ | with_reducible refine Below.setCell ?_ ?_ _ | with_reducible refine Below.trans ?_ (Below.mono (by assumption) ?_) | ((try simp only [World.heap_size_alloc, World.heap_size_drew, World.heap_size_setCell]); omega))))) hn1).mono ?_); rintro _ w11 ⟨A11, q11, rfl, s11, b11⟩
  have y11 := b11.size
  (try simp only [World.heap_size_alloc, World.heap_size_drew] at y11)
  have c11 : Below w10.heap.size w10 w11 := by (repeat' (first | with_reducible exact Below.refl _ _ | with_reducible assumption | with_reducible refine Below.drew ?_ | with_reducible refine Below.alloc ?_ ?_ _ | with_reducible refine Below.setCell ?_ ?_ _ | with_reducible refine Below.trans ?_ (Below.mono (by assumption) ?_) | ((try simp only [World.heap_size_alloc, World.heap_size_drew, World.heap_size_setCell]); omega)))
  have z11_0 : w.heap.size < w11.heap.size := by omega
  have z11_1 : w4.heap.size < w11.heap.size := by omega
  have z11_2 : w5.heap.size < w11.heap.size := by omega
  have z11_3 : w7.heap.size < w11.heap.size := by omega
  have sw_11 := sw_10.below c11 (by omega)
  clear sw_10
  have sx0_11 := sx0_10.below c11 (by omega)
  clear sx0_10
  have sx1_11 := sx1_10.below c11 (by omega)
  clear sx1_10
  have sg_11 := sg_10.below c11 (by omega)
  clear sg_10
  have sy_11 := s11.mono (lo' := w10.heap.size) (by (try simp only [World.heap_size_alloc, World.heap_size_drew, World.heap_size_setCell]); omega) (Nat.le_refl _)
  clear s11
  have cB11 : Below (w7.heap.size + 1) (w7.alloc (.cells #[.int .i64 rb0, .int .i64 rt0, .slice A7 rn q7] 29)) w11 := Below.trans (by (repeat' (first | with_reducible exact Below.refl _ _ | with_reducible assumption | with_reducible refine Below.drew ?_ | with_reducible refine Below.alloc ?_ ?_ _ | with_reducible refine Below.setCell ?_ ?_ _ | with_reducible refine Below.trans ?_ (Below.mono (by assumption) ?_) | ((try simp only [World.heap_size_alloc, World.heap_size_drew, World.heap_size_setCell]); omega)))) (b11.mono (by (try simp only [World.heap_size_alloc, World.heap_size_drew, World.heap_size_setCell]); omega))
  clear fx0 fx1 fx2 fx3 fx4 fx5 fx6 fx7 fx8 fx9 fx10 fx11
  obtain ⟨fx0, fx1, fx2, fx3, fx4, fx5, fx6, fx7, fx8, fx9, fx10, fx11, -⟩ := HSK7.out w11 cB11
  go_wp2_with fail
  (with_reducible refine (eqEntryS_same _ _ _ _ _ _ _ _ _ _ _ (sx1_11) (sy_11)).mono ?_); rintro _ w12 ⟨rfl, b12⟩
  have y12 := b12.size
  (try simp only [World.heap_size_alloc, World.heap_size_drew] at y12)
  have c12 : Below w11.heap.size w11 w12 := by (repeat' (first | with_reducible exact Below.refl _ _ | with_reducible assumption | with_reducible refine Below.drew ?_ | with_reducible refine Below.alloc ?_ ?_ _ | with_reducible refine Below.setCell ?_ ?_ _ | with_reducible refine Below.trans ?_ (Below.mono (by assumption) ?_) | ((try simp only [World.heap_size_alloc, World.heap_size_drew, World.heap_size_setCell]); omega)))
  have z12_0 : w.heap.size < w12.heap.size := by omega
  have z12_1 : w4.heap.size < w12.heap.size := by omega
  have z12_2 : w5.heap.size < w12.heap.size := by omega
  have z12_3 : w7.heap.size < w12.heap.size := by omega
  have sw_12 := sw_11.below c12 (by omega)
  clear sw_11
  have sx0_12 := sx0_11.below c12 (by omega)
  clear sx0_11
  have sx1_12 := sx1_11.below c12 (by omega)
  clear sx1_11
  have sg_12 := sg_11.below c12 (by omega)
  clear sg_11
  have sy_12 := sy_11.below c12 (by omega)
  clear sy_11
  have cB12 : Below (w7.heap.size + 1) (w7.alloc (.cells #[.int .i64 rb0, .int .i64 rt0, .slice A7 rn q7] 29)) w12 := Below.trans (by (repeat' (first | with_reducible exact Below.refl _ _ | with_reducible assumption | with_reducible refine Below.drew ?_ | with_reducible refine Below.alloc ?_ ?_ _ | with_reducible refine Below.setCell ?_ ?_ _ | with_reducible refine Below.trans ?_ (Below.mono (by assumption) ?_) | ((try simp only [World.heap_size_alloc, World.heap_size_drew, World.heap_size_setCell]); omega)))) (b12.mono (by (try simp only [World.heap_size_alloc, World.heap_size_drew, World.heap_size_setCell]); omega))
  clear fx0 fx1 fx2 fx3 fx4 fx5 fx6 fx7 fx8 fx9 fx10 fx11
  obtain ⟨fx0, fx1, fx2, fx3, fx4, fx5, fx6, fx7, fx8, fx9, fx10, fx11, -⟩ := HSK7.out w12 cB12
  clear sy_12
  go_wp2_with fail
  (with_reducible refine (markBook_any _ _ _ _ _ _ _ _ _ _ (sx0_12.below (B := w12.heap.size) (by (repeat' (first | with_reducible exact Below.refl _ _ | with_reducible assumption | with_reducible refine Below.drew ?_ | with_reducible refine Below.alloc ?_ ?_ _ | with_reducible refine Below.setCell ?_ ?_ _ | with_reducible refine Below.trans ?_ (Below.mono (by assumption) ?_) | ((try simp only [World.heap_size_alloc, World.heap_size_drew, World.heap_size_setCell]); omega)))) (by omega)) (by omega) hn0 (by omega) (by omega)).mono ?_); rintro _ w13 ⟨rfl, m13, u13⟩
  have b13 := u13.below (B := (w4.heap.size + 1)) (by omega) (by first | omega | ((try simp only [World.heap_size_alloc, World.heap_size_drew, World.heap_size_setCell]); omega))
  have y13 := u13.size
  (try simp only [World.heap_size_alloc, World.heap_size_drew] at y13)
  have c13 : Below (w4.heap.size + 1) w12 w13 := by (repeat' (first | with_reducible exact Below.refl _ _ | with_reducible assumption | with_reducible refine Below.drew ?_ | with_reducible refine Below.alloc ?_ ?_ _ | with_reducible refine Below.setCell ?_ ?_ _ | with_reducible refine Below.trans ?_ (Below.mono (by assumption) ?_) | ((try simp only [World.heap_size_alloc, World.heap_size_drew, World.heap_size_setCell]); omega)))
  have z13_0 : w.heap.size < w13.heap.size := by omega
  have z13_1 : w4.heap.size < w13.heap.size := by omega
  have z13_2 : w5.heap.size < w13.heap.size := by omega
  have z13_3 : w7.heap.size < w13.heap.size := by omega
  have sw_13 := sw_12.upd u13 (by omega)
  clear sw_12
  clear sx0_12
  have sx1_13 := sx1_12.upd u13 (by omega)
  clear sx1_12
  have sg_13 := sg_12.upd u13 (by omega)
  clear sg_12
  have sx0_13 := m13
  clear m13
  have bx0 : w13.cell? ⟨w.heap.size, 0, none⟩ = some (.int .i64 i0_0) := ((ucell u13 (b := w.heap.size) (by first | omega | ((try simp only [World.heap_size_alloc, World.heap_size_drew, World.heap_size_setCell]); omega)) (by first | omega | ((try simp only [World.heap_size_alloc, World.heap_size_drew, World.heap_size_setCell]); omega))).1 0).trans (by first | exact fx0 | simp)
  have bx1 : w13.cell? ⟨w.heap.size, 1, none⟩ = some (.int .i64 i0_1) := ((ucell u13 (b := w.heap.size) (by first | omega | ((try simp only [World.heap_size_alloc, World.heap_size_drew, World.heap_size_setCell]); omega)) (by first | omega | ((try simp only [World.heap_size_alloc, World.heap_size_drew, World.heap_size_setCell]); omega))).1 1).trans (by first | exact fx1 | simp)
  have bx2 : w13.cell? ⟨w.heap.size, 2, none⟩ = some (.slice AA0 n0 cp0) := ((ucell u13 (b := w.heap.size) (by first | omega | ((try simp only [World.heap_size_alloc, World.heap_size_drew, World.heap_size_setCell]); omega)) (by first | omega | ((try simp only [World.heap_size_alloc, World.heap_size_drew, World.heap_size_setCell]); omega))).1 2).trans (by first | exact fx2 | simp)
  have bx3 : w13.cell? ⟨w4.heap.size, 0, none⟩ = some (.int .i64 rb0) := ((ucell u13 (b := w4.heap.size) (by first | omega | ((try simp only [World.heap_size_alloc, World.heap_size_drew, World.heap_size_setCell]); omega)) (by first | omega | ((try simp only [World.heap_size_alloc, World.heap_size_drew, World.heap_size_setCell]); omega))).1 0).trans (by first | exact fx3 | simp)
  have bx4 : w13.cell? ⟨w4.heap.size, 1, none⟩ = some (.int .i64 rt0) := ((ucell u13 (b := w4.heap.size) (by first | omega | ((try simp only [World.heap_size_alloc, World.heap_size_drew, World.heap_size_setCell]); omega)) (by first | omega | ((try simp only [World.heap_size_alloc, World.heap_size_drew, World.heap_size_setCell]); omega))).1 1).trans (by first | exact fx4 | simp)
  have bx5 : w13.cell? ⟨w4.heap.size, 2, none⟩ = some (.slice A4 rn q4) := ((ucell u13 (b := w4.heap.size) (by first | omega | ((try simp only [World.heap_size_alloc, World.heap_size_drew, World.heap_size_setCell]); omega)) (by first | omega | ((try simp only [World.heap_size_alloc, World.heap_size_drew, World.heap_size_setCell]); omega))).1 2).trans (by first | exact fx5 | simp)
  have bx6 : w13.cell? ⟨w5.heap.size, 0, none⟩ = some (.int .i64 i0_0) := ((ucell u13 (b := w5.heap.size) (by first | omega | ((try simp only [World.heap_size_alloc, World.heap_size_drew, World.heap_size_setCell]); omega)) (by first | omega | ((try simp only [World.heap_size_alloc, World.heap_size_drew, World.heap_size_setCell]); omega))).1 0).trans (by first | exact fx6 | simp)
  have bx7 : w13.cell? ⟨w5.heap.size, 1, none⟩ = some (.int .i64 i0_1) := ((ucell u13 (b := w5.heap.size) (by first | omega | ((try simp only [World.heap_size_alloc, World.heap_size_drew, World.heap_size_setCell]); omega)) (by first | omega | ((try simp only [World.heap_size_alloc, World.heap_size_drew, World.heap_size_setCell]); omega))).1 1).trans (by first | exact fx7 | simp)
  have bx8 : w13.cell? ⟨w5.heap.size, 2, none⟩ = some (.slice A5 n0 q5) := ((ucell u13 (b := w5.heap.size) (by first | omega | ((try simp only [World.heap_size_alloc, World.heap_size_drew, World.heap_size_setCell]); omega)) (by first | omega | ((try simp only [World.heap_size_alloc, World.heap_size_drew, World.heap_size_setCell]); omega))).1 2).trans (by first | exact fx8 | simp)
  have bx9 : w13.cell? ⟨w7.heap.size, 0, none⟩ = some (.int .i64 rb0) := ((ucell u13 (b := w7.heap.size) (by first | omega | ((try simp only [World.heap_size_alloc, World.heap_size_drew, World.heap_size_setCell]); omega)) (by first | omega | ((try simp only [World.heap_size_alloc, World.heap_size_drew, World.heap_size_setCell]); omega))).1 0).trans (by first | exact fx9 | simp)
  have bx10 : w13.cell? ⟨w7.heap.size, 1, none⟩ = some (.int .i64 rt0) := ((ucell u13 (b := w7.heap.size) (by first | omega | ((try simp only [World.heap_size_alloc, World.heap_size_drew, World.heap_size_setCell]); omega)) (by first | omega | ((try simp only [World.heap_size_alloc, World.heap_size_drew, World.heap_size_setCell]); omega))).1 1).trans (by first | exact fx10 | simp)
  have bx11 : w13.cell? ⟨w7.heap.size, 2, none⟩ = some (.slice A7 rn q7) := ((ucell u13 (b := w7.heap.size) (by first | omega | ((try simp only [World.heap_size_alloc, World.heap_size_drew, World.heap_size_setCell]); omega)) (by first | omega | ((try simp only [World.heap_size_alloc, World.heap_size_drew, World.heap_size_setCell]); omega))).1 2).trans (by first | exact fx11 | simp)
  clear fx0 fx1 fx2 fx3 fx4 fx5 fx6 fx7 fx8 fx9 fx10 fx11
  have SK : ∀ W, Below (w13.heap.size) w13 W → (W.cell? ⟨w.heap.size, 0, none⟩ = some (.int .i64 i0_0) ∧ W.cell? ⟨w.heap.size, 1, none⟩ = some (.int .i64 i0_1) ∧ W.cell? ⟨w.heap.size, 2, none⟩ = some (.slice AA0 n0 cp0) ∧ W.cell? ⟨w4.heap.size, 0, none⟩ = some (.int .i64 rb0) ∧ W.cell? ⟨w4.heap.size, 1, none⟩ = some (.int .i64 rt0) ∧ W.cell? ⟨w4.heap.size, 2, none⟩ = some (.slice A4 rn q4) ∧ W.cell? ⟨w5.heap.size, 0, none⟩ = some (.int .i64 i0_0) ∧ W.cell? ⟨w5.heap.size, 1, none⟩ = some (.int .i64 i0_1) ∧ W.cell? ⟨w5.heap.size, 2, none⟩ = some (.slice A5 n0 q5) ∧ W.cell? ⟨w7.heap.size, 0, none⟩ = some (.int .i64 rb0) ∧ W.cell? ⟨w7.heap.size, 1, none⟩ = some (.int .i64 rt0) ∧ W.cell? ⟨w7.heap.size, 2, none⟩ = some (.slice A7 rn q7) ∧ Below (w13.heap.size) w13 W) := fun W hb => ⟨(hb.cell (p := ⟨w.heap.size, 0, none⟩) (show w.heap.size < w13.heap.size by omega)).trans bx0, (hb.cell (p := ⟨w.heap.size, 1, none⟩) (show w.heap.size < w13.heap.size by omega)).trans bx1, (hb.cell (p := ⟨w.heap.size, 2, none⟩) (show w.heap.size < w13.heap.size by omega)).trans bx2, (hb.cell (p := ⟨w4.heap.size, 0, none⟩) (show w4.heap.size < w13.heap.size by omega)).trans bx3, (hb.cell (p := ⟨w4.heap.size, 1, none⟩) (show w4.heap.size < w13.heap.size by omega)).trans bx4, (hb.cell (p := ⟨w4.heap.size, 2, none⟩) (show w4.heap.size < w13.heap.size by omega)).trans bx5, (hb.cell (p := ⟨w5.heap.size, 0, none⟩) (show w5.heap.size < w13.heap.size by omega)).trans bx6, (hb.cell (p := ⟨w5.heap.size, 1, none⟩) (show w5.heap.size < w13.heap.size by omega)).trans bx7, (hb.cell (p := ⟨w5.heap.size, 2, none⟩) (show w5.heap.size < w13.heap.size by omega)).trans bx8, (hb.cell (p := ⟨w7.heap.size, 0, none⟩) (show w7.heap.size < w13.heap.size by omega)).trans bx9, (hb.cell (p := ⟨w7.heap.size, 1, none⟩) (show w7.heap.size < w13.heap.size by omega)).trans bx10, (hb.cell (p := ⟨w7.heap.size, 2, none⟩) (show w7.heap.size < w13.heap.size by omega)).trans bx11, hb⟩
  have HSK13 := Lib.hid SK
  clear SK bx0 bx1 bx2 bx3 bx4 bx5 bx6 bx7 bx8 bx9 bx10 bx11
  obtain ⟨fx0, fx1, fx2, fx3, fx4, fx5, fx6, fx7, fx8, fx9, fx10, fx11, -⟩ := HSK13.out w13 (Below.refl _ _)
  go_wp2_with fail
  (with_reducible refine (markEntryS_any _ _ _ _ _ _ _ _ sx1_13 hn1 (by omega) (by omega)).mono ?_); rintro _ w14 ⟨rfl, m14, u14⟩
  have b14 := u14.below (B := (w5.heap.size + 1)) (by omega) (by first | omega | ((try simp only [World.heap_size_alloc, World.heap_size_drew, World.heap_size_setCell]); omega))
  have y14 := u14.size
  (try simp only [World.heap_size_alloc, World.heap_size_drew] at y14)
  have c14 : Below (w5.heap.size + 1) w13 w14 := by (repeat' (first | with_reducible exact Below.refl _ _ | with_reducible assumption | with_reducible refine Below.drew ?_ | with_reducible refine Below.alloc ?_ ?_ _ | with_reducible refine Below.setCell ?_ ?_ _ | with_reducible refine Below.trans ?_ (Below.mono (by assumption) ?_) | ((try simp only [World.heap_size_alloc, World.heap_size_drew, World.heap_size_setCell]); omega)))
  have z14_0 : w.heap.size < w14.heap.size := by omega
  have z14_1 : w4.heap.size < w14.heap.size := by omega
  have z14_2 : w5.heap.size < w14.heap.size := by omega
  have z14_3 : w7.heap.size < w14.heap.size := by omega
  have sw_14 := sw_13.upd u14 (by omega)
  clear sw_13
  clear sx1_13
  have sg_14 := sg_13.upd u14 (by omega)
  clear sg_13
  have sx0_14 := sx0_13.upd u14 (by omega)
  clear sx0_13
  have sx1_14 := m14
  clear m14
  have bx0 : w14.cell? ⟨w.heap.size, 0, none⟩ = some (.int .i64 i0_0) := ((ucell u14 (b := w.heap.size) (by first | omega | ((try simp only [World.heap_size_alloc, World.heap_size_drew, World.heap_size_setCell]); omega)) (by first | omega | ((try simp only [World.heap_size_alloc, World.heap_size_drew, World.heap_size_setCell]); omega))).1 0).trans (by first | exact fx0 | simp)
  have bx1 : w14.cell? ⟨w.heap.size, 1, none⟩ = some (.int .i64 i0_1) := ((ucell u14 (b := w.heap.size) (by first | omega | ((try simp only [World.heap_size_alloc, World.heap_size_drew, World.heap_size_setCell]); omega)) (by first | omega | ((try simp only [World.heap_size_alloc, World.heap_size_drew, World.heap_size_setCell]); omega))).1 1).trans (by first | exact fx1 | simp)
  have bx2 : w14.cell? ⟨w.heap.size, 2, none⟩ = some (.slice AA0 n0 cp0) := ((ucell u14 (b := w.heap.size) (by first | omega | ((try simp only [World.heap_size_alloc, World.heap_size_drew, World.heap_size_setCell]); omega)) (by first | omega | ((try simp only [World.heap_size_alloc, World.heap_size_drew, World.heap_size_setCell]); omega))).1 2).trans (by first | exact fx2 | simp)
  have bx3 : w14.cell? ⟨w4.heap.size, 0, none⟩ = some (.int .i64 rb0) := ((ucell u14 (b := w4.heap.size) (by first | omega | ((try simp only [World.heap_size_alloc, World.heap_size_drew, World.heap_size_setCell]); omega)) (by first | omega | ((try simp only [World.heap_size_alloc, World.heap_size_drew, World.heap_size_setCell]); omega))).1 0).trans (by first | exact fx3 | simp)
  have bx4 : w14.cell? ⟨w4.heap.size, 1, none⟩ = some (.int .i64 rt0) := ((ucell u14 (b := w4.heap.size) (by first | omega | ((try simp only [World.heap_size_alloc, World.heap_size_drew, World.heap_size_setCell]); omega)) (by first | omega | ((try simp only [World.heap_size_alloc, World.heap_size_drew, World.heap_size_setCell]); omega))).1 1).trans (by first | exact fx4 | simp)
  have bx5 : w14.cell? ⟨w4.heap.size, 2, none⟩ = some (.slice A4 rn q4) := ((ucell u14 (b := w4.heap.size) (by first | omega | ((try simp only [World.heap_size_alloc, World.heap_size_drew, World.heap_size_setCell]); omega)) (by first | omega | ((try simp only [World.heap_size_alloc, World.heap_size_drew, World.heap_size_setCell]); omega))).1 2).trans (by first | exact fx5 | simp)
  have bx6 : w14.cell? ⟨w5.heap.size, 0, none⟩ = some (.int .i64 i0_0) := ((ucell u14 (b := w5.heap.size) (by first | omega | ((try simp only [World.heap_size_alloc, World.heap_size_drew, World.heap_size_setCell]); omega)) (by first | omega | ((try simp only [World.heap_size_alloc, World.heap_size_drew, World.heap_size_setCell]); omega))).1 0).trans (by first | exact fx6 | simp)
  have bx7 : w14.cell? ⟨w5.heap.size, 1, none⟩ = some (.int .i64 i0_1) := ((ucell u14 (b := w5.heap.size) (by first | omega | ((try simp only [World.heap_size_alloc, World.heap_size_drew, World.heap_size_setCell]); omega)) (by first | omega | ((try simp only [World.heap_size_alloc, World.heap_size_drew, World.heap_size_setCell]); omega))).1 1).trans (by first | exact fx7 | simp)
  have bx8 : w14.cell? ⟨w5.heap.size, 2, none⟩ = some (.slice A5 n0 q5) := ((ucell u14 (b := w5.heap.size) (by first | omega | ((try simp only [World.heap_size_alloc, World.heap_size_drew, World.heap_size_setCell]); omega)) (by first | omega | ((try simp only [World.heap_size_alloc, World.heap_size_drew, World.heap_size_setCell]); omega))).1 2).trans (by first | exact fx8 | simp)
  have bx9 : w14.cell? ⟨w7.heap.size, 0, none⟩ = some (.int .i64 rb0) := ((ucell u14 (b := w7.heap.size) (by first | omega | ((try simp only [World.heap_size_alloc, World.heap_size_drew, World.heap_size_setCell]); omega)) (by first | omega | ((try simp only [World.heap_size_alloc, World.heap_size_drew, World.heap_size_setCell]); omega))).1 0).trans (by first | exact fx9 | simp)
  have bx10 : w14.cell? ⟨w7.heap.size, 1, none⟩ = some (.int .i64 rt0) := ((ucell u14 (b := w7.heap.size) (by first | omega | ((try simp only [World.heap_size_alloc, World.heap_size_drew, World.heap_size_setCell]); omega)) (by first | omega | ((try simp only [World.heap_size_alloc, World.heap_size_drew, World.heap_size_setCell]); omega))).1 1).trans (by first | exact fx10 | simp)
  have bx11 : w14.cell? ⟨w7.heap.size, 2, none⟩ = some (.slice A7 rn q7) := ((ucell u14 (b := w7.heap.size) (by first | omega | ((try simp only [World.heap_size_alloc, World.heap_size_drew, World.heap_size_setCell]); omega)) (by first | omega | ((try simp only [World.heap_size_alloc, World.heap_size_drew, World.heap_size_setCell]); omega))).1 2).trans (by first | exact fx11 | simp)
  clear fx0 fx1 fx2 fx3 fx4 fx5 fx6 fx7 fx8 fx9 fx10 fx11
  have SK : ∀ W, Below (w14.heap.size) w14 W → (W.cell? ⟨w.heap.size, 0, none⟩ = some (.int .i64 i0_0) ∧ W.cell? ⟨w.heap.size, 1, none⟩ = some (.int .i64 i0_1) ∧ W.cell? ⟨w.heap.size, 2, none⟩ = some (.slice AA0 n0 cp0) ∧ W.cell? ⟨w4.heap.size, 0, none⟩ = some (.int .i64 rb0) ∧ W.cell? ⟨w4.heap.size, 1, none⟩ = some (.int .i64 rt0) ∧ W.cell? ⟨w4.heap.size, 2, none⟩ = some (.slice A4 rn q4) ∧ W.cell? ⟨w5.heap.size, 0, none⟩ = some (.int .i64 i0_0) ∧ W.cell? ⟨w5.heap.size, 1, none⟩ = some (.int .i64 i0_1) ∧ W.cell? ⟨w5.heap.size, 2, none⟩ = some (.slice A5 n0 q5) ∧ W.cell? ⟨w7.heap.size, 0, none⟩ = some (.int .i64 rb0) ∧ W.cell? ⟨w7.heap.size, 1, none⟩ = some (.int .i64 rt0) ∧ W.cell? ⟨w7.heap.size, 2, none⟩ = some (.slice A7 rn q7) ∧ Below (w14.heap.size) w14 W) := fun W hb => ⟨(hb.cell (p := ⟨w.heap.size, 0, none⟩) (show w.heap.size < w14.heap.size by omega)).trans bx0, (hb.cell (p := ⟨w.heap.size, 1, none⟩) (show w.heap.size < w14.heap.size by omega)).trans bx1, (hb.cell (p := ⟨w.heap.size, 2, none⟩) (show w.heap.size < w14.heap.size by omega)).trans bx2, (hb.cell (p := ⟨w4.heap.size, 0, none⟩) (show w4.heap.size < w14.heap.size by omega)).trans bx3, (hb.cell (p := ⟨w4.heap.size, 1, none⟩) (show w4.heap.size < w14.heap.size by omega)).trans bx4, (hb.cell (p := ⟨w4.heap.size, 2, none⟩) (show w4.heap.size < w14.heap.size by omega)).trans bx5, (hb.cell (p := ⟨w5.heap.size, 0, none⟩) (show w5.heap.size < w14.heap.size by omega)).trans bx6, (hb.cell (p := ⟨w5.heap.size, 1, none⟩) (show w5.heap.size < w14.heap.size by omega)).trans bx7, (hb.cell (p := ⟨w5.heap.size, 2, none⟩) (show w5.heap.size < w14.heap.size by omega)).trans bx8, (hb.cell (p := ⟨w7.heap.size, 0, none⟩) (show w7.heap.size < w14.heap.size by omega)).trans bx9, (hb.cell (p := ⟨w7.heap.size, 1, none⟩) (show w7.heap.size < w14.heap.size by omega)).trans bx10, (hb.cell (p := ⟨w7.heap.size, 2, none⟩) (show w7.heap.size < w14.heap.size by omega)).trans bx11, hb⟩
  have HSK14 := Lib.hid SK
  clear SK bx0 bx1 bx2 bx3 bx4 bx5 bx6 bx7 bx8 bx9 bx10 bx11
  obtain ⟨fx0, fx1, fx2, fx3, fx4, fx5, fx6, fx7, fx8, fx9, fx10, fx11, -⟩ := HSK14.out w14 (Below.refl _ _)
  go_wp2_with fail
  (with_reducible refine (eqBook_same _ _ _ _ _ _ _ _ _ _ _ _ _ (sg_14.below (B := w14.heap.size) (by (repeat' (first | with_reducible exact Below.refl _ _ | with_reducible assumption | with_reducible refine Below.drew ?_ | with_reducible refine Below.alloc ?_ ?_ _ | with_reducible refine Below.setCell ?_ ?_ _ | with_reducible refine Below.trans ?_ (Below.mono (by assumption) ?_) | ((try simp only [World.heap_size_alloc, World.heap_size_drew, World.heap_size_setCell]); omega)))) (by omega)) (sw_14.below (B := w14.heap.size) (by (repeat' (first | with_reducible exact Below.refl _ _ | with_reducible assumption | with_reducible refine Below.drew ?_ | with_reducible refine Below.alloc ?_ ?_ _ | with_reducible refine Below.setCell ?_ ?_ _ | with_reducible refine Below.trans ?_ (Below.mono (by assumption) ?_) | ((try simp only [World.heap_size_alloc, World.heap_size_drew, World.heap_size_setCell]); omega)))) (by omega))).mono ?_); rintro _ w15 ⟨rfl, b15⟩
  have y15 := b15.size
  (try simp only [World.heap_size_alloc, World.heap_size_drew] at y15)
  have c15 : Below w14.heap.size w14 w15 := by (repeat' (first | with_reducible exact Below.refl _ _ | with_reducible assumption | with_reducible refine Below.drew ?_ | with_reducible refine Below.alloc ?_ ?_ _ | with_reducible refine Below.setCell ?_ ?_ _ | with_reducible refine Below.trans ?_ (Below.mono (by assumption) ?_) | ((try simp only [World.heap_size_alloc, World.heap_size_drew, World.heap_size_setCell]); omega)))
  have z15_0 : w.heap.size < w15.heap.size := by omega
  have z15_1 : w4.heap.size < w15.heap.size := by omega
  have z15_2 : w5.heap.size < w15.heap.size := by omega
  have z15_3 : w7.heap.size < w15.heap.size := by omega
  have sw_15 := sw_14.below c15 (by omega)
  clear sw_14
  have sg_15 := sg_14.below c15 (by omega)
  clear sg_14
  have sx0_15 := sx0_14.below c15 (by omega)
  clear sx0_14
  have sx1_15 := sx1_14.below c15 (by omega)
  clear sx1_14
  have cB15 : Below (w14.heap.size) w14 w15 := Below.trans (by (repeat' (first | with_reducible exact Below.refl _ _ | with_reducible assumption | with_reducible refine Below.drew ?_ | with_reducible refine Below.alloc ?_ ?_ _ | with_reducible refine Below.setCell ?_ ?_ _ | with_reducible refine Below.trans ?_ (Below.mono (by assumption) ?_) | ((try simp only [World.heap_size_alloc, World.heap_size_drew, World.heap_size_setCell]); omega)))) (b15.mono (by (try simp only [World.heap_size_alloc, World.heap_size_drew, World.heap_size_setCell]); omega))
  clear fx0 fx1 fx2 fx3 fx4 fx5 fx6 fx7 fx8 fx9 fx10 fx11
  obtain ⟨fx0, fx1, fx2, fx3, fx4, fx5, fx6, fx7, fx8, fx9, fx10, fx11, -⟩ := HSK14.out w15 cB15
  clear sx0_15
  clear sx1_15
  go_wp2_with fail
  (with_reducible refine (markBook_any _ _ _ _ _ _ _ _ 1 _ (sg_15.below (B := w15.heap.size) (by (repeat' (first | with_reducible exact Below.refl _ _ | with_reducible assumption | with_reducible refine Below.drew ?_ | with_reducible refine Below.alloc ?_ ?_ _ | with_reducible refine Below.setCell ?_ ?_ _ | with_reducible refine Below.trans ?_ (Below.mono (by assumption) ?_) | ((try simp only [World.heap_size_alloc, World.heap_size_drew, World.heap_size_setCell]); omega)))) (by omega)) (by omega) hr (by omega) (by omega)).mono ?_); rintro _ w16 ⟨rfl, m16, u16⟩
  have b16 := u16.below (B := w6.heap.size) (by omega) (by first | omega | ((try simp only [World.heap_size_alloc, World.heap_size_drew, World.heap_size_setCell]); omega))
  have y16 := u16.size
  (try simp only [World.heap_size_alloc, World.heap_size_drew] at y16)
  have c16 : Below w6.heap.size w15 w16 := by (repeat' (first | with_reducible exact Below.refl _ _ | with_reducible assumption | with_reducible refine Below.drew ?_ | with_reducible refine Below.alloc ?_ ?_ _ | with_reducible refine Below.setCell ?_ ?_ _ | with_reducible refine Below.trans ?_ (Below.mono (by assumption) ?_) | ((try simp only [World.heap_size_alloc, World.heap_size_drew, World.heap_size_setCell]); omega)))
  have z16_0 : w.heap.size < w16.heap.size := by omega
  have z16_1 : w4.heap.size < w16.heap.size := by omega
  have z16_2 : w5.heap.size < w16.heap.size := by omega
  have z16_3 : w7.heap.size < w16.heap.size := by omega
  have sw_16 := sw_15.upd u16 (by omega)
  clear sw_15
  clear sg_15
  have sg_16 := m16
  clear m16
  have bx0 : w16.cell? ⟨w.heap.size, 0, none⟩ = some (.int .i64 i0_0) := ((ucell u16 (b := w.heap.size) (by first | omega | ((try simp only [World.heap_size_alloc, World.heap_size_drew, World.heap_size_setCell]); omega)) (by first | omega | ((try simp only [World.heap_size_alloc, World.heap_size_drew, World.heap_size_setCell]); omega))).1 0).trans (by first | exact fx0 | simp)
  have bx1 : w16.cell? ⟨w.heap.size, 1, none⟩ = some (.int .i64 i0_1) := ((ucell u16 (b := w.heap.size) (by first | omega | ((try simp only [World.heap_size_alloc, World.heap_size_drew, World.heap_size_setCell]); omega)) (by first | omega | ((try simp only [World.heap_size_alloc, World.heap_size_drew, World.heap_size_setCell]); omega))).1 1).trans (by first | exact fx1 | simp)
  have bx2 : w16.cell? ⟨w.heap.size, 2, none⟩ = some (.slice AA0 n0 cp0) := ((ucell u16 (b := w.heap.size) (by first | omega | ((try simp only [World.heap_size_alloc, World.heap_size_drew, World.heap_size_setCell]); omega)) (by first | omega | ((try simp only [World.heap_size_alloc, World.heap_size_drew, World.heap_size_setCell]); omega))).1 2).trans (by first | exact fx2 | simp)
  have bx3 : w16.cell? ⟨w4.heap.size, 0, none⟩ = some (.int .i64 rb0) := ((ucell u16 (b := w4.heap.size) (by first | omega | ((try simp only [World.heap_size_alloc, World.heap_size_drew, World.heap_size_setCell]); omega)) (by first | omega | ((try simp only [World.heap_size_alloc, World.heap_size_drew, World.heap_size_setCell]); omega))).1 0).trans (by first | exact fx3 | simp)
  have bx4 : w16.cell? ⟨w4.heap.size, 1, none⟩ = some (.int .i64 rt0) := ((ucell u16 (b := w4.heap.size) (by first | omega | ((try simp only [World.heap_size_alloc, World.heap_size_drew, World.heap_size_setCell]); omega)) (by first | omega | ((try simp only [World.heap_size_alloc, World.heap_size_drew, World.heap_size_setCell]); omega))).1 1).trans (by first | exact fx4 | simp)
  have bx5 : w16.cell? ⟨w4.heap.size, 2, none⟩ = some (.slice A4 rn q4) := ((ucell u16 (b := w4.heap.size) (by first | omega | ((try simp only [World.heap_size_alloc, World.heap_size_drew, World.heap_size_setCell]); omega)) (by first | omega | ((try simp only [World.heap_size_alloc, World.heap_size_drew, World.heap_size_setCell]); omega))).1 2).trans (by first | exact fx5 | simp)
  have bx6 : w16.cell? ⟨w5.heap.size, 0, none⟩ = some (.int .i64 i0_0) := ((ucell u16 (b := w5.heap.size) (by first | omega | ((try simp only [World.heap_size_alloc, World.heap_size_drew, World.heap_size_setCell]); omega)) (by first | omega | ((try simp only [World.heap_size_alloc, World.heap_size_drew, World.heap_size_setCell]); omega))).1 0).trans (by first | exact fx6 | simp)
  have bx7 : w16.cell? ⟨w5.heap.size, 1, none⟩ = some (.int .i64 i0_1) := ((ucell u16 (b := w5.heap.size) (by first | omega | ((try simp only [World.heap_size_alloc, World.heap_size_drew, World.heap_size_setCell]); omega)) (by first | omega | ((try simp only [World.heap_size_alloc, World.heap_size_drew, World.heap_size_setCell]); omega))).1 1).trans (by first | exact fx7 | simp)
  have bx8 : w16.cell? ⟨w5.heap.size, 2, none⟩ = some (.slice A5 n0 q5) := ((ucell u16 (b := w5.heap.size) (by first | omega | ((try simp only [World.heap_size_alloc, World.heap_size_drew, World.heap_size_setCell]); omega)) (by first | omega | ((try simp only [World.heap_size_alloc, World.heap_size_drew, World.heap_size_setCell]); omega))).1 2).trans (by first | exact fx8 | simp)
  have bx9 : w16.cell? ⟨w7.heap.size, 0, none⟩ = some (.int .i64 rb0) := ((ucell u16 (b := w7.heap.size) (by first | omega | ((try simp only [World.heap_size_alloc, World.heap_size_drew, World.heap_size_setCell]); omega)) (by first | omega | ((try simp only [World.heap_size_alloc, World.heap_size_drew, World.heap_size_setCell]); omega))).1 0).trans (by first | exact fx9 | simp)
  have bx10 : w16.cell? ⟨w7.heap.size, 1, none⟩ = some (.int .i64 rt0) := ((ucell u16 (b := w7.heap.size) (by first | omega | ((try simp only [World.heap_size_alloc, World.heap_size_drew, World.heap_size_setCell]); omega)) (by first | omega | ((try simp only [World.heap_size_alloc, World.heap_size_drew, World.heap_size_setCell]); omega))).1 1).trans (by first | exact fx10 | simp)
  have bx11 : w16.cell? ⟨w7.heap.size, 2, none⟩ = some (.slice A7 rn q7) := ((ucell u16 (b := w7.heap.size) (by first | omega | ((try simp only [World.heap_size_alloc, World.heap_size_drew, World.heap_size_setCell]); omega)) (by first | omega | ((try simp only [World.heap_size_alloc, World.heap_size_drew, World.heap_size_setCell]); omega))).1 2).trans (by first | exact fx11 | simp)
  clear fx0 fx1 fx2 fx3 fx4 fx5 fx6 fx7 fx8 fx9 fx10 fx11
  have SK : ∀ W, Below (w16.heap.size) w16 W → (W.cell? ⟨w.heap.size, 0, none⟩ = some (.int .i64 i0_0) ∧ W.cell? ⟨w.heap.size, 1, none⟩ = some (.int .i64 i0_1) ∧ W.cell? ⟨w.heap.size, 2, none⟩ = some (.slice AA0 n0 cp0) ∧ W.cell? ⟨w4.heap.size, 0, none⟩ = some (.int .i64 rb0) ∧ W.cell? ⟨w4.heap.size, 1, none⟩ = some (.int .i64 rt0) ∧ W.cell? ⟨w4.heap.size, 2, none⟩ = some (.slice A4 rn q4) ∧ W.cell? ⟨w5.heap.size, 0, none⟩ = some (.int .i64 i0_0) ∧ W.cell? ⟨w5.heap.size, 1, none⟩ = some (.int .i64 i0_1) ∧ W.cell? ⟨w5.heap.size, 2, none⟩ = some (.slice A5 n0 q5) ∧ W.cell? ⟨w7.heap.size, 0, none⟩ = some (.int .i64 rb0) ∧ W.cell? ⟨w7.heap.size, 1, none⟩ = some (.int .i64 rt0) ∧ W.cell? ⟨w7.heap.size, 2, none⟩ = some (.slice A7 rn q7) ∧ Below (w16.heap.size) w16 W) := fun W hb => ⟨(hb.cell (p := ⟨w.heap.size, 0, none⟩) (show w.heap.size < w16.heap.size by omega)).trans bx0, (hb.cell (p := ⟨w.heap.size, 1, none⟩) (show w.heap.size < w16.heap.size by omega)).trans bx1, (hb.cell (p := ⟨w.heap.size, 2, none⟩) (show w.heap.size < w16.heap.size by omega)).trans bx2, (hb.cell (p := ⟨w4.heap.size, 0, none⟩) (show w4.heap.size < w16.heap.size by omega)).trans bx3, (hb.cell (p := ⟨w4.heap.size, 1, none⟩) (show w4.heap.size < w16.heap.size by omega)).trans bx4, (hb.cell (p := ⟨w4.heap.size, 2, none⟩) (show w4.heap.size < w16.heap.size by omega)).trans bx5, (hb.cell (p := ⟨w5.heap.size, 0, none⟩) (show w5.heap.size < w16.heap.size by omega)).trans bx6, (hb.cell (p := ⟨w5.heap.size, 1, none⟩) (show w5.heap.size < w16.heap.size by omega)).trans bx7, (hb.cell (p := ⟨w5.heap.size, 2, none⟩) (show w5.heap.size < w16.heap.size by omega)).trans bx8, (hb.cell (p := ⟨w7.heap.size, 0, none⟩) (show w7.heap.size < w16.heap.size by omega)).trans bx9, (hb.cell (p := ⟨w7.heap.size, 1, none⟩) (show w7.heap.size < w16.heap.size by omega)).trans bx10, (hb.cell (p := ⟨w7.heap.size, 2, none⟩) (show w7.heap.size < w16.heap.size by omega)).trans bx11, hb⟩
  have HSK16 := Lib.hid SK
  clear SK bx0 bx1 bx2 bx3 bx4 bx5 bx6 bx7 bx8 bx9 bx10 bx11
  obtain ⟨fx0, fx1, fx2, fx3, fx4, fx5, fx6, fx7, fx8, fx9, fx10, fx11, -⟩ := HSK16.out w16 (Below.refl _ _)
  go_wp2_with fail
  (with_reducible refine (heldBook_ok _ _ _ _ _ _ _ 1 _ (sg_16.below (B := w16.heap.size) (by (repeat' (first | with_reducible exact Below.refl _ _ | with_reducible assumption | with_reducible refine Below.drew ?_ | with_reducible refine Below.alloc ?_ ?_ _ | with_reducible refine Below.setCell ?_ ?_ _ | with_reducible refine Below.trans ?_ (Below.mono (by assumption) ?_) | ((try simp only [World.heap_size_alloc, World.heap_size_drew, World.heap_size_setCell]); omega)))) (by omega)) (by omega) hr (by omega) (by omega)).mono ?_); rintro _ w17 ⟨rfl, b17⟩
  have y17 := b17.size
  (try simp only [World.heap_size_alloc, World.heap_size_drew] at y17)
  have c17 : Below w16.heap.size w16 w17 := by (repeat' (first | with_reducible exact Below.refl _ _ | with_reducible assumption | with_reducible refine Below.drew ?_ | with_reducible refine Below.alloc ?_ ?_ _ | with_reducible refine Below.setCell ?_ ?_ _ | with_reducible refine Below.trans ?_ (Below.mono (by assumption) ?_) | ((try simp only [World.heap_size_alloc, World.heap_size_drew, World.heap_size_setCell]); omega)))
  have z17_0 : w.heap.size < w17.heap.size := by omega
  have z17_1 : w4.heap.size < w17.heap.size := by omega
  have z17_2 : w5.heap.size < w17.heap.size := by omega
  have z17_3 : w7.heap.size < w17.heap.size := by omega
  have sw_17 := sw_16.below c17 (by omega)
  clear sw_16
  have sg_17 := sg_16.below c17 (by omega)
  clear sg_16
  have cB17 : Below (w16.heap.size) w16 w17 := Below.trans (by (repeat' (first | with_reducible exact Below.refl _ _ | with_reducible assumption | with_reducible refine Below.drew ?_ | with_reducible refine Below.alloc ?_ ?_ _ | with_reducible refine Below.setCell ?_ ?_ _ | with_reducible refine Below.trans ?_ (Below.mono (by assumption) ?_) | ((try simp only [World.heap_size_alloc, World.heap_size_drew, World.heap_size_setCell]); omega)))) (b17.mono (by (try simp only [World.heap_size_alloc, World.heap_size_drew, World.heap_size_setCell]); omega))
  clear fx0 fx1 fx2 fx3 fx4 fx5 fx6 fx7 fx8 fx9 fx10 fx11
  obtain ⟨fx0, fx1, fx2, fx3, fx4, fx5, fx6, fx7, fx8, fx9, fx10, fx11, -⟩ := HSK16.out w17 cB17
  go_wp2_with fail
  (with_reducible refine (toBook_any _ _ _ _ _ (l0.flatMap EntryD.ints) _ (h0.below (by (repeat' (first | with_reducible exact Below.refl _ _ | with_reducible assumption | with_reducible refine Below.drew ?_ | with_reducible refine Below.alloc ?_ ?_ _ | with_reducible refine Below.setCell ?_ ?_ _ | with_reducible refine Below.trans ?_ (Below.mono (by assumption) ?_) | ((try simp only [World.heap_size_alloc, World.heap_size_drew, World.heap_size_setCell]); omega))))) hn0).mono ?_); rintro _ w18 ⟨A18, q18, rfl, s18, b18⟩
  have y18 := b18.size
  (try simp only [World.heap_size_alloc, World.heap_size_drew] at y18)
  have c18 : Below w17.heap.size w17 w18 := by (repeat' (first | with_reducible exact Below.refl _ _ | with_reducible assumption | with_reducible refine Below.drew ?_ | with_reducible refine Below.alloc ?_ ?_ _ | with_reducible refine Below.setCell ?_ ?_ _ | with_reducible refine Below.trans ?_ (Below.mono (by assumption) ?_) | ((try simp only [World.heap_size_alloc, World.heap_size_drew, World.heap_size_setCell]); omega)))
  have z18_0 : w.heap.size < w18.heap.size := by omega
  have z18_1 : w4.heap.size < w18.heap.size := by omega
  have z18_2 : w5.heap.size < w18.heap.size := by omega
  have z18_3 : w7.heap.size < w18.heap.size := by omega
  have sw_18 := sw_17.below c18 (by omega)
  clear sw_17
  have sg_18 := sg_17.below c18 (by omega)
  clear sg_17
  have sb0_18 := s18.mono (lo' := w17.heap.size) (by (try simp only [World.heap_size_alloc, World.heap_size_drew, World.heap_size_setCell]); omega) (Nat.le_refl _)
  clear s18
  have cB18 : Below (w16.heap.size) w16 w18 := Below.trans (by (repeat' (first | with_reducible exact Below.refl _ _ | with_reducible assumption | with_reducible refine Below.drew ?_ | with_reducible refine Below.alloc ?_ ?_ _ | with_reducible refine Below.setCell ?_ ?_ _ | with_reducible refine Below.trans ?_ (Below.mono (by assumption) ?_) | ((try simp only [World.heap_size_alloc, World.heap_size_drew, World.heap_size_setCell]); omega)))) (b18.mono (by (try simp only [World.heap_size_alloc, World.heap_size_drew, World.heap_size_setCell]); omega))
  clear fx0 fx1 fx2 fx3 fx4 fx5 fx6 fx7 fx8 fx9 fx10 fx11
  obtain ⟨fx0, fx1, fx2, fx3, fx4, fx5, fx6, fx7, fx8, fx9, fx10, fx11, -⟩ := HSK16.out w18 cB18
  go_wp2_with fail
  (with_reducible refine (toEntryS_any _ _ _ (l1.flatMap EntryD.ints) _ (h1.below (by (repeat' (first | with_reducible exact Below.refl _ _ | with_reducible assumption | with_reducible refine Below.drew ?_ | with_reducible refine Below.alloc ?_ ?_ _ | with_reducible refine Below.setCell ?_ ?_ _ | with_reducible refine Below.trans ?_ (Below.mono (by assumption) ?_) | ((try simp only [World.heap_size_alloc, World.heap_size_drew, World.heap_size_setCell]); omega))))) hn1).mono ?_); rintro _ w19 ⟨A19, q19, rfl, s19, b19⟩
  have y19 := b19.size
  (try simp only [World.heap_size_alloc, World.heap_size_drew] at y19)
  have c19 : Below w18.heap.size w18 w19 := by (repeat' (first | with_reducible exact Below.refl _ _ | with_reducible assumption | with_reducible refine Below.drew ?_ | with_reducible refine Below.alloc ?_ ?_ _ | with_reducible refine Below.setCell ?_ ?_ _ | with_reducible refine Below.trans ?_ (Below.mono (by assumption) ?_) | ((try simp only [World.heap_size_alloc, World.heap_size_drew, World.heap_size_setCell]); omega)))
  have z19_0 : w.heap.size < w19.heap.size := by omega
  have z19_1 : w4.heap.size < w19.heap.size := by omega
  have z19_2 : w5.heap.size < w19.heap.size := by omega
  have z19_3 : w7.heap.size < w19.heap.size := by omega
  have sw_19 := sw_18.below c19 (by omega)
  clear sw_18
  have sg_19 := sg_18.below c19 (by omega)
  clear sg_18
  have sb0_19 := sb0_18.below c19 (by omega)
  clear sb0_18
  have sb1_19 := s19.mono (lo' := w18.heap.size) (by (try simp only [World.heap_size_alloc, World.heap_size_drew, World.heap_size_setCell]); omega) (Nat.le_refl _)
  clear s19
  have cB19 : Below (w16.heap.size) w16 w19 := Below.trans (by (repeat' (first | with_reducible exact Below.refl _ _ | with_reducible assumption | with_reducible refine Below.drew ?_ | with_reducible refine Below.alloc ?_ ?_ _ | with_reducible refine Below.setCell ?_ ?_ _ | with_reducible refine Below.trans ?_ (Below.mono (by assumption) ?_) | ((try simp only [World.heap_size_alloc, World.heap_size_drew, World.heap_size_setCell]); omega)))) (b19.mono (by (try simp only [World.heap_size_alloc, World.heap_size_drew, World.heap_size_setCell]); omega))
  clear fx0 fx1 fx2 fx3 fx4 fx5 fx6 fx7 fx8 fx9 fx10 fx11
  obtain ⟨fx0, fx1, fx2, fx3, fx4, fx5, fx6, fx7, fx8, fx9, fx10, fx11, -⟩ := HSK16.out w19 cB19
  go_wp2_with fail
  (with_reducible refine (HI.out _ _ _ _ _ _ _ _ _ _ _ (sb0_19) (sb1_19)).mono ?_); rintro _ w20 ⟨A20, q20, rfl, s20, b20⟩
  have y20 := b20.size
  (try simp only [World.heap_size_alloc, World.heap_size_drew] at y20)
  have c20 : Below w19.heap.size w19 w20 := by (repeat' (first | with_reducible exact Below.refl _ _ | with_reducible assumption | with_reducible refine Below.drew ?_ | with_reducible refine Below.alloc ?_ ?_ _ | with_reducible refine Below.setCell ?_ ?_ _ | with_reducible refine Below.trans ?_ (Below.mono (by assumption) ?_) | ((try simp only [World.heap_size_alloc, World.heap_size_drew, World.heap_size_setCell]); omega)))
  have z20_0 : w.heap.size < w20.heap.size := by omega
  have z20_1 : w4.heap.size < w20.heap.size := by omega
  have z20_2 : w5.heap.size < w20.heap.size := by omega
  have z20_3 : w7.heap.size < w20.heap.size := by omega
  have sw_20 := sw_19.below c20 (by omega)
  clear sw_19
  have sg_20 := sg_19.below c20 (by omega)
  clear sg_19
  have sb0_20 := sb0_19.below c20 (by omega)
  clear sb0_19
  have sb1_20 := sb1_19.below c20 (by omega)
  clear sb1_19
  have sh_20 := s20.mono (lo' := w19.heap.size) (by (try simp only [World.heap_size_alloc, World.heap_size_drew, World.heap_size_setCell]); omega) (Nat.le_refl _)
  clear s20
  have cB20 : Below (w16.heap.size) w16 w20 := Below.trans (by (repeat' (first | with_reducible exact Below.refl _ _ | with_reducible assumption | with_reducible refine Below.drew ?_ | with_reducible refine Below.alloc ?_ ?_ _ | with_reducible refine Below.setCell ?_ ?_ _ | with_reducible refine Below.trans ?_ (Below.mono (by assumption) ?_) | ((try simp only [World.heap_size_alloc, World.heap_size_drew, World.heap_size_setCell]); omega)))) (b20.mono (by (try simp only [World.heap_size_alloc, World.heap_size_drew, World.heap_size_setCell]); omega))
  clear fx0 fx1 fx2 fx3 fx4 fx5 fx6 fx7 fx8 fx9 fx10 fx11
  obtain ⟨fx0, fx1, fx2, fx3, fx4, fx5, fx6, fx7, fx8, fx9, fx10, fx11, -⟩ := HSK16.out w20 cB20
  clear sb0_20
  clear sb1_20
  obtain ⟨bx0, bx1, bx2, bx3, bx4, bx5, bx6, bx7, bx8, bx9, bx10, bx11, -⟩ := HSK16.out w20 cB20
  replace bx0 := (World.cell?_alloc_lt (w := w20) (a := ⟨w.heap.size, 0, none⟩) (.cells #[.int .i64 rb0, .int .i64 rt0, .slice A20 rn q20] 29) (show w.heap.size < w20.heap.size by omega)).trans bx0
  replace bx1 := (World.cell?_alloc_lt (w := w20) (a := ⟨w.heap.size, 1, none⟩) (.cells #[.int .i64 rb0, .int .i64 rt0, .slice A20 rn q20] 29) (show w.heap.size < w20.heap.size by omega)).trans bx1
  replace bx2 := (World.cell?_alloc_lt (w := w20) (a := ⟨w.heap.size, 2, none⟩) (.cells #[.int .i64 rb0, .int .i64 rt0, .slice A20 rn q20] 29) (show w.heap.size < w20.heap.size by omega)).trans bx2
  replace bx3 := (World.cell?_alloc_lt (w := w20) (a := ⟨w4.heap.size, 0, none⟩) (.cells #[.int .i64 rb0, .int .i64 rt0, .slice A20 rn q20] 29) (show w4.heap.size < w20.heap.size by omega)).trans bx3
  replace bx4 := (World.cell?_alloc_lt (w := w20) (a := ⟨w4.heap.size, 1, none⟩) (.cells #[.int .i64 rb0, .int .i64 rt0, .slice A20 rn q20] 29) (show w4.heap.size < w20.heap.size by omega)).trans bx4
  replace bx5 := (World.cell?_alloc_lt (w := w20) (a := ⟨w4.heap.size, 2, none⟩) (.cells #[.int .i64 rb0, .int .i64 rt0, .slice A20 rn q20] 29) (show w4.heap.size < w20.heap.size by omega)).trans bx5
  replace bx6 := (World.cell?_alloc_lt (w := w20) (a := ⟨w5.heap.size, 0, none⟩) (.cells #[.int .i64 rb0, .int .i64 rt0, .slice A20 rn q20] 29) (show w5.heap.size < w20.heap.size by omega)).trans bx6
  replace bx7 := (World.cell?_alloc_lt (w := w20) (a := ⟨w5.heap.size, 1, none⟩) (.cells #[.int .i64 rb0, .int .i64 rt0, .slice A20 rn q20] 29) (show w5.heap.size < w20.heap.size by omega)).trans bx7
  replace bx8 := (World.cell?_alloc_lt (w := w20) (a := ⟨w5.heap.size, 2, none⟩) (.cells #[.int .i64 rb0, .int .i64 rt0, .slice A20 rn q20] 29) (show w5.heap.size < w20.heap.size by omega)).trans bx8
  replace bx9 := (World.cell?_alloc_lt (w := w20) (a := ⟨w7.heap.size, 0, none⟩) (.cells #[.int .i64 rb0, .int .i64 rt0, .slice A20 rn q20] 29) (show w7.heap.size < w20.heap.size by omega)).trans bx9
  replace bx10 := (World.cell?_alloc_lt (w := w20) (a := ⟨w7.heap.size, 1, none⟩) (.cells #[.int .i64 rb0, .int .i64 rt0, .slice A20 rn q20] 29) (show w7.heap.size < w20.heap.size by omega)).trans bx10
  replace bx11 := (World.cell?_alloc_lt (w := w20) (a := ⟨w7.heap.size, 2, none⟩) (.cells #[.int .i64 rb0, .int .i64 rt0, .slice A20 rn q20] 29) (show w7.heap.size < w20.heap.size by omega)).trans bx11
  have bx12 : (w20.alloc (.cells #[.int .i64 rb0, .int .i64 rt0, .slice A20 rn q20] 29)).cell? ⟨w20.heap.size, 0, none⟩ = some (.int .i64 rb0) := by simp
  have bx13 : (w20.alloc (.cells #[.int .i64 rb0, .int .i64 rt0, .slice A20 rn q20] 29)).cell? ⟨w20.heap.size, 1, none⟩ = some (.int .i64 rt0) := by simp
  have bx14 : (w20.alloc (.cells #[.int .i64 rb0, .int .i64 rt0, .slice A20 rn q20] 29)).cell? ⟨w20.heap.size, 2, none⟩ = some (.slice A20 rn q20) := by simp
  have SK : ∀ W, Below (w20.heap.size + 1) (w20.alloc (.cells #[.int .i64 rb0, .int .i64 rt0, .slice A20 rn q20] 29)) W → (W.cell? ⟨w.heap.size, 0, none⟩ = some (.int .i64 i0_0) ∧ W.cell? ⟨w.heap.size, 1, none⟩ = some (.int .i64 i0_1) ∧ W.cell? ⟨w.heap.size, 2, none⟩ = some (.slice AA0 n0 cp0) ∧ W.cell? ⟨w4.heap.size, 0, none⟩ = some (.int .i64 rb0) ∧ W.cell? ⟨w4.heap.size, 1, none⟩ = some (.int .i64 rt0) ∧ W.cell? ⟨w4.heap.size, 2, none⟩ = some (.slice A4 rn q4) ∧ W.cell? ⟨w5.heap.size, 0, none⟩ = some (.int .i64 i0_0) ∧ W.cell? ⟨w5.heap.size, 1, none⟩ = some (.int .i64 i0_1) ∧ W.cell? ⟨w5.heap.size, 2, none⟩ = some (.slice A5 n0 q5) ∧ W.cell? ⟨w7.heap.size, 0, none⟩ = some (.int .i64 rb0) ∧ W.cell? ⟨w7.heap.size, 1, none⟩ = some (.int .i64 rt0) ∧ W.cell? ⟨w7.heap.size, 2, none⟩ = some (.slice A7 rn q7) ∧ W.cell? ⟨w20.heap.size, 0, none⟩ = some (.int .i64 rb0) ∧ W.cell? ⟨w20.heap.size, 1, none⟩ = some (.int .i64 rt0) ∧ W.cell? ⟨w20.heap.size, 2, none⟩ = some (.slice A20 rn q20) ∧ Below (w20.heap.size + 1) (w20.alloc (.cells #[.int .i64 rb0, .int .i64 rt0, .slice A20 rn q20] 29)) W) := fun W hb => ⟨(hb.cell (p := ⟨w.heap.size, 0, none⟩) (show w.heap.size < w20.heap.size + 1 by omega)).trans bx0, (hb.cell (p := ⟨w.heap.size, 1, none⟩) (show w.heap.size < w20.heap.size + 1 by omega)).trans bx1, (hb.cell (p := ⟨w.heap.size, 2, none⟩) (show w.heap.size < w20.heap.size + 1 by omega)).trans bx2, (hb.cell (p := ⟨w4.heap.size, 0, none⟩) (show w4.heap.size < w20.heap.size + 1 by omega)).trans bx3, (hb.cell (p := ⟨w4.heap.size, 1, none⟩) (show w4.heap.size < w20.heap.size + 1 by omega)).trans bx4, (hb.cell (p := ⟨w4.heap.size, 2, none⟩) (show w4.heap.size < w20.heap.size + 1 by omega)).trans bx5, (hb.cell (p := ⟨w5.heap.size, 0, none⟩) (show w5.heap.size < w20.heap.size + 1 by omega)).trans bx6, (hb.cell (p := ⟨w5.heap.size, 1, none⟩) (show w5.heap.size < w20.heap.size + 1 by omega)).trans bx7, (hb.cell (p := ⟨w5.heap.size, 2, none⟩) (show w5.heap.size < w20.heap.size + 1 by omega)).trans bx8, (hb.cell (p := ⟨w7.heap.size, 0, none⟩) (show w7.heap.size < w20.heap.size + 1 by omega)).trans bx9, (hb.cell (p := ⟨w7.heap.size, 1, none⟩) (show w7.heap.size < w20.heap.size + 1 by omega)).trans bx10, (hb.cell (p := ⟨w7.heap.size, 2, none⟩) (show w7.heap.size < w20.heap.size + 1 by omega)).trans bx11, (hb.cell (p := ⟨w20.heap.size, 0, none⟩) (show w20.heap.size < w20.heap.size + 1 by omega)).trans bx12, (hb.cell (p := ⟨w20.heap.size, 1, none⟩) (show w20.heap.size < w20.heap.size + 1 by omega)).trans bx13, (hb.cell (p := ⟨w20.heap.size, 2, none⟩) (show w20.heap.size < w20.heap.size + 1 by omega)).trans bx14, hb⟩
  have HSK20 := Lib.hid SK
  clear SK bx0 bx1 bx2 bx3 bx4 bx5 bx6 bx7 bx8 bx9 bx10 bx11 bx12 bx13 bx14
  go_wp2_with fail
  (with_reducible refine (eqBook_same _ _ _ _ _ _ _ _ _ _ _ _ _ (sh_20.below (B := w20.heap.size) (by (repeat' (first | with_reducible exact Below.refl _ _ | with_reducible assumption | with_reducible refine Below.drew ?_ | with_reducible refine Below.alloc ?_ ?_ _ | with_reducible refine Below.setCell ?_ ?_ _ | with_reducible refine Below.trans ?_ (Below.mono (by assumption) ?_) | ((try simp only [World.heap_size_alloc, World.heap_size_drew, World.heap_size_setCell]); omega)))) (by omega)) (sw_20.below (B := w20.heap.size) (by (repeat' (first | with_reducible exact Below.refl _ _ | with_reducible assumption | with_reducible refine Below.drew ?_ | with_reducible refine Below.alloc ?_ ?_ _ | with_reducible refine Below.setCell ?_ ?_ _ | with_reducible refine Below.trans ?_ (Below.mono (by assumption) ?_) | ((try simp only [World.heap_size_alloc, World.heap_size_drew, World.heap_size_setCell]); omega)))) (by omega))).mono ?_); rintro _ w21 ⟨rfl, b21⟩
  have y21 := b21.size
  (try simp only [World.heap_size_alloc, World.heap_size_drew] at y21)
  have c21 : Below w20.heap.size w20 w21 := by (repeat' (first | with_reducible exact Below.refl _ _ | with_reducible assumption | with_reducible refine Below.drew ?_ | with_reducible refine Below.alloc ?_ ?_ _ | with_reducible refine Below.setCell ?_ ?_ _ | with_reducible refine Below.trans ?_ (Below.mono (by assumption) ?_) | ((try simp only [World.heap_size_alloc, World.heap_size_drew, World.heap_size_setCell]); omega)))
  have z21_0 : w.heap.size < w21.heap.size := by omega
  have z21_1 : w4.heap.size < w21.heap.size := by omega
  have z21_2 : w5.heap.size < w21.heap.size := by omega
  have z21_3 : w7.heap.size < w21.heap.size := by omega
  have z21_4 : w20.heap.size < w21.heap.size := by omega
  have sw_21 := sw_20.below c21 (by omega)
  clear sw_20
  have sg_21 := sg_20.below c21 (by omega)
  clear sg_20
  have sh_21 := sh_20.below c21 (by omega)
  clear sh_20
  have cB21 : Below (w20.heap.size + 1) (w20.alloc (.cells #[.int .i64 rb0, .int .i64 rt0, .slice A20 rn q20] 29)) w21 := Below.trans (by (repeat' (first | with_reducible exact Below.refl _ _ | with_reducible assumption | with_reducible refine Below.drew ?_ | with_reducible refine Below.alloc ?_ ?_ _ | with_reducible refine Below.setCell ?_ ?_ _ | with_reducible refine Below.trans ?_ (Below.mono (by assumption) ?_) | ((try simp only [World.heap_size_alloc, World.heap_size_drew, World.heap_size_setCell]); omega)))) (b21.mono (by (try simp only [World.heap_size_alloc, World.heap_size_drew, World.heap_size_setCell]); omega))
  clear fx0 fx1 fx2 fx3 fx4 fx5 fx6 fx7 fx8 fx9 fx10 fx11
  obtain ⟨fx0, fx1, fx2, fx3, fx4, fx5, fx6, fx7, fx8, fx9, fx10, fx11, fx12, fx13, fx14, -⟩ := HSK20.out w21 cB21
  go_wp2_with fail
  (with_reducible refine (heldBook_ok _ _ _ _ _ _ _ 1 _ (sg_21.below (B := w21.heap.size) (by (repeat' (first | with_reducible exact Below.refl _ _ | with_reducible assumption | with_reducible refine Below.drew ?_ | with_reducible refine Below.alloc ?_ ?_ _ | with_reducible refine Below.setCell ?_ ?_ _ | with_reducible refine Below.trans ?_ (Below.mono (by assumption) ?_) | ((try simp only [World.heap_size_alloc, World.heap_size_drew, World.heap_size_setCell]); omega)))) (by omega)) (by omega) hr (by omega) (by omega)).mono ?_); rintro _ w22 ⟨rfl, b22⟩
  have y22 := b22.size
  (try simp only [World.heap_size_alloc, World.heap_size_drew] at y22)
  have c22 : Below w21.heap.size w21 w22 := by (repeat' (first | with_reducible exact Below.refl _ _ | with_reducible assumption | with_reducible refine Below.drew ?_ | with_reducible refine Below.alloc ?_ ?_ _ | with_reducible refine Below.setCell ?_ ?_ _ | with_reducible refine Below.trans ?_ (Below.mono (by assumption) ?_) | ((try simp only [World.heap_size_alloc, World.heap_size_drew, World.heap_size_setCell]); omega)))
  have z22_0 : w.heap.size < w22.heap.size := by omega
  have z22_1 : w4.heap.size < w22.heap.size := by omega
  have z22_2 : w5.heap.size < w22.heap.size := by omega
  have z22_3 : w7.heap.size < w22.heap.size := by omega
  have z22_4 : w20.heap.size < w22.heap.size := by omega
  have sw_22 := sw_21.below c22 (by omega)
  clear sw_21
  have sg_22 := sg_21.below c22 (by omega)
  clear sg_21
  have sh_22 := sh_21.below c22 (by omega)
  clear sh_21
  have cB22 : Below (w20.heap.size + 1) (w20.alloc (.cells #[.int .i64 rb0, .int .i64 rt0, .slice A20 rn q20] 29)) w22 := Below.trans (by (repeat' (first | with_reducible exact Below.refl _ _ | with_reducible assumption | with_reducible refine Below.drew ?_ | with_reducible refine Below.alloc ?_ ?_ _ | with_reducible refine Below.setCell ?_ ?_ _ | with_reducible refine Below.trans ?_ (Below.mono (by assumption) ?_) | ((try simp only [World.heap_size_alloc, World.heap_size_drew, World.heap_size_setCell]); omega)))) (b22.mono (by (try simp only [World.heap_size_alloc, World.heap_size_drew, World.heap_size_setCell]); omega))
  clear fx0 fx1 fx2 fx3 fx4 fx5 fx6 fx7 fx8 fx9 fx10 fx11 fx12 fx13 fx14
  obtain ⟨fx0, fx1, fx2, fx3, fx4, fx5, fx6, fx7, fx8, fx9, fx10, fx11, fx12, fx13, fx14, -⟩ := HSK20.out w22 cB22
  go_wp2_with fail
  go_ret
  refine ⟨rfl, ?_⟩
  (repeat' (first | with_reducible exact Below.refl _ _ | with_reducible assumption | with_reducible refine Below.drew ?_ | with_reducible refine Below.alloc ?_ ?_ _ | with_reducible refine Below.setCell ?_ ?_ _ | with_reducible refine Below.trans ?_ (Below.mono (by assumption) ?_) | ((try simp only [World.heap_size_alloc, World.heap_size_drew, World.heap_size_setCell]); omega)))
theorem own : ownKnob Try.prog.godebug = none := by kernel_rfl
theorem laidOut : laidOutB Try.prog = true := by kernel_rfl
set_option maxRecDepth 100000 in
theorem lifted (os : Os) (started : os.Started) (H : Type) (enc : TypeId × Value → H) :
    ReturnsInHanded {} Try.checked os 12 .any (Rows.fnExactGrownSpec.pre6 enc Try.prog Try.f12 Rows.fnExactGrownRow.domain false) (Rows.fnExactGrownSpec.post enc Try.prog Try.f12 false true false false) := by
  refine returnsInHanded_of_change (C := Try.checked) own started (by kernel_rfl) Try.func12
    (ChangeSpec.witness6 (enc := enc) (C := Try.checked) false ⟨#[], #[.agg #[.int .i64 0, .int .i64 0, .slice none 0 0], .slice none 0 0], []⟩ 8 (by kernel_rfl) (by kernel_rfl) (by kernel_rfl) (by kernel_rfl)) ?_
  intro W base args ds gs before hval0 hW hcnd _
  have hval : ∀ (j : Nat) t v, Try.f12.params[j]? = some t → args[j]? = some v → Value.okWide Try.prog W .any base t v := hval0
  have hW' := hW
  obtain ⟨p, q, hA0, hV, rfl, hfz, hnd⟩ := hW
  have hA : DataW.TrodAll enc Try.prog W 0 (fun _ => true) true Try.f12.params.toList args.toList ds p := hA0
  rw [Try.params12] at hA hval
  obtain ⟨v0, v1, d0, d1, p0, p1, rfl, rfl, rfl, h0, h1⟩ := trodAll_two hA
  obtain ⟨rfl, rfl⟩ := trodVars_none hV
  obtain ⟨i0_0, i0_1, A0, n0, c0, z0, rfl, hz0⟩ := open_Book (m := 3) Try.underlying24 (by kernel_rfl) (by kernel_rfl) Try.underlying2 Try.underlying2 Try.underlying22 (by kernel_rfl) (by kernel_rfl) (hval 0 24 v0 rfl rfl) h0
  obtain ⟨l0, rfl⟩ := unflat EntryD.mk_ints n0 z0 hz0.len
  obtain ⟨A1, n1, c1, z1, rfl, hz1⟩ := open_slv (m := 3) (k := 9) Try.underlying22 (by kernel_rfl) (by kernel_rfl) (by omega) (hval 1 22 v1 rfl rfl) h1
  obtain ⟨l1, rfl⟩ := unflat EntryD.mk_ints n1 z1 hz1.len
  clear hA0 hval0
  refine (law_any i0_0 i0_1 A0 n0 c0 l0 A1 n1 c1 l1 W hz0 hz1).mono fun e W' ⟨he, hb⟩ => ?_
  subst he
  exact ⟨_, rfl, law_post laidOut (by kernel_rfl) rfl Try.underlying4 rfl hW' hb rfl rfl rfl⟩
theorem holds : Rows.FnExactGrownSaid :=
  OpenClaim.holds_of_wide 12 Try.f12 rfl rfl rfl rfl rfl rfl rfl ⟨rfl, rfl, rfl, rfl, rfl⟩ rfl rfl rfl rfl rfl (by kernel_rfl) Try.func12 (by kernel_rfl)
    (of_decide_eq_true (by kernel_rfl)) (by unfold Func.isWrapper; first | (rw [if_pos (by decide +kernel)]; kernel_rfl) | (rw [if_neg (by decide +kernel)]; exact ⟨rfl, rfl⟩))
    (fun os started H enc _ => lifted os started H enc)
#print axioms holds
end Grown
end Go.Proofs.Ytijefbmnhcecmaa
