/- The law FnExactRowHead returns true for every input. No conditions. -/
import Derived.Test.YtgnilmdaegnaaaaRow1
import Derived.Test.YtgnilmdaegnaaaaHelp1
import Derived.Deep.RegionHeld3
set_option linter.unusedSimpArgs false
set_option linter.unusedVariables false
namespace Go.Proofs.Ytgnilmdaegnaaaa
open Go.ChangeShapes Go.WideShapes Go.ChangeAt Go.RowKit
namespace RowHead
set_option maxRecDepth 100000 in
set_option maxHeartbeats 8000000 in
theorem law_any (A0 : Option Addr) (n0 c0 : Nat) (z0 : List Int) (w : World) (h0 : ArgSl w 1 A0 n0 c0 z0) : Calls Try.prog 7 #[.slice A0 n0 c0] w fun e w' => e = .returned (.bool true) ∧ Below w.heap.size w w' := by
  rcases Nat.lt_or_ge (1048576) n0 with hb0 | hn0
  · have hbb : n0 ≤ 9223372036854775807 := Nat.le_trans h0.cap h0.big
    clear h0
    go_enter Try.func7, Try.ntmps7
    go_wp2
    go_ret
    exact ⟨rfl, Below.refl _ _⟩
  have CS := fun (A0 : Option Addr) (n0 c0 lo0 hi0 : Nat) W (s0 : Sl W lo0 hi0 1 A0 n0 c0 (z0)) => sRowHead_any A0 n0 c0 lo0 hi0 z0 W s0
  have CI := fun (A0 : Option Addr) (n0 c0 lo0 hi0 : Nat) W (s0 : Sl W lo0 hi0 1 A0 n0 c0 (z0)) => rowHead_any A0 n0 c0 lo0 hi0 z0 W s0
  have hr : (rowHead z0).2.2.2.1.length ≤ 1048576 := rowHead_len _
  generalize rowHead z0 = r at CS CI hr
  obtain ⟨ra, rb, rt, rl, rok⟩ := r
  simp only at CS CI hr
  generalize hrn : rl.length = rn at CS CI hr
  have hrb : (rok != rok) = false := by simp
  clear hrn
  have HS := Lib.hid CS
  have HI := Lib.hid CI
  clear CS CI
  go_enter Try.func7, Try.ntmps7
  go_wp2_with fail
  (with_reducible refine (toInt64S_any _ _ _ z0 _ (h0.below (by (repeat' (first | with_reducible exact Below.refl _ _ | with_reducible assumption | with_reducible refine Below.drew ?_ | with_reducible refine Below.alloc ?_ ?_ _ | with_reducible refine Below.setCell ?_ ?_ _ | with_reducible refine Below.trans ?_ (Below.mono (by assumption) ?_) | ((try simp only [World.heap_size_alloc, World.heap_size_drew, World.heap_size_setCell]); omega))))) hn0).mono ?_); rintro _ w1 ⟨A1, q1, rfl, s1, b1⟩
  have y1 := b1.size
  (try simp only [World.heap_size_alloc, World.heap_size_drew] at y1)
  have c1 : Below w.heap.size w w1 := by (repeat' (first | with_reducible exact Below.refl _ _ | with_reducible assumption | with_reducible refine Below.drew ?_ | with_reducible refine Below.alloc ?_ ?_ _ | with_reducible refine Below.setCell ?_ ?_ _ | with_reducible refine Below.trans ?_ (Below.mono (by assumption) ?_) | ((try simp only [World.heap_size_alloc, World.heap_size_drew, World.heap_size_setCell]); omega)))
  have sa_1 := s1.mono (lo' := w.heap.size) (by (try simp only [World.heap_size_alloc, World.heap_size_drew, World.heap_size_setCell]); omega) (Nat.le_refl _)
  clear s1
  have cB1 : Below (w.heap.size) w w1 := Below.trans (by (repeat' (first | with_reducible exact Below.refl _ _ | with_reducible assumption | with_reducible refine Below.drew ?_ | with_reducible refine Below.alloc ?_ ?_ _ | with_reducible refine Below.setCell ?_ ?_ _ | with_reducible refine Below.trans ?_ (Below.mono (by assumption) ?_) | ((try simp only [World.heap_size_alloc, World.heap_size_drew, World.heap_size_setCell]); omega)))) (b1.mono (by (try simp only [World.heap_size_alloc, World.heap_size_drew, World.heap_size_setCell]); omega))
  go_wp2_with fail
  (with_reducible refine (HS.out _ _ _ _ _ _ (sa_1.below (B := w1.heap.size) (by (repeat' (first | with_reducible exact Below.refl _ _ | with_reducible assumption | with_reducible refine Below.drew ?_ | with_reducible refine Below.alloc ?_ ?_ _ | with_reducible refine Below.setCell ?_ ?_ _ | with_reducible refine Below.trans ?_ (Below.mono (by assumption) ?_) | ((try simp only [World.heap_size_alloc, World.heap_size_drew, World.heap_size_setCell]); omega)))) (by omega))).mono ?_); rintro _ w2 ⟨A2, q2, rfl, s2, b2⟩
  have y2 := b2.size
  (try simp only [World.heap_size_alloc, World.heap_size_drew] at y2)
  have c2 : Below w1.heap.size w1 w2 := by (repeat' (first | with_reducible exact Below.refl _ _ | with_reducible assumption | with_reducible refine Below.drew ?_ | with_reducible refine Below.alloc ?_ ?_ _ | with_reducible refine Below.setCell ?_ ?_ _ | with_reducible refine Below.trans ?_ (Below.mono (by assumption) ?_) | ((try simp only [World.heap_size_alloc, World.heap_size_drew, World.heap_size_setCell]); omega)))
  have sa_2 := sa_1.below c2 (by omega)
  clear sa_1
  have sw_2 := s2.mono (lo' := w1.heap.size) (by (try simp only [World.heap_size_alloc, World.heap_size_drew, World.heap_size_setCell]); omega) (Nat.le_refl _)
  clear s2
  have cB2 : Below (w.heap.size) w w2 := Below.trans (by (repeat' (first | with_reducible exact Below.refl _ _ | with_reducible assumption | with_reducible refine Below.drew ?_ | with_reducible refine Below.alloc ?_ ?_ _ | with_reducible refine Below.setCell ?_ ?_ _ | with_reducible refine Below.trans ?_ (Below.mono (by assumption) ?_) | ((try simp only [World.heap_size_alloc, World.heap_size_drew, World.heap_size_setCell]); omega)))) (b2.mono (by (try simp only [World.heap_size_alloc, World.heap_size_drew, World.heap_size_setCell]); omega))
  clear sa_2
  have bx0 : (w2.alloc (.cells #[.int .i64 ra, .int .i64 rb, .int .i64 rt, .slice A2 rn q2] 49)).cell? ⟨w2.heap.size, 0, none⟩ = some (.int .i64 ra) := by simp
  have bx1 : (w2.alloc (.cells #[.int .i64 ra, .int .i64 rb, .int .i64 rt, .slice A2 rn q2] 49)).cell? ⟨w2.heap.size, 1, none⟩ = some (.int .i64 rb) := by simp
  have bx2 : (w2.alloc (.cells #[.int .i64 ra, .int .i64 rb, .int .i64 rt, .slice A2 rn q2] 49)).cell? ⟨w2.heap.size, 2, none⟩ = some (.int .i64 rt) := by simp
  have bx3 : (w2.alloc (.cells #[.int .i64 ra, .int .i64 rb, .int .i64 rt, .slice A2 rn q2] 49)).cell? ⟨w2.heap.size, 3, none⟩ = some (.slice A2 rn q2) := by simp
  have SK : ∀ W, Below (w2.heap.size + 1) (w2.alloc (.cells #[.int .i64 ra, .int .i64 rb, .int .i64 rt, .slice A2 rn q2] 49)) W → (W.cell? ⟨w2.heap.size, 0, none⟩ = some (.int .i64 ra) ∧ W.cell? ⟨w2.heap.size, 1, none⟩ = some (.int .i64 rb) ∧ W.cell? ⟨w2.heap.size, 2, none⟩ = some (.int .i64 rt) ∧ W.cell? ⟨w2.heap.size, 3, none⟩ = some (.slice A2 rn q2) ∧ Below (w2.heap.size + 1) (w2.alloc (.cells #[.int .i64 ra, .int .i64 rb, .int .i64 rt, .slice A2 rn q2] 49)) W) := fun W hb => ⟨(hb.cell (p := ⟨w2.heap.size, 0, none⟩) (show w2.heap.size < w2.heap.size + 1 by omega)).trans bx0, (hb.cell (p := ⟨w2.heap.size, 1, none⟩) (show w2.heap.size < w2.heap.size + 1 by omega)).trans bx1, (hb.cell (p := ⟨w2.heap.size, 2, none⟩) (show w2.heap.size < w2.heap.size + 1 by omega)).trans bx2, (hb.cell (p := ⟨w2.heap.size, 3, none⟩) (show w2.heap.size < w2.heap.size + 1 by omega)).trans bx3, hb⟩
  have HSK2 := Lib.hid SK
  clear SK bx0 bx1 bx2 bx3
  go_wp2_with fail
  (with_reducible refine (toInt64S_any _ _ _ z0 _ (h0.below (by (repeat' (first | with_reducible exact Below.refl _ _ | with_reducible assumption | with_reducible refine Below.drew ?_ | with_reducible refine Below.alloc ?_ ?_ _ | with_reducible refine Below.setCell ?_ ?_ _ | with_reducible refine Below.trans ?_ (Below.mono (by assumption) ?_) | ((try simp only [World.heap_size_alloc, World.heap_size_drew, World.heap_size_setCell]); omega))))) hn0).mono ?_); rintro _ w3 ⟨A3, q3, rfl, s3, b3⟩
  have y3 := b3.size
  (try simp only [World.heap_size_alloc, World.heap_size_drew] at y3)
  have c3 : Below w2.heap.size w2 w3 := by (repeat' (first | with_reducible exact Below.refl _ _ | with_reducible assumption | with_reducible refine Below.drew ?_ | with_reducible refine Below.alloc ?_ ?_ _ | with_reducible refine Below.setCell ?_ ?_ _ | with_reducible refine Below.trans ?_ (Below.mono (by assumption) ?_) | ((try simp only [World.heap_size_alloc, World.heap_size_drew, World.heap_size_setCell]); omega)))
  have z3_0 : w2.heap.size < w3.heap.size := by omega
  have sw_3 := sw_2.below c3 (by omega)
  clear sw_2
  have sx_3 := s3.mono (lo' := (w2.heap.size + 1)) (by (try simp only [World.heap_size_alloc, World.heap_size_drew, World.heap_size_setCell]); omega) (Nat.le_refl _)
  clear s3
  have cB3 : Below (w2.heap.size + 1) (w2.alloc (.cells #[.int .i64 ra, .int .i64 rb, .int .i64 rt, .slice A2 rn q2] 49)) w3 := Below.trans (by (repeat' (first | with_reducible exact Below.refl _ _ | with_reducible assumption | with_reducible refine Below.drew ?_ | with_reducible refine Below.alloc ?_ ?_ _ | with_reducible refine Below.setCell ?_ ?_ _ | with_reducible refine Below.trans ?_ (Below.mono (by assumption) ?_) | ((try simp only [World.heap_size_alloc, World.heap_size_drew, World.heap_size_setCell]); omega)))) (b3.mono (by (try simp only [World.heap_size_alloc, World.heap_size_drew, World.heap_size_setCell]); omega))
  obtain ⟨fx0, fx1, fx2, fx3, -⟩ := HSK2.out w3 cB3
  go_wp2_with fail
  (with_reducible refine (HI.out _ _ _ _ _ _ (sx_3.below (B := w3.heap.size) (by (repeat' (first | with_reducible exact Below.refl _ _ | with_reducible assumption | with_reducible refine Below.drew ?_ | with_reducible refine Below.alloc ?_ ?_ _ | with_reducible refine Below.setCell ?_ ?_ _ | with_reducible refine Below.trans ?_ (Below.mono (by assumption) ?_) | ((try simp only [World.heap_size_alloc, World.heap_size_drew, World.heap_size_setCell]); omega)))) (by omega))).mono ?_); rintro _ w4 ⟨A4, q4, rfl, s4, b4⟩
  have y4 := b4.size
  (try simp only [World.heap_size_alloc, World.heap_size_drew] at y4)
  have c4 : Below w3.heap.size w3 w4 := by (repeat' (first | with_reducible exact Below.refl _ _ | with_reducible assumption | with_reducible refine Below.drew ?_ | with_reducible refine Below.alloc ?_ ?_ _ | with_reducible refine Below.setCell ?_ ?_ _ | with_reducible refine Below.trans ?_ (Below.mono (by assumption) ?_) | ((try simp only [World.heap_size_alloc, World.heap_size_drew, World.heap_size_setCell]); omega)))
  have z4_0 : w2.heap.size < w4.heap.size := by omega
  have sw_4 := sw_3.below c4 (by omega)
  clear sw_3
  have sx_4 := sx_3.below c4 (by omega)
  clear sx_3
  have sg_4 := s4.mono (lo' := w3.heap.size) (by (try simp only [World.heap_size_alloc, World.heap_size_drew, World.heap_size_setCell]); omega) (Nat.le_refl _)
  clear s4
  have cB4 : Below (w2.heap.size + 1) (w2.alloc (.cells #[.int .i64 ra, .int .i64 rb, .int .i64 rt, .slice A2 rn q2] 49)) w4 := Below.trans (by (repeat' (first | with_reducible exact Below.refl _ _ | with_reducible assumption | with_reducible refine Below.drew ?_ | with_reducible refine Below.alloc ?_ ?_ _ | with_reducible refine Below.setCell ?_ ?_ _ | with_reducible refine Below.trans ?_ (Below.mono (by assumption) ?_) | ((try simp only [World.heap_size_alloc, World.heap_size_drew, World.heap_size_setCell]); omega)))) (b4.mono (by (try simp only [World.heap_size_alloc, World.heap_size_drew, World.heap_size_setCell]); omega))
  clear fx0 fx1 fx2 fx3
  obtain ⟨fx0, fx1, fx2, fx3, -⟩ := HSK2.out w4 cB4
  obtain ⟨bx0, bx1, bx2, bx3, -⟩ := HSK2.out w4 cB4
  replace bx0 := (World.cell?_alloc_lt (w := w4) (a := ⟨w2.heap.size, 0, none⟩) (.cells #[.int .i64 ra, .int .i64 rb, .int .i64 rt, .slice A4 rn q4] 49) (show w2.heap.size < w4.heap.size by omega)).trans bx0
  replace bx1 := (World.cell?_alloc_lt (w := w4) (a := ⟨w2.heap.size, 1, none⟩) (.cells #[.int .i64 ra, .int .i64 rb, .int .i64 rt, .slice A4 rn q4] 49) (show w2.heap.size < w4.heap.size by omega)).trans bx1
  replace bx2 := (World.cell?_alloc_lt (w := w4) (a := ⟨w2.heap.size, 2, none⟩) (.cells #[.int .i64 ra, .int .i64 rb, .int .i64 rt, .slice A4 rn q4] 49) (show w2.heap.size < w4.heap.size by omega)).trans bx2
  replace bx3 := (World.cell?_alloc_lt (w := w4) (a := ⟨w2.heap.size, 3, none⟩) (.cells #[.int .i64 ra, .int .i64 rb, .int .i64 rt, .slice A4 rn q4] 49) (show w2.heap.size < w4.heap.size by omega)).trans bx3
  have bx4 : (w4.alloc (.cells #[.int .i64 ra, .int .i64 rb, .int .i64 rt, .slice A4 rn q4] 49)).cell? ⟨w4.heap.size, 0, none⟩ = some (.int .i64 ra) := by simp
  have bx5 : (w4.alloc (.cells #[.int .i64 ra, .int .i64 rb, .int .i64 rt, .slice A4 rn q4] 49)).cell? ⟨w4.heap.size, 1, none⟩ = some (.int .i64 rb) := by simp
  have bx6 : (w4.alloc (.cells #[.int .i64 ra, .int .i64 rb, .int .i64 rt, .slice A4 rn q4] 49)).cell? ⟨w4.heap.size, 2, none⟩ = some (.int .i64 rt) := by simp
  have bx7 : (w4.alloc (.cells #[.int .i64 ra, .int .i64 rb, .int .i64 rt, .slice A4 rn q4] 49)).cell? ⟨w4.heap.size, 3, none⟩ = some (.slice A4 rn q4) := by simp
  have SK : ∀ W, Below (w4.heap.size + 1) (w4.alloc (.cells #[.int .i64 ra, .int .i64 rb, .int .i64 rt, .slice A4 rn q4] 49)) W → (W.cell? ⟨w2.heap.size, 0, none⟩ = some (.int .i64 ra) ∧ W.cell? ⟨w2.heap.size, 1, none⟩ = some (.int .i64 rb) ∧ W.cell? ⟨w2.heap.size, 2, none⟩ = some (.int .i64 rt) ∧ W.cell? ⟨w2.heap.size, 3, none⟩ = some (.slice A2 rn q2) ∧ W.cell? ⟨w4.heap.size, 0, none⟩ = some (.int .i64 ra) ∧ W.cell? ⟨w4.heap.size, 1, none⟩ = some (.int .i64 rb) ∧ W.cell? ⟨w4.heap.size, 2, none⟩ = some (.int .i64 rt) ∧ W.cell? ⟨w4.heap.size, 3, none⟩ = some (.slice A4 rn q4) ∧ Below (w4.heap.size + 1) (w4.alloc (.cells #[.int .i64 ra, .int .i64 rb, .int .i64 rt, .slice A4 rn q4] 49)) W) := fun W hb => ⟨(hb.cell (p := ⟨w2.heap.size, 0, none⟩) (show w2.heap.size < w4.heap.size + 1 by omega)).trans bx0, (hb.cell (p := ⟨w2.heap.size, 1, none⟩) (show w2.heap.size < w4.heap.size + 1 by omega)).trans bx1, (hb.cell (p := ⟨w2.heap.size, 2, none⟩) (show w2.heap.size < w4.heap.size + 1 by omega)).trans bx2, (hb.cell (p := ⟨w2.heap.size, 3, none⟩) (show w2.heap.size < w4.heap.size + 1 by omega)).trans bx3, (hb.cell (p := ⟨w4.heap.size, 0, none⟩) (show w4.heap.size < w4.heap.size + 1 by omega)).trans bx4, (hb.cell (p := ⟨w4.heap.size, 1, none⟩) (show w4.heap.size < w4.heap.size + 1 by omega)).trans bx5, (hb.cell (p := ⟨w4.heap.size, 2, none⟩) (show w4.heap.size < w4.heap.size + 1 by omega)).trans bx6, (hb.cell (p := ⟨w4.heap.size, 3, none⟩) (show w4.heap.size < w4.heap.size + 1 by omega)).trans bx7, hb⟩
  have HSK4 := Lib.hid SK
  clear SK bx0 bx1 bx2 bx3 bx4 bx5 bx6 bx7
  go_wp2_with fail
  (with_reducible refine (eqHead_same _ _ _ _ _ _ _ _ _ _ _ _ _ _ (sg_4.below (B := w4.heap.size) (by (repeat' (first | with_reducible exact Below.refl _ _ | with_reducible assumption | with_reducible refine Below.drew ?_ | with_reducible refine Below.alloc ?_ ?_ _ | with_reducible refine Below.setCell ?_ ?_ _ | with_reducible refine Below.trans ?_ (Below.mono (by assumption) ?_) | ((try simp only [World.heap_size_alloc, World.heap_size_drew, World.heap_size_setCell]); omega)))) (by omega)) (sw_4.below (B := w4.heap.size) (by (repeat' (first | with_reducible exact Below.refl _ _ | with_reducible assumption | with_reducible refine Below.drew ?_ | with_reducible refine Below.alloc ?_ ?_ _ | with_reducible refine Below.setCell ?_ ?_ _ | with_reducible refine Below.trans ?_ (Below.mono (by assumption) ?_) | ((try simp only [World.heap_size_alloc, World.heap_size_drew, World.heap_size_setCell]); omega)))) (by omega))).mono ?_); rintro _ w5 ⟨rfl, b5⟩
  have y5 := b5.size
  (try simp only [World.heap_size_alloc, World.heap_size_drew] at y5)
  have c5 : Below w4.heap.size w4 w5 := by (repeat' (first | with_reducible exact Below.refl _ _ | with_reducible assumption | with_reducible refine Below.drew ?_ | with_reducible refine Below.alloc ?_ ?_ _ | with_reducible refine Below.setCell ?_ ?_ _ | with_reducible refine Below.trans ?_ (Below.mono (by assumption) ?_) | ((try simp only [World.heap_size_alloc, World.heap_size_drew, World.heap_size_setCell]); omega)))
  have z5_0 : w2.heap.size < w5.heap.size := by omega
  have z5_1 : w4.heap.size < w5.heap.size := by omega
  have sw_5 := sw_4.below c5 (by omega)
  clear sw_4
  have sx_5 := sx_4.below c5 (by omega)
  clear sx_4
  have sg_5 := sg_4.below c5 (by omega)
  clear sg_4
  have cB5 : Below (w4.heap.size + 1) (w4.alloc (.cells #[.int .i64 ra, .int .i64 rb, .int .i64 rt, .slice A4 rn q4] 49)) w5 := Below.trans (by (repeat' (first | with_reducible exact Below.refl _ _ | with_reducible assumption | with_reducible refine Below.drew ?_ | with_reducible refine Below.alloc ?_ ?_ _ | with_reducible refine Below.setCell ?_ ?_ _ | with_reducible refine Below.trans ?_ (Below.mono (by assumption) ?_) | ((try simp only [World.heap_size_alloc, World.heap_size_drew, World.heap_size_setCell]); omega)))) (b5.mono (by (try simp only [World.heap_size_alloc, World.heap_size_drew, World.heap_size_setCell]); omega))
  clear fx0 fx1 fx2 fx3
  obtain ⟨fx0, fx1, fx2, fx3, fx4, fx5, fx6, fx7, -⟩ := HSK4.out w5 cB5
  go_wp2_with fail
  (with_reducible refine (toInt64S_any _ _ _ z0 _ (h0.below (by (repeat' (first | with_reducible exact Below.refl _ _ | with_reducible assumption | with_reducible refine Below.drew ?_ | with_reducible refine Below.alloc ?_ ?_ _ | with_reducible refine Below.setCell ?_ ?_ _ | with_reducible refine Below.trans ?_ (Below.mono (by assumption) ?_) | ((try simp only [World.heap_size_alloc, World.heap_size_drew, World.heap_size_setCell]); omega))))) hn0).mono ?_); rintro _ w6 ⟨A6, q6, rfl, s6, b6⟩
  have y6 := b6.size
  (try simp only [World.heap_size_alloc, World.heap_size_drew] at y6)
  have c6 : Below w5.heap.size w5 w6 := by (repeat' (first | with_reducible exact Below.refl _ _ | with_reducible assumption | with_reducible refine Below.drew ?_ | with_reducible refine Below.alloc ?_ ?_ _ | with_reducible refine Below.setCell ?_ ?_ _ | with_reducible refine Below.trans ?_ (Below.mono (by assumption) ?_) | ((try simp only [World.heap_size_alloc, World.heap_size_drew, World.heap_size_setCell]); omega)))
  have z6_0 : w2.heap.size < w6.heap.size := by omega
  have z6_1 : w4.heap.size < w6.heap.size := by omega
  have sw_6 := sw_5.below c6 (by omega)
  clear sw_5
  have sx_6 := sx_5.below c6 (by omega)
  clear sx_5
  have sg_6 := sg_5.below c6 (by omega)
  clear sg_5
  have sy_6 := s6.mono (lo' := w5.heap.size) (by (try simp only [World.heap_size_alloc, World.heap_size_drew, World.heap_size_setCell]); omega) (Nat.le_refl _)
  clear s6
  have cB6 : Below (w4.heap.size + 1) (w4.alloc (.cells #[.int .i64 ra, .int .i64 rb, .int .i64 rt, .slice A4 rn q4] 49)) w6 := Below.trans (by (repeat' (first | with_reducible exact Below.refl _ _ | with_reducible assumption | with_reducible refine Below.drew ?_ | with_reducible refine Below.alloc ?_ ?_ _ | with_reducible refine Below.setCell ?_ ?_ _ | with_reducible refine Below.trans ?_ (Below.mono (by assumption) ?_) | ((try simp only [World.heap_size_alloc, World.heap_size_drew, World.heap_size_setCell]); omega)))) (b6.mono (by (try simp only [World.heap_size_alloc, World.heap_size_drew, World.heap_size_setCell]); omega))
  clear fx0 fx1 fx2 fx3 fx4 fx5 fx6 fx7
  obtain ⟨fx0, fx1, fx2, fx3, fx4, fx5, fx6, fx7, -⟩ := HSK4.out w6 cB6
  go_wp2_with fail
  (with_reducible refine (eqInt64S_same _ _ _ _ _ _ _ _ _ _ _ (sx_6.below (B := w6.heap.size) (by (repeat' (first | with_reducible exact Below.refl _ _ | with_reducible assumption | with_reducible refine Below.drew ?_ | with_reducible refine Below.alloc ?_ ?_ _ | with_reducible refine Below.setCell ?_ ?_ _ | with_reducible refine Below.trans ?_ (Below.mono (by assumption) ?_) | ((try simp only [World.heap_size_alloc, World.heap_size_drew, World.heap_size_setCell]); omega)))) (by omega)) (sy_6.below (B := w6.heap.size) (by (repeat' (first | with_reducible exact Below.refl _ _ | with_reducible assumption | with_reducible refine Below.drew ?_ | with_reducible refine Below.alloc ?_ ?_ _ | with_reducible refine Below.setCell ?_ ?_ _ | with_reducible refine Below.trans ?_ (Below.mono (by assumption) ?_) | ((try simp only [World.heap_size_alloc, World.heap_size_drew, World.heap_size_setCell]); omega)))) (by omega))).mono ?_); rintro _ w7 ⟨rfl, b7⟩
  have y7 := b7.size
  (try simp only [World.heap_size_alloc, World.heap_size_drew] at y7)
  have c7 : Below w6.heap.size w6 w7 := by (repeat' (first | with_reducible exact Below.refl _ _ | with_reducible assumption | with_reducible refine Below.drew ?_ | with_reducible refine Below.alloc ?_ ?_ _ | with_reducible refine Below.setCell ?_ ?_ _ | with_reducible refine Below.trans ?_ (Below.mono (by assumption) ?_) | ((try simp only [World.heap_size_alloc, World.heap_size_drew, World.heap_size_setCell]); omega)))
  have z7_0 : w2.heap.size < w7.heap.size := by omega
  have z7_1 : w4.heap.size < w7.heap.size := by omega
  have sw_7 := sw_6.below c7 (by omega)
  clear sw_6
  have sx_7 := sx_6.below c7 (by omega)
  clear sx_6
  have sg_7 := sg_6.below c7 (by omega)
  clear sg_6
  have sy_7 := sy_6.below c7 (by omega)
  clear sy_6
  have cB7 : Below (w4.heap.size + 1) (w4.alloc (.cells #[.int .i64 ra, .int .i64 rb, .int .i64 rt, .slice A4 rn q4] 49)) w7 := Below.trans (by (repeat' (first | with_reducible exact Below.refl _ _ | with_reducible assumption | with_reducible refine Below.drew ?_ | with_reducible refine Below.alloc ?_ ?_ _ | with_reducible refine Below.setCell ?_ ?_ _ | with_reducible refine Below.trans ?_ (Below.mono (by assumption) ?_) | ((try simp only [World.heap_size_alloc, World.heap_size_drew, World.heap_size_setCell]); omega)))) (b7.mono (by (try simp only [World.heap_size_alloc, World.heap_size_drew, World.heap_size_setCell]); omega))
  clear fx0 fx1 fx2 fx3 fx4 fx5 fx6 fx7
  obtain ⟨fx0, fx1, fx2, fx3, fx4, fx5, fx6, fx7, -⟩ := HSK4.out w7 cB7
  clear sy_7
  go_wp2_with fail
  (with_reducible refine (markInt64S_any _ _ _ _ _ _ _ _ (sx_7.below (B := w7.heap.size) (by (repeat' (first | with_reducible exact Below.refl _ _ | with_reducible assumption | with_reducible refine Below.drew ?_ | with_reducible refine Below.alloc ?_ ?_ _ | with_reducible refine Below.setCell ?_ ?_ _ | with_reducible refine Below.trans ?_ (Below.mono (by assumption) ?_) | ((try simp only [World.heap_size_alloc, World.heap_size_drew, World.heap_size_setCell]); omega)))) (by omega)) hn0 (by omega) (by omega)).mono ?_); rintro _ w8 ⟨rfl, m8, u8⟩
  have b8 := u8.below (B := (w2.heap.size + 1)) (by omega) (by first | omega | ((try simp only [World.heap_size_alloc, World.heap_size_drew, World.heap_size_setCell]); omega))
  have y8 := u8.size
  (try simp only [World.heap_size_alloc, World.heap_size_drew] at y8)
  have c8 : Below (w2.heap.size + 1) w7 w8 := by (repeat' (first | with_reducible exact Below.refl _ _ | with_reducible assumption | with_reducible refine Below.drew ?_ | with_reducible refine Below.alloc ?_ ?_ _ | with_reducible refine Below.setCell ?_ ?_ _ | with_reducible refine Below.trans ?_ (Below.mono (by assumption) ?_) | ((try simp only [World.heap_size_alloc, World.heap_size_drew, World.heap_size_setCell]); omega)))
  have z8_0 : w2.heap.size < w8.heap.size := by omega
  have z8_1 : w4.heap.size < w8.heap.size := by omega
  have sw_8 := sw_7.upd u8 (by omega)
  clear sw_7
  clear sx_7
  have sg_8 := sg_7.upd u8 (by omega)
  clear sg_7
  have sx_8 := m8
  clear m8
  have bx0 : w8.cell? ⟨w2.heap.size, 0, none⟩ = some (.int .i64 ra) := ((ucell u8 (b := w2.heap.size) (by first | omega | ((try simp only [World.heap_size_alloc, World.heap_size_drew, World.heap_size_setCell]); omega)) (by first | omega | ((try simp only [World.heap_size_alloc, World.heap_size_drew, World.heap_size_setCell]); omega))).1 0).trans (by first | exact fx0 | simp)
  have bx1 : w8.cell? ⟨w2.heap.size, 1, none⟩ = some (.int .i64 rb) := ((ucell u8 (b := w2.heap.size) (by first | omega | ((try simp only [World.heap_size_alloc, World.heap_size_drew, World.heap_size_setCell]); omega)) (by first | omega | ((try simp only [World.heap_size_alloc, World.heap_size_drew, World.heap_size_setCell]); omega))).1 1).trans (by first | exact fx1 | simp)
  have bx2 : w8.cell? ⟨w2.heap.size, 2, none⟩ = some (.int .i64 rt) := ((ucell u8 (b := w2.heap.size) (by first | omega | ((try simp only [World.heap_size_alloc, World.heap_size_drew, World.heap_size_setCell]); omega)) (by first | omega | ((try simp only [World.heap_size_alloc, World.heap_size_drew, World.heap_size_setCell]); omega))).1 2).trans (by first | exact fx2 | simp)
  have bx3 : w8.cell? ⟨w2.heap.size, 3, none⟩ = some (.slice A2 rn q2) := ((ucell u8 (b := w2.heap.size) (by first | omega | ((try simp only [World.heap_size_alloc, World.heap_size_drew, World.heap_size_setCell]); omega)) (by first | omega | ((try simp only [World.heap_size_alloc, World.heap_size_drew, World.heap_size_setCell]); omega))).1 3).trans (by first | exact fx3 | simp)
  have bx4 : w8.cell? ⟨w4.heap.size, 0, none⟩ = some (.int .i64 ra) := ((ucell u8 (b := w4.heap.size) (by first | omega | ((try simp only [World.heap_size_alloc, World.heap_size_drew, World.heap_size_setCell]); omega)) (by first | omega | ((try simp only [World.heap_size_alloc, World.heap_size_drew, World.heap_size_setCell]); omega))).1 0).trans (by first | exact fx4 | simp)
  have bx5 : w8.cell? ⟨w4.heap.size, 1, none⟩ = some (.int .i64 rb) := ((ucell u8 (b := w4.heap.size) (by first | omega | ((try simp only [World.heap_size_alloc, World.heap_size_drew, World.heap_size_setCell]); omega)) (by first | omega | ((try simp only [World.heap_size_alloc, World.heap_size_drew, World.heap_size_setCell]); omega))).1 1).trans (by first | exact fx5 | simp)
  have bx6 : w8.cell? ⟨w4.heap.size, 2, none⟩ = some (.int .i64 rt) := ((ucell u8 (b := w4.heap.size) (by first | omega | ((try simp only [World.heap_size_alloc, World.heap_size_drew, World.heap_size_setCell]); omega)) (by first | omega | ((try simp only [World.heap_size_alloc, World.heap_size_drew, World.heap_size_setCell]); omega))).1 2).trans (by first | exact fx6 | simp)
  have bx7 : w8.cell? ⟨w4.heap.size, 3, none⟩ = some (.slice A4 rn q4) := ((ucell u8 (b := w4.heap.size) (by first | omega | ((try simp only [World.heap_size_alloc, World.heap_size_drew, World.heap_size_setCell]); omega)) (by first | omega | ((try simp only [World.heap_size_alloc, World.heap_size_drew, World.heap_size_setCell]); omega))).1 3).trans (by first | exact fx7 | simp)
  clear fx0 fx1 fx2 fx3 fx4 fx5 fx6 fx7
  have SK : ∀ W, Below (w8.heap.size) w8 W → (W.cell? ⟨w2.heap.size, 0, none⟩ = some (.int .i64 ra) ∧ W.cell? ⟨w2.heap.size, 1, none⟩ = some (.int .i64 rb) ∧ W.cell? ⟨w2.heap.size, 2, none⟩ = some (.int .i64 rt) ∧ W.cell? ⟨w2.heap.size, 3, none⟩ = some (.slice A2 rn q2) ∧ W.cell? ⟨w4.heap.size, 0, none⟩ = some (.int .i64 ra) ∧ W.cell? ⟨w4.heap.size, 1, none⟩ = some (.int .i64 rb) ∧ W.cell? ⟨w4.heap.size, 2, none⟩ = some (.int .i64 rt) ∧ W.cell? ⟨w4.heap.size, 3, none⟩ = some (.slice A4 rn q4) ∧ Below (w8.heap.size) w8 W) := fun W hb => ⟨(hb.cell (p := ⟨w2.heap.size, 0, none⟩) (show w2.heap.size < w8.heap.size by omega)).trans bx0, (hb.cell (p := ⟨w2.heap.size, 1, none⟩) (show w2.heap.size < w8.heap.size by omega)).trans bx1, (hb.cell (p := ⟨w2.heap.size, 2, none⟩) (show w2.heap.size < w8.heap.size by omega)).trans bx2, (hb.cell (p := ⟨w2.heap.size, 3, none⟩) (show w2.heap.size < w8.heap.size by omega)).trans bx3, (hb.cell (p := ⟨w4.heap.size, 0, none⟩) (show w4.heap.size < w8.heap.size by omega)).trans bx4, (hb.cell (p := ⟨w4.heap.size, 1, none⟩) (show w4.heap.size < w8.heap.size by omega)).trans bx5, (hb.cell (p := ⟨w4.heap.size, 2, none⟩) (show w4.heap.size < w8.heap.size by omega)).trans bx6, (hb.cell (p := ⟨w4.heap.size, 3, none⟩) (show w4.heap.size < w8.heap.size by omega)).trans bx7, hb⟩
  have HSK8 := Lib.hid SK
  clear SK bx0 bx1 bx2 bx3 bx4 bx5 bx6 bx7
  obtain ⟨fx0, fx1, fx2, fx3, fx4, fx5, fx6, fx7, -⟩ := HSK8.out w8 (Below.refl _ _)
  go_wp2_with fail
  (with_reducible refine (eqHead_same _ _ _ _ _ _ _ _ _ _ _ _ _ _ (sg_8.below (B := w8.heap.size) (by (repeat' (first | with_reducible exact Below.refl _ _ | with_reducible assumption | with_reducible refine Below.drew ?_ | with_reducible refine Below.alloc ?_ ?_ _ | with_reducible refine Below.setCell ?_ ?_ _ | with_reducible refine Below.trans ?_ (Below.mono (by assumption) ?_) | ((try simp only [World.heap_size_alloc, World.heap_size_drew, World.heap_size_setCell]); omega)))) (by omega)) (sw_8.below (B := w8.heap.size) (by (repeat' (first | with_reducible exact Below.refl _ _ | with_reducible assumption | with_reducible refine Below.drew ?_ | with_reducible refine Below.alloc ?_ ?_ _ | with_reducible refine Below.setCell ?_ ?_ _ | with_reducible refine Below.trans ?_ (Below.mono (by assumption) ?_) | ((try simp only [World.heap_size_alloc, World.heap_size_drew, World.heap_size_setCell]); omega)))) (by omega))).mono ?_); rintro _ w9 ⟨rfl, b9⟩
  have y9 := b9.size
  (try simp only [World.heap_size_alloc, World.heap_size_drew] at y9)
  have c9 : Below w8.heap.size w8 w9 := by (repeat' (first | with_reducible exact Below.refl _ _ | with_reducible assumption | with_reducible refine Below.drew ?_ | with_reducible refine Below.alloc ?_ ?_ _ | with_reducible refine Below.setCell ?_ ?_ _ | with_reducible refine Below.trans ?_ (Below.mono (by assumption) ?_) | ((try simp only [World.heap_size_alloc, World.heap_size_drew, World.heap_size_setCell]); omega)))
  have z9_0 : w2.heap.size < w9.heap.size := by omega
  have z9_1 : w4.heap.size < w9.heap.size := by omega
  have sw_9 := sw_8.below c9 (by omega)
  clear sw_8
  have sg_9 := sg_8.below c9 (by omega)
  clear sg_8
  have sx_9 := sx_8.below c9 (by omega)
  clear sx_8
  have cB9 : Below (w8.heap.size) w8 w9 := Below.trans (by (repeat' (first | with_reducible exact Below.refl _ _ | with_reducible assumption | with_reducible refine Below.drew ?_ | with_reducible refine Below.alloc ?_ ?_ _ | with_reducible refine Below.setCell ?_ ?_ _ | with_reducible refine Below.trans ?_ (Below.mono (by assumption) ?_) | ((try simp only [World.heap_size_alloc, World.heap_size_drew, World.heap_size_setCell]); omega)))) (b9.mono (by (try simp only [World.heap_size_alloc, World.heap_size_drew, World.heap_size_setCell]); omega))
  clear fx0 fx1 fx2 fx3 fx4 fx5 fx6 fx7
  obtain ⟨fx0, fx1, fx2, fx3, fx4, fx5, fx6, fx7, -⟩ := HSK8.out w9 cB9
  clear sx_9
  go_wp2_with fail
  (with_reducible refine (markHead_any _ _ _ _ _ _ _ _ _ 1 _ (sg_9.below (B := w9.heap.size) (by (repeat' (first | with_reducible exact Below.refl _ _ | with_reducible assumption | with_reducible refine Below.drew ?_ | with_reducible refine Below.alloc ?_ ?_ _ | with_reducible refine Below.setCell ?_ ?_ _ | with_reducible refine Below.trans ?_ (Below.mono (by assumption) ?_) | ((try simp only [World.heap_size_alloc, World.heap_size_drew, World.heap_size_setCell]); omega)))) (by omega)) (by omega) hr (by omega) (by omega)).mono ?_); rintro _ w10 ⟨rfl, m10, u10⟩
  have b10 := u10.below (B := w3.heap.size) (by omega) (by first | omega | ((try simp only [World.heap_size_alloc, World.heap_size_drew, World.heap_size_setCell]); omega))
  have y10 := u10.size
  (try simp only [World.heap_size_alloc, World.heap_size_drew] at y10)
  have c10 : Below w3.heap.size w9 w10 := by (repeat' (first | with_reducible exact Below.refl _ _ | with_reducible assumption | with_reducible refine Below.drew ?_ | with_reducible refine Below.alloc ?_ ?_ _ | with_reducible refine Below.setCell ?_ ?_ _ | with_reducible refine Below.trans ?_ (Below.mono (by assumption) ?_) | ((try simp only [World.heap_size_alloc, World.heap_size_drew, World.heap_size_setCell]); omega)))
  have z10_0 : w2.heap.size < w10.heap.size := by omega
  have z10_1 : w4.heap.size < w10.heap.size := by omega
  have sw_10 := sw_9.upd u10 (by omega)
  clear sw_9
  clear sg_9
  have sg_10 := m10
  clear m10
  have bx0 : w10.cell? ⟨w2.heap.size, 0, none⟩ = some (.int .i64 ra) := ((ucell u10 (b := w2.heap.size) (by first | omega | ((try simp only [World.heap_size_alloc, World.heap_size_drew, World.heap_size_setCell]); omega)) (by first | omega | ((try simp only [World.heap_size_alloc, World.heap_size_drew, World.heap_size_setCell]); omega))).1 0).trans (by first | exact fx0 | simp)
  have bx1 : w10.cell? ⟨w2.heap.size, 1, none⟩ = some (.int .i64 rb) := ((ucell u10 (b := w2.heap.size) (by first | omega | ((try simp only [World.heap_size_alloc, World.heap_size_drew, World.heap_size_setCell]); omega)) (by first | omega | ((try simp only [World.heap_size_alloc, World.heap_size_drew, World.heap_size_setCell]); omega))).1 1).trans (by first | exact fx1 | simp)
  have bx2 : w10.cell? ⟨w2.heap.size, 2, none⟩ = some (.int .i64 rt) := ((ucell u10 (b := w2.heap.size) (by first | omega | ((try simp only [World.heap_size_alloc, World.heap_size_drew, World.heap_size_setCell]); omega)) (by first | omega | ((try simp only [World.heap_size_alloc, World.heap_size_drew, World.heap_size_setCell]); omega))).1 2).trans (by first | exact fx2 | simp)
  have bx3 : w10.cell? ⟨w2.heap.size, 3, none⟩ = some (.slice A2 rn q2) := ((ucell u10 (b := w2.heap.size) (by first | omega | ((try simp only [World.heap_size_alloc, World.heap_size_drew, World.heap_size_setCell]); omega)) (by first | omega | ((try simp only [World.heap_size_alloc, World.heap_size_drew, World.heap_size_setCell]); omega))).1 3).trans (by first | exact fx3 | simp)
  have bx4 : w10.cell? ⟨w4.heap.size, 0, none⟩ = some (.int .i64 ra) := ((ucell u10 (b := w4.heap.size) (by first | omega | ((try simp only [World.heap_size_alloc, World.heap_size_drew, World.heap_size_setCell]); omega)) (by first | omega | ((try simp only [World.heap_size_alloc, World.heap_size_drew, World.heap_size_setCell]); omega))).1 0).trans (by first | exact fx4 | simp)
  have bx5 : w10.cell? ⟨w4.heap.size, 1, none⟩ = some (.int .i64 rb) := ((ucell u10 (b := w4.heap.size) (by first | omega | ((try simp only [World.heap_size_alloc, World.heap_size_drew, World.heap_size_setCell]); omega)) (by first | omega | ((try simp only [World.heap_size_alloc, World.heap_size_drew, World.heap_size_setCell]); omega))).1 1).trans (by first | exact fx5 | simp)
  have bx6 : w10.cell? ⟨w4.heap.size, 2, none⟩ = some (.int .i64 rt) := ((ucell u10 (b := w4.heap.size) (by first | omega | ((try simp only [World.heap_size_alloc, World.heap_size_drew, World.heap_size_setCell]); omega)) (by first | omega | ((try simp only [World.heap_size_alloc, World.heap_size_drew, World.heap_size_setCell]); omega))).1 2).trans (by first | exact fx6 | simp)
  have bx7 : w10.cell? ⟨w4.heap.size, 3, none⟩ = some (.slice A4 rn q4) := ((ucell u10 (b := w4.heap.size) (by first | omega | ((try simp only [World.heap_size_alloc, World.heap_size_drew, World.heap_size_setCell]); omega)) (by first | omega | ((try simp only [World.heap_size_alloc, World.heap_size_drew, World.heap_size_setCell]); omega))).1 3).trans (by first | exact fx7 | simp)
  clear fx0 fx1 fx2 fx3 fx4 fx5 fx6 fx7
  have SK : ∀ W, Below (w10.heap.size) w10 W → (W.cell? ⟨w2.heap.size, 0, none⟩ = some (.int .i64 ra) ∧ W.cell? ⟨w2.heap.size, 1, none⟩ = some (.int .i64 rb) ∧ W.cell? ⟨w2.heap.size, 2, none⟩ = some (.int .i64 rt) ∧ W.cell? ⟨w2.heap.size, 3, none⟩ = some (.slice A2 rn q2) ∧ W.cell? ⟨w4.heap.size, 0, none⟩ = some (.int .i64 ra) ∧ W.cell? ⟨w4.heap.size, 1, none⟩ = some (.int .i64 rb) ∧ W.cell? ⟨w4.heap.size, 2, none⟩ = some (.int .i64 rt) ∧ W.cell? ⟨w4.heap.size, 3, none⟩ = some (.slice A4 rn q4) ∧ Below (w10.heap.size) w10 W) := fun W hb => ⟨(hb.cell (p := ⟨w2.heap.size, 0, none⟩) (show w2.heap.size < w10.heap.size by omega)).trans bx0, (hb.cell (p := ⟨w2.heap.size, 1, none⟩) (show w2.heap.size < w10.heap.size by omega)).trans bx1, (hb.cell (p := ⟨w2.heap.size, 2, none⟩) (show w2.heap.size < w10.heap.size by omega)).trans bx2, (hb.cell (p := ⟨w2.heap.size, 3, none⟩) (show w2.heap.size < w10.heap.size by omega)).trans bx3, (hb.cell (p := ⟨w4.heap.size, 0, none⟩) (show w4.heap.size < w10.heap.size by omega)).trans bx4, (hb.cell (p := ⟨w4.heap.size, 1, none⟩) (show w4.heap.size < w10.heap.size by omega)).trans bx5, (hb.cell (p := ⟨w4.heap.size, 2, none⟩) (show w4.heap.size < w10.heap.size by omega)).trans bx6, (hb.cell (p := ⟨w4.heap.size, 3, none⟩) (show w4.heap.size < w10.heap.size by omega)).trans bx7, hb⟩
  have HSK10 := Lib.hid SK
  clear SK bx0 bx1 bx2 bx3 bx4 bx5 bx6 bx7
  obtain ⟨fx0, fx1, fx2, fx3, fx4, fx5, fx6, fx7, -⟩ := HSK10.out w10 (Below.refl _ _)
  go_wp2_with fail
  (with_reducible refine (heldHead_ok _ _ _ _ _ _ _ _ 1 _ (sg_10.below (B := w10.heap.size) (by (repeat' (first | with_reducible exact Below.refl _ _ | with_reducible assumption | with_reducible refine Below.drew ?_ | with_reducible refine Below.alloc ?_ ?_ _ | with_reducible refine Below.setCell ?_ ?_ _ | with_reducible refine Below.trans ?_ (Below.mono (by assumption) ?_) | ((try simp only [World.heap_size_alloc, World.heap_size_drew, World.heap_size_setCell]); omega)))) (by omega)) (by omega) hr (by omega) (by omega)).mono ?_); rintro _ w11 ⟨rfl, b11⟩
  have y11 := b11.size
  (try simp only [World.heap_size_alloc, World.heap_size_drew] at y11)
  have c11 : Below w10.heap.size w10 w11 := by (repeat' (first | with_reducible exact Below.refl _ _ | with_reducible assumption | with_reducible refine Below.drew ?_ | with_reducible refine Below.alloc ?_ ?_ _ | with_reducible refine Below.setCell ?_ ?_ _ | with_reducible refine Below.trans ?_ (Below.mono (by assumption) ?_) | ((try simp only [World.heap_size_alloc, World.heap_size_drew, World.heap_size_setCell]); omega)))
  have z11_0 : w2.heap.size < w11.heap.size := by omega
  have z11_1 : w4.heap.size < w11.heap.size := by omega
  have sw_11 := sw_10.below c11 (by omega)
  clear sw_10
  have sg_11 := sg_10.below c11 (by omega)
  clear sg_10
  have cB11 : Below (w10.heap.size) w10 w11 := Below.trans (by (repeat' (first | with_reducible exact Below.refl _ _ | with_reducible assumption | with_reducible refine Below.drew ?_ | with_reducible refine Below.alloc ?_ ?_ _ | with_reducible refine Below.setCell ?_ ?_ _ | with_reducible refine Below.trans ?_ (Below.mono (by assumption) ?_) | ((try simp only [World.heap_size_alloc, World.heap_size_drew, World.heap_size_setCell]); omega)))) (b11.mono (by (try simp only [World.heap_size_alloc, World.heap_size_drew, World.heap_size_setCell]); omega))
  clear fx0 fx1 fx2 fx3 fx4 fx5 fx6 fx7
  obtain ⟨fx0, fx1, fx2, fx3, fx4, fx5, fx6, fx7, -⟩ := HSK10.out w11 cB11
  go_wp2_with fail
  (with_reducible refine (toInt64S_any _ _ _ z0 _ (h0.below (by (repeat' (first | with_reducible exact Below.refl _ _ | with_reducible assumption | with_reducible refine Below.drew ?_ | with_reducible refine Below.alloc ?_ ?_ _ | with_reducible refine Below.setCell ?_ ?_ _ | with_reducible refine Below.trans ?_ (Below.mono (by assumption) ?_) | ((try simp only [World.heap_size_alloc, World.heap_size_drew, World.heap_size_setCell]); omega))))) hn0).mono ?_); rintro _ w12 ⟨A12, q12, rfl, s12, b12⟩
  have y12 := b12.size
  (try simp only [World.heap_size_alloc, World.heap_size_drew] at y12)
  have c12 : Below w11.heap.size w11 w12 := by (repeat' (first | with_reducible exact Below.refl _ _ | with_reducible assumption | with_reducible refine Below.drew ?_ | with_reducible refine Below.alloc ?_ ?_ _ | with_reducible refine Below.setCell ?_ ?_ _ | with_reducible refine Below.trans ?_ (Below.mono (by assumption) ?_) | ((try simp only [World.heap_size_alloc, World.heap_size_drew, World.heap_size_setCell]); omega)))
  have z12_0 : w2.heap.size < w12.heap.size := by omega
  have z12_1 : w4.heap.size < w12.heap.size := by omega
  have sw_12 := sw_11.below c12 (by omega)
  clear sw_11
  have sg_12 := sg_11.below c12 (by omega)
  clear sg_11
  have sb_12 := s12.mono (lo' := w11.heap.size) (by (try simp only [World.heap_size_alloc, World.heap_size_drew, World.heap_size_setCell]); omega) (Nat.le_refl _)
  clear s12
  have cB12 : Below (w10.heap.size) w10 w12 := Below.trans (by (repeat' (first | with_reducible exact Below.refl _ _ | with_reducible assumption | with_reducible refine Below.drew ?_ | with_reducible refine Below.alloc ?_ ?_ _ | with_reducible refine Below.setCell ?_ ?_ _ | with_reducible refine Below.trans ?_ (Below.mono (by assumption) ?_) | ((try simp only [World.heap_size_alloc, World.heap_size_drew, World.heap_size_setCell]); omega)))) (b12.mono (by (try simp only [World.heap_size_alloc, World.heap_size_drew, World.heap_size_setCell]); omega))
  clear fx0 fx1 fx2 fx3 fx4 fx5 fx6 fx7
  obtain ⟨fx0, fx1, fx2, fx3, fx4, fx5, fx6, fx7, -⟩ := HSK10.out w12 cB12
  go_wp2_with fail
  (with_reducible refine (HI.out _ _ _ _ _ _ (sb_12.below (B := w12.heap.size) (by (repeat' (first | with_reducible exact Below.refl _ _ | with_reducible assumption | with_reducible refine Below.drew ?_ | with_reducible refine Below.alloc ?_ ?_ _ | with_reducible refine Below.setCell ?_ ?_ _ | with_reducible refine Below.trans ?_ (Below.mono (by assumption) ?_) | ((try simp only [World.heap_size_alloc, World.heap_size_drew, World.heap_size_setCell]); omega)))) (by omega))).mono ?_); rintro _ w13 ⟨A13, q13, rfl, s13, b13⟩
  have y13 := b13.size
  (try simp only [World.heap_size_alloc, World.heap_size_drew] at y13)
  have c13 : Below w12.heap.size w12 w13 := by (repeat' (first | with_reducible exact Below.refl _ _ | with_reducible assumption | with_reducible refine Below.drew ?_ | with_reducible refine Below.alloc ?_ ?_ _ | with_reducible refine Below.setCell ?_ ?_ _ | with_reducible refine Below.trans ?_ (Below.mono (by assumption) ?_) | ((try simp only [World.heap_size_alloc, World.heap_size_drew, World.heap_size_setCell]); omega)))
  have z13_0 : w2.heap.size < w13.heap.size := by omega
  have z13_1 : w4.heap.size < w13.heap.size := by omega
  have sw_13 := sw_12.below c13 (by omega)
  clear sw_12
  have sg_13 := sg_12.below c13 (by omega)
  clear sg_12
  have sb_13 := sb_12.below c13 (by omega)
  clear sb_12
  have sh_13 := s13.mono (lo' := w12.heap.size) (by (try simp only [World.heap_size_alloc, World.heap_size_drew, World.heap_size_setCell]); omega) (Nat.le_refl _)
  clear s13
  have cB13 : Below (w10.heap.size) w10 w13 := Below.trans (by (repeat' (first | with_reducible exact Below.refl _ _ | with_reducible assumption | with_reducible refine Below.drew ?_ | with_reducible refine Below.alloc ?_ ?_ _ | with_reducible refine Below.setCell ?_ ?_ _ | with_reducible refine Below.trans ?_ (Below.mono (by assumption) ?_) | ((try simp only [World.heap_size_alloc, World.heap_size_drew, World.heap_size_setCell]); omega)))) (b13.mono (by (try simp only [World.heap_size_alloc, World.heap_size_drew, World.heap_size_setCell]); omega))
  clear fx0 fx1 fx2 fx3 fx4 fx5 fx6 fx7
  obtain ⟨fx0, fx1, fx2, fx3, fx4, fx5, fx6, fx7, -⟩ := HSK10.out w13 cB13
  clear sb_13
  obtain ⟨bx0, bx1, bx2, bx3, bx4, bx5, bx6, bx7, -⟩ := HSK10.out w13 cB13
  replace bx0 := (World.cell?_alloc_lt (w := w13) (a := ⟨w2.heap.size, 0, none⟩) (.cells #[.int .i64 ra, .int .i64 rb, .int .i64 rt, .slice A13 rn q13] 49) (show w2.heap.size < w13.heap.size by omega)).trans bx0
  replace bx1 := (World.cell?_alloc_lt (w := w13) (a := ⟨w2.heap.size, 1, none⟩) (.cells #[.int .i64 ra, .int .i64 rb, .int .i64 rt, .slice A13 rn q13] 49) (show w2.heap.size < w13.heap.size by omega)).trans bx1
  replace bx2 := (World.cell?_alloc_lt (w := w13) (a := ⟨w2.heap.size, 2, none⟩) (.cells #[.int .i64 ra, .int .i64 rb, .int .i64 rt, .slice A13 rn q13] 49) (show w2.heap.size < w13.heap.size by omega)).trans bx2
  replace bx3 := (World.cell?_alloc_lt (w := w13) (a := ⟨w2.heap.size, 3, none⟩) (.cells #[.int .i64 ra, .int .i64 rb, .int .i64 rt, .slice A13 rn q13] 49) (show w2.heap.size < w13.heap.size by omega)).trans bx3
  replace bx4 := (World.cell?_alloc_lt (w := w13) (a := ⟨w4.heap.size, 0, none⟩) (.cells #[.int .i64 ra, .int .i64 rb, .int .i64 rt, .slice A13 rn q13] 49) (show w4.heap.size < w13.heap.size by omega)).trans bx4
  replace bx5 := (World.cell?_alloc_lt (w := w13) (a := ⟨w4.heap.size, 1, none⟩) (.cells #[.int .i64 ra, .int .i64 rb, .int .i64 rt, .slice A13 rn q13] 49) (show w4.heap.size < w13.heap.size by omega)).trans bx5
  replace bx6 := (World.cell?_alloc_lt (w := w13) (a := ⟨w4.heap.size, 2, none⟩) (.cells #[.int .i64 ra, .int .i64 rb, .int .i64 rt, .slice A13 rn q13] 49) (show w4.heap.size < w13.heap.size by omega)).trans bx6
  replace bx7 := (World.cell?_alloc_lt (w := w13) (a := ⟨w4.heap.size, 3, none⟩) (.cells #[.int .i64 ra, .int .i64 rb, .int .i64 rt, .slice A13 rn q13] 49) (show w4.heap.size < w13.heap.size by omega)).trans bx7
  have bx8 : (w13.alloc (.cells #[.int .i64 ra, .int .i64 rb, .int .i64 rt, .slice A13 rn q13] 49)).cell? ⟨w13.heap.size, 0, none⟩ = some (.int .i64 ra) := by simp
  have bx9 : (w13.alloc (.cells #[.int .i64 ra, .int .i64 rb, .int .i64 rt, .slice A13 rn q13] 49)).cell? ⟨w13.heap.size, 1, none⟩ = some (.int .i64 rb) := by simp
  have bx10 : (w13.alloc (.cells #[.int .i64 ra, .int .i64 rb, .int .i64 rt, .slice A13 rn q13] 49)).cell? ⟨w13.heap.size, 2, none⟩ = some (.int .i64 rt) := by simp
  have bx11 : (w13.alloc (.cells #[.int .i64 ra, .int .i64 rb, .int .i64 rt, .slice A13 rn q13] 49)).cell? ⟨w13.heap.size, 3, none⟩ = some (.slice A13 rn q13) := by simp
  have SK : ∀ W, Below (w13.heap.size + 1) (w13.alloc (.cells #[.int .i64 ra, .int .i64 rb, .int .i64 rt, .slice A13 rn q13] 49)) W → (W.cell? ⟨w2.heap.size, 0, none⟩ = some (.int .i64 ra) ∧ W.cell? ⟨w2.heap.size, 1, none⟩ = some (.int .i64 rb) ∧ W.cell? ⟨w2.heap.size, 2, none⟩ = some (.int .i64 rt) ∧ W.cell? ⟨w2.heap.size, 3, none⟩ = some (.slice A2 rn q2) ∧ W.cell? ⟨w4.heap.size, 0, none⟩ = some (.int .i64 ra) ∧ W.cell? ⟨w4.heap.size, 1, none⟩ = some (.int .i64 rb) ∧ W.cell? ⟨w4.heap.size, 2, none⟩ = some (.int .i64 rt) ∧ W.cell? ⟨w4.heap.size, 3, none⟩ = some (.slice A4 rn q4) ∧ W.cell? ⟨w13.heap.size, 0, none⟩ = some (.int .i64 ra) ∧ W.cell? ⟨w13.heap.size, 1, none⟩ = some (.int .i64 rb) ∧ W.cell? ⟨w13.heap.size, 2, none⟩ = some (.int .i64 rt) ∧ W.cell? ⟨w13.heap.size, 3, none⟩ = some (.slice A13 rn q13) ∧ Below (w13.heap.size + 1) (w13.alloc (.cells #[.int .i64 ra, .int .i64 rb, .int .i64 rt, .slice A13 rn q13] 49)) W) := fun W hb => ⟨(hb.cell (p := ⟨w2.heap.size, 0, none⟩) (show w2.heap.size < w13.heap.size + 1 by omega)).trans bx0, (hb.cell (p := ⟨w2.heap.size, 1, none⟩) (show w2.heap.size < w13.heap.size + 1 by omega)).trans bx1, (hb.cell (p := ⟨w2.heap.size, 2, none⟩) (show w2.heap.size < w13.heap.size + 1 by omega)).trans bx2, (hb.cell (p := ⟨w2.heap.size, 3, none⟩) (show w2.heap.size < w13.heap.size + 1 by omega)).trans bx3, (hb.cell (p := ⟨w4.heap.size, 0, none⟩) (show w4.heap.size < w13.heap.size + 1 by omega)).trans bx4, (hb.cell (p := ⟨w4.heap.size, 1, none⟩) (show w4.heap.size < w13.heap.size + 1 by omega)).trans bx5, (hb.cell (p := ⟨w4.heap.size, 2, none⟩) (show w4.heap.size < w13.heap.size + 1 by omega)).trans bx6, (hb.cell (p := ⟨w4.heap.size, 3, none⟩) (show w4.heap.size < w13.heap.size + 1 by omega)).trans bx7, (hb.cell (p := ⟨w13.heap.size, 0, none⟩) (show w13.heap.size < w13.heap.size + 1 by omega)).trans bx8, (hb.cell (p := ⟨w13.heap.size, 1, none⟩) (show w13.heap.size < w13.heap.size + 1 by omega)).trans bx9, (hb.cell (p := ⟨w13.heap.size, 2, none⟩) (show w13.heap.size < w13.heap.size + 1 by omega)).trans bx10, (hb.cell (p := ⟨w13.heap.size, 3, none⟩) (show w13.heap.size < w13.heap.size + 1 by omega)).trans bx11, hb⟩
  have HSK13 := Lib.hid SK
  clear SK bx0 bx1 bx2 bx3 bx4 bx5 bx6 bx7 bx8 bx9 bx10 bx11
  go_wp2_with fail
  (with_reducible refine (eqHead_same _ _ _ _ _ _ _ _ _ _ _ _ _ _ (sh_13.below (B := w13.heap.size) (by (repeat' (first | with_reducible exact Below.refl _ _ | with_reducible assumption | with_reducible refine Below.drew ?_ | with_reducible refine Below.alloc ?_ ?_ _ | with_reducible refine Below.setCell ?_ ?_ _ | with_reducible refine Below.trans ?_ (Below.mono (by assumption) ?_) | ((try simp only [World.heap_size_alloc, World.heap_size_drew, World.heap_size_setCell]); omega)))) (by omega)) (sw_13.below (B := w13.heap.size) (by (repeat' (first | with_reducible exact Below.refl _ _ | with_reducible assumption | with_reducible refine Below.drew ?_ | with_reducible refine Below.alloc ?_ ?_ _ | with_reducible refine Below.setCell ?_ ?_ _ | with_reducible refine Below.trans ?_ (Below.mono (by assumption) ?_) | ((try simp only [World.heap_size_alloc, World.heap_size_drew, World.heap_size_setCell]); omega)))) (by omega))).mono ?_); rintro _ w14 ⟨rfl, b14⟩
  have y14 := b14.size
  (try simp only [World.heap_size_alloc, World.heap_size_drew] at y14)
  have c14 : Below w13.heap.size w13 w14 := by (repeat' (first | with_reducible exact Below.refl _ _ | with_reducible assumption | with_reducible refine Below.drew ?_ | with_reducible refine Below.alloc ?_ ?_ _ | with_reducible refine Below.setCell ?_ ?_ _ | with_reducible refine Below.trans ?_ (Below.mono (by assumption) ?_) | ((try simp only [World.heap_size_alloc, World.heap_size_drew, World.heap_size_setCell]); omega)))
  have z14_0 : w2.heap.size < w14.heap.size := by omega
  have z14_1 : w4.heap.size < w14.heap.size := by omega
  have z14_2 : w13.heap.size < w14.heap.size := by omega
  have sw_14 := sw_13.below c14 (by omega)
  clear sw_13
  have sg_14 := sg_13.below c14 (by omega)
  clear sg_13
  have sh_14 := sh_13.below c14 (by omega)
  clear sh_13
  have cB14 : Below (w13.heap.size + 1) (w13.alloc (.cells #[.int .i64 ra, .int .i64 rb, .int .i64 rt, .slice A13 rn q13] 49)) w14 := Below.trans (by (repeat' (first | with_reducible exact Below.refl _ _ | with_reducible assumption | with_reducible refine Below.drew ?_ | with_reducible refine Below.alloc ?_ ?_ _ | with_reducible refine Below.setCell ?_ ?_ _ | with_reducible refine Below.trans ?_ (Below.mono (by assumption) ?_) | ((try simp only [World.heap_size_alloc, World.heap_size_drew, World.heap_size_setCell]); omega)))) (b14.mono (by (try simp only [World.heap_size_alloc, World.heap_size_drew, World.heap_size_setCell]); omega))
  clear fx0 fx1 fx2 fx3 fx4 fx5 fx6 fx7
  obtain ⟨fx0, fx1, fx2, fx3, fx4, fx5, fx6, fx7, fx8, fx9, fx10, fx11, -⟩ := HSK13.out w14 cB14
  go_wp2_with fail
  (with_reducible refine (heldHead_ok _ _ _ _ _ _ _ _ 1 _ (sg_14.below (B := w14.heap.size) (by (repeat' (first | with_reducible exact Below.refl _ _ | with_reducible assumption | with_reducible refine Below.drew ?_ | with_reducible refine Below.alloc ?_ ?_ _ | with_reducible refine Below.setCell ?_ ?_ _ | with_reducible refine Below.trans ?_ (Below.mono (by assumption) ?_) | ((try simp only [World.heap_size_alloc, World.heap_size_drew, World.heap_size_setCell]); omega)))) (by omega)) (by omega) hr (by omega) (by omega)).mono ?_); rintro _ w15 ⟨rfl, b15⟩
  have y15 := b15.size
  (try simp only [World.heap_size_alloc, World.heap_size_drew] at y15)
  have c15 : Below w14.heap.size w14 w15 := by (repeat' (first | with_reducible exact Below.refl _ _ | with_reducible assumption | with_reducible refine Below.drew ?_ | with_reducible refine Below.alloc ?_ ?_ _ | with_reducible refine Below.setCell ?_ ?_ _ | with_reducible refine Below.trans ?_ (Below.mono (by assumption) ?_) | ((try simp only [World.heap_size_alloc, World.heap_size_drew, World.heap_size_setCell]); omega)))
  have z15_0 : w2.heap.size < w15.heap.size := by omega
  have z15_1 : w4.heap.size < w15.heap.size := by omega
  have z15_2 : w13.heap.size < w15.heap.size := by omega
  have sw_15 := sw_14.below c15 (by omega)
  clear sw_14
  have sg_15 := sg_14.below c15 (by omega)
  clear sg_14
  have sh_15 := sh_14.below c15 (by omega)
  clear sh_14
  have cB15 : Below (w13.heap.size + 1) (w13.alloc (.cells #[.int .i64 ra, .int .i64 rb, .int .i64 rt, .slice A13 rn q13] 49)) w15 := Below.trans (by (repeat' (first | with_reducible exact Below.refl _ _ | with_reducible assumption | with_reducible refine Below.drew ?_ | with_reducible refine Below.alloc ?_ ?_ _ | with_reducible refine Below.setCell ?_ ?_ _ | with_reducible refine Below.trans ?_ (Below.mono (by assumption) ?_) | ((try simp only [World.heap_size_alloc, World.heap_size_drew, World.heap_size_setCell]); omega)))) (b15.mono (by (try simp only [World.heap_size_alloc, World.heap_size_drew, World.heap_size_setCell]); omega))
  clear fx0 fx1 fx2 fx3 fx4 fx5 fx6 fx7 fx8 fx9 fx10 fx11
  obtain ⟨fx0, fx1, fx2, fx3, fx4, fx5, fx6, fx7, fx8, fx9, fx10, fx11, -⟩ := HSK13.out w15 cB15
  go_wp2_with fail
  go_ret
  refine ⟨rfl, ?_⟩
  (repeat' (first | with_reducible exact Below.refl _ _ | with_reducible assumption | with_reducible refine Below.drew ?_ | with_reducible refine Below.alloc ?_ ?_ _ | with_reducible refine Below.setCell ?_ ?_ _ | with_reducible refine Below.trans ?_ (Below.mono (by assumption) ?_) | ((try simp only [World.heap_size_alloc, World.heap_size_drew, World.heap_size_setCell]); omega)))
theorem own : ownKnob Try.prog.godebug = none := by kernel_rfl
theorem laidOut : laidOutB Try.prog = true := by kernel_rfl
set_option maxRecDepth 100000 in
theorem lifted (os : Os) (started : os.Started) (H : Type) (enc : TypeId × Value → H) :
    ReturnsInHanded {} Try.checked os 7 .any (Rows.fnExactRowHeadSpec.pre6 enc Try.prog Try.f7 Rows.fnExactRowHeadRow.domain false) (Rows.fnExactRowHeadSpec.post enc Try.prog Try.f7 false true false false) := by
  refine returnsInHanded_of_change (C := Try.checked) own started (by kernel_rfl) Try.func7
    (ChangeSpec.witness6 (enc := enc) (C := Try.checked) false ⟨#[], #[.slice none 0 0], []⟩ 8 (by kernel_rfl) (by kernel_rfl) (by kernel_rfl) (by kernel_rfl)) ?_
  intro W base args ds gs before hval0 hW hcnd _
  have hval : ∀ (j : Nat) t v, Try.f7.params[j]? = some t → args[j]? = some v → Value.okWide Try.prog W .any base t v := hval0
  have hW' := hW
  obtain ⟨p, q, hA0, hV, rfl, hfz, hnd⟩ := hW
  have hA : DataW.TrodAll enc Try.prog W 0 (fun _ => true) true Try.f7.params.toList args.toList ds p := hA0
  rw [Try.params7] at hA hval
  obtain ⟨v0, d0, rfl, rfl, h0⟩ := trodAll_one hA
  obtain ⟨rfl, rfl⟩ := trodVars_none hV
  obtain ⟨A0, n0, c0, z0, rfl, hz0⟩ := open_slv (m := 3) (k := 1) Try.underlying28 (by kernel_rfl) (by kernel_rfl) (by omega) (hval 0 28 v0 rfl rfl) h0
  clear hA0 hval0
  refine (law_any A0 n0 c0 z0 W hz0).mono fun e W' ⟨he, hb⟩ => ?_
  subst he
  exact ⟨_, rfl, law_post laidOut (by kernel_rfl) rfl Try.underlying4 rfl hW' hb rfl rfl rfl⟩
theorem holds : Rows.FnExactRowHeadSaid :=
  OpenClaim.holds_of_wide 7 Try.f7 rfl rfl rfl rfl rfl rfl rfl ⟨rfl, rfl, rfl, rfl, rfl⟩ rfl rfl rfl rfl rfl (by kernel_rfl) Try.func7 (by kernel_rfl)
    (of_decide_eq_true (by kernel_rfl)) (by unfold Func.isWrapper; first | (rw [if_pos (by decide +kernel)]; kernel_rfl) | (rw [if_neg (by decide +kernel)]; exact ⟨rfl, rfl⟩))
    (fun os started H enc _ => lifted os started H enc)
#print axioms holds
end RowHead
end Go.Proofs.Ytgnilmdaegnaaaa
