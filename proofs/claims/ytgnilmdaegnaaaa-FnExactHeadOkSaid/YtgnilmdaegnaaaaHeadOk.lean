/- The law FnExactHeadOk returns true for every input. No conditions. -/
import Derived.Test.YtgnilmdaegnaaaaHd1
import Derived.Deep.RegionHeld3
set_option linter.unusedSimpArgs false
set_option linter.unusedVariables false
namespace Go.Proofs.Ytgnilmdaegnaaaa
open Go.ChangeShapes Go.WideShapes Go.ChangeAt Go.RowKit
namespace HeadOk
set_option maxRecDepth 100000 in
set_option maxHeartbeats 16000000 in
theorem law_any (i0_0 i0_1 i0_2 : Int) (AA0 : Option Addr) (n0 cp0 : Nat) (l0 : List MarkD) (w : World) (h0 : ArgSl w 3 AA0 n0 cp0 (l0.flatMap MarkD.ints)) : Calls Try.prog 6 #[.agg #[.int .i64 i0_0, .int .i64 i0_1, .int .i64 i0_2, .slice AA0 n0 cp0]] w fun e w' => e = .returned (.bool true) ∧ Below w.heap.size w w' := by
  rcases Nat.lt_or_ge (1048576) n0 with hb0 | hn0
  · have hbb : n0 ≤ 9223372036854775807 := Nat.le_trans h0.cap h0.big
    clear h0
    go_enter Try.func6, Try.ntmps6
    go_wp2_with fail
    (with_reducible refine (szHead_big _ _ _ _ n0 _ _ _ (by omega) (by omega) hbb (by omega)).mono ?_); rintro _ wz ⟨rfl, bz⟩
    have yz := bz.size
    (try simp only [World.heap_size_alloc] at yz)
    go_wp2_with fail
    go_ret
    exact ⟨rfl, by (repeat' (first | with_reducible exact Below.refl _ _ | with_reducible assumption | with_reducible refine Below.drew ?_ | with_reducible refine Below.alloc ?_ ?_ _ | with_reducible refine Below.setCell ?_ ?_ _ | with_reducible refine Below.trans ?_ (Below.mono (by assumption) ?_) | ((try simp only [World.heap_size_alloc, World.heap_size_drew, World.heap_size_setCell]); omega)))⟩
  have CS := fun (A0 : Option Addr) (n0 c0 lo0 hi0 : Nat) W (s0 : Sl W lo0 hi0 3 A0 n0 c0 (l0.flatMap MarkD.ints)) => sHeadOk_any i0_0 i0_1 i0_2 A0 n0 c0 lo0 hi0 l0 W s0
  have CI := fun (A0 : Option Addr) (n0 c0 lo0 hi0 : Nat) W (s0 : Sl W lo0 hi0 3 A0 n0 c0 (l0.flatMap MarkD.ints)) => headOk_any i0_0 i0_1 i0_2 A0 n0 c0 lo0 hi0 l0 W s0
  generalize headOk i0_0 i0_1 i0_2 l0 = r at CS CI
  have HS := Lib.hid CS
  have HI := Lib.hid CI
  clear CS CI
  have bx0 : (w.alloc (.cells #[.int .i64 i0_0, .int .i64 i0_1, .int .i64 i0_2, .slice AA0 n0 cp0] 44)).cell? ⟨w.heap.size, 0, none⟩ = some (.int .i64 i0_0) := by simp
  have bx1 : (w.alloc (.cells #[.int .i64 i0_0, .int .i64 i0_1, .int .i64 i0_2, .slice AA0 n0 cp0] 44)).cell? ⟨w.heap.size, 1, none⟩ = some (.int .i64 i0_1) := by simp
  have bx2 : (w.alloc (.cells #[.int .i64 i0_0, .int .i64 i0_1, .int .i64 i0_2, .slice AA0 n0 cp0] 44)).cell? ⟨w.heap.size, 2, none⟩ = some (.int .i64 i0_2) := by simp
  have bx3 : (w.alloc (.cells #[.int .i64 i0_0, .int .i64 i0_1, .int .i64 i0_2, .slice AA0 n0 cp0] 44)).cell? ⟨w.heap.size, 3, none⟩ = some (.slice AA0 n0 cp0) := by simp
  have SK : ∀ W, Below (w.heap.size + 1) (w.alloc (.cells #[.int .i64 i0_0, .int .i64 i0_1, .int .i64 i0_2, .slice AA0 n0 cp0] 44)) W → (W.cell? ⟨w.heap.size, 0, none⟩ = some (.int .i64 i0_0) ∧ W.cell? ⟨w.heap.size, 1, none⟩ = some (.int .i64 i0_1) ∧ W.cell? ⟨w.heap.size, 2, none⟩ = some (.int .i64 i0_2) ∧ W.cell? ⟨w.heap.size, 3, none⟩ = some (.slice AA0 n0 cp0) ∧ Below (w.heap.size + 1) (w.alloc (.cells #[.int .i64 i0_0, .int .i64 i0_1, .int .i64 i0_2, .slice AA0 n0 cp0] 44)) W) := fun W hb => ⟨(hb.cell (p := ⟨w.heap.size, 0, none⟩) (show w.heap.size < w.heap.size + 1 by omega)).trans bx0, (hb.cell (p := ⟨w.heap.size, 1, none⟩) (show w.heap.size < w.heap.size + 1 by omega)).trans bx1, (hb.cell (p := ⟨w.heap.size, 2, none⟩) (show w.heap.size < w.heap.size + 1 by omega)).trans bx2, (hb.cell (p := ⟨w.heap.size, 3, none⟩) (show w.heap.size < w.heap.size + 1 by omega)).trans bx3, hb⟩
  have HSK := Lib.hid SK
  clear SK bx0 bx1 bx2 bx3
  go_enter Try.func6, Try.ntmps6
  go_wp2_with fail
  (with_reducible refine (szHead_ok _ _ _ _ n0 _ _ _ (by omega) (by omega)).mono ?_); rintro _ w1 ⟨rfl, b1⟩
  have y1 := b1.size
  (try simp only [World.heap_size_alloc, World.heap_size_drew] at y1)
  have c1 : Below w.heap.size w w1 := by (repeat' (first | with_reducible exact Below.refl _ _ | with_reducible assumption | with_reducible refine Below.drew ?_ | with_reducible refine Below.alloc ?_ ?_ _ | with_reducible refine Below.setCell ?_ ?_ _ | with_reducible refine Below.trans ?_ (Below.mono (by assumption) ?_) | ((try simp only [World.heap_size_alloc, World.heap_size_drew, World.heap_size_setCell]); omega)))
  obtain ⟨b1_c, b1_f⟩ := bcell b1
  have z1_0 : w.heap.size < w1.heap.size := by omega
  have cB1 : Below (w.heap.size + 1) (w.alloc (.cells #[.int .i64 i0_0, .int .i64 i0_1, .int .i64 i0_2, .slice AA0 n0 cp0] 44)) w1 := Below.trans (by (repeat' (first | with_reducible exact Below.refl _ _ | with_reducible assumption | with_reducible refine Below.drew ?_ | with_reducible refine Below.alloc ?_ ?_ _ | with_reducible refine Below.setCell ?_ ?_ _ | with_reducible refine Below.trans ?_ (Below.mono (by assumption) ?_) | ((try simp only [World.heap_size_alloc, World.heap_size_drew, World.heap_size_setCell]); omega)))) (b1.mono (by (try simp only [World.heap_size_alloc, World.heap_size_drew, World.heap_size_setCell]); omega))
  go_wp2_with fail
  (with_reducible refine (toHead_any _ _ _ _ _ _ (l0.flatMap MarkD.ints) _ (h0.below (by (repeat' (first | with_reducible exact Below.refl _ _ | with_reducible assumption | with_reducible refine Below.drew ?_ | with_reducible refine Below.alloc ?_ ?_ _ | with_reducible refine Below.setCell ?_ ?_ _ | with_reducible refine Below.trans ?_ (Below.mono (by assumption) ?_) | ((try simp only [World.heap_size_alloc, World.heap_size_drew, World.heap_size_setCell]); omega))))) hn0).mono ?_); rintro _ w2 ⟨A2, q2, rfl, s2, b2⟩
  have y2 := b2.size
  (try simp only [World.heap_size_alloc, World.heap_size_drew] at y2)
  have c2 : Below w1.heap.size w1 w2 := by (repeat' (first | with_reducible exact Below.refl _ _ | with_reducible assumption | with_reducible refine Below.drew ?_ | with_reducible refine Below.alloc ?_ ?_ _ | with_reducible refine Below.setCell ?_ ?_ _ | with_reducible refine Below.trans ?_ (Below.mono (by assumption) ?_) | ((try simp only [World.heap_size_alloc, World.heap_size_drew, World.heap_size_setCell]); omega)))
  obtain ⟨b2_c, b2_f⟩ := bcell b2
  have z2_0 : w.heap.size < w2.heap.size := by omega
  have sa_2 := s2.mono (lo' := w1.heap.size) (by (try simp only [World.heap_size_alloc, World.heap_size_drew, World.heap_size_setCell]); omega) (Nat.le_refl _)
  clear s2
  have cB2 : Below (w.heap.size + 1) (w.alloc (.cells #[.int .i64 i0_0, .int .i64 i0_1, .int .i64 i0_2, .slice AA0 n0 cp0] 44)) w2 := Below.trans (by (repeat' (first | with_reducible exact Below.refl _ _ | with_reducible assumption | with_reducible refine Below.drew ?_ | with_reducible refine Below.alloc ?_ ?_ _ | with_reducible refine Below.setCell ?_ ?_ _ | with_reducible refine Below.trans ?_ (Below.mono (by assumption) ?_) | ((try simp only [World.heap_size_alloc, World.heap_size_drew, World.heap_size_setCell]); omega)))) (b2.mono (by (try simp only [World.heap_size_alloc, World.heap_size_drew, World.heap_size_setCell]); omega))
  go_wp2_with fail
  (with_reducible refine (HS.out _ _ _ _ _ _ (sa_2)).mono ?_); rintro _ w3 ⟨rfl, b3⟩
  have y3 := b3.size
  (try simp only [World.heap_size_alloc, World.heap_size_drew] at y3)
  have c3 : Below w2.heap.size w2 w3 := by (repeat' (first | with_reducible exact Below.refl _ _ | with_reducible assumption | with_reducible refine Below.drew ?_ | with_reducible refine Below.alloc ?_ ?_ _ | with_reducible refine Below.setCell ?_ ?_ _ | with_reducible refine Below.trans ?_ (Below.mono (by assumption) ?_) | ((try simp only [World.heap_size_alloc, World.heap_size_drew, World.heap_size_setCell]); omega)))
  obtain ⟨b3_c, b3_f⟩ := bcell b3
  have z3_0 : w.heap.size < w3.heap.size := by omega
  have sa_3 := sa_2.below c3 (by omega)
  clear sa_2
  have cB3 : Below (w.heap.size + 1) (w.alloc (.cells #[.int .i64 i0_0, .int .i64 i0_1, .int .i64 i0_2, .slice AA0 n0 cp0] 44)) w3 := Below.trans (by (repeat' (first | with_reducible exact Below.refl _ _ | with_reducible assumption | with_reducible refine Below.drew ?_ | with_reducible refine Below.alloc ?_ ?_ _ | with_reducible refine Below.setCell ?_ ?_ _ | with_reducible refine Below.trans ?_ (Below.mono (by assumption) ?_) | ((try simp only [World.heap_size_alloc, World.heap_size_drew, World.heap_size_setCell]); omega)))) (b3.mono (by (try simp only [World.heap_size_alloc, World.heap_size_drew, World.heap_size_setCell]); omega))
  clear sa_3
  go_wp2_with fail
  (with_reducible refine (toHead_any _ _ _ _ _ _ (l0.flatMap MarkD.ints) _ (h0.below (by (repeat' (first | with_reducible exact Below.refl _ _ | with_reducible assumption | with_reducible refine Below.drew ?_ | with_reducible refine Below.alloc ?_ ?_ _ | with_reducible refine Below.setCell ?_ ?_ _ | with_reducible refine Below.trans ?_ (Below.mono (by assumption) ?_) | ((try simp only [World.heap_size_alloc, World.heap_size_drew, World.heap_size_setCell]); omega))))) hn0).mono ?_); rintro _ w4 ⟨A4, q4, rfl, s4, b4⟩
  have y4 := b4.size
  (try simp only [World.heap_size_alloc, World.heap_size_drew] at y4)
  have c4 : Below w3.heap.size w3 w4 := by (repeat' (first | with_reducible exact Below.refl _ _ | with_reducible assumption | with_reducible refine Below.drew ?_ | with_reducible refine Below.alloc ?_ ?_ _ | with_reducible refine Below.setCell ?_ ?_ _ | with_reducible refine Below.trans ?_ (Below.mono (by assumption) ?_) | ((try simp only [World.heap_size_alloc, World.heap_size_drew, World.heap_size_setCell]); omega)))
  obtain ⟨b4_c, b4_f⟩ := bcell b4
  have z4_0 : w.heap.size < w4.heap.size := by omega
  have sx_4 := s4.mono (lo' := w3.heap.size) (by (try simp only [World.heap_size_alloc, World.heap_size_drew, World.heap_size_setCell]); omega) (Nat.le_refl _)
  clear s4
  have cB4 : Below (w.heap.size + 1) (w.alloc (.cells #[.int .i64 i0_0, .int .i64 i0_1, .int .i64 i0_2, .slice AA0 n0 cp0] 44)) w4 := Below.trans (by (repeat' (first | with_reducible exact Below.refl _ _ | with_reducible assumption | with_reducible refine Below.drew ?_ | with_reducible refine Below.alloc ?_ ?_ _ | with_reducible refine Below.setCell ?_ ?_ _ | with_reducible refine Below.trans ?_ (Below.mono (by assumption) ?_) | ((try simp only [World.heap_size_alloc, World.heap_size_drew, World.heap_size_setCell]); omega)))) (b4.mono (by (try simp only [World.heap_size_alloc, World.heap_size_drew, World.heap_size_setCell]); omega))
  obtain ⟨bx0, bx1, bx2, bx3, _⟩ := HSK.out w4 cB4
  replace bx0 := (World.cell?_alloc_lt (w := w4) (a := ⟨w.heap.size, 0, none⟩) (.cells #[.int .i64 i0_0, .int .i64 i0_1, .int .i64 i0_2, .slice A4 n0 q4] 49) (show w.heap.size < w4.heap.size by omega)).trans bx0
  replace bx1 := (World.cell?_alloc_lt (w := w4) (a := ⟨w.heap.size, 1, none⟩) (.cells #[.int .i64 i0_0, .int .i64 i0_1, .int .i64 i0_2, .slice A4 n0 q4] 49) (show w.heap.size < w4.heap.size by omega)).trans bx1
  replace bx2 := (World.cell?_alloc_lt (w := w4) (a := ⟨w.heap.size, 2, none⟩) (.cells #[.int .i64 i0_0, .int .i64 i0_1, .int .i64 i0_2, .slice A4 n0 q4] 49) (show w.heap.size < w4.heap.size by omega)).trans bx2
  replace bx3 := (World.cell?_alloc_lt (w := w4) (a := ⟨w.heap.size, 3, none⟩) (.cells #[.int .i64 i0_0, .int .i64 i0_1, .int .i64 i0_2, .slice A4 n0 q4] 49) (show w.heap.size < w4.heap.size by omega)).trans bx3
  have bx4 : (w4.alloc (.cells #[.int .i64 i0_0, .int .i64 i0_1, .int .i64 i0_2, .slice A4 n0 q4] 49)).cell? ⟨w4.heap.size, 0, none⟩ = some (.int .i64 i0_0) := by simp
  have bx5 : (w4.alloc (.cells #[.int .i64 i0_0, .int .i64 i0_1, .int .i64 i0_2, .slice A4 n0 q4] 49)).cell? ⟨w4.heap.size, 1, none⟩ = some (.int .i64 i0_1) := by simp
  have bx6 : (w4.alloc (.cells #[.int .i64 i0_0, .int .i64 i0_1, .int .i64 i0_2, .slice A4 n0 q4] 49)).cell? ⟨w4.heap.size, 2, none⟩ = some (.int .i64 i0_2) := by simp
  have bx7 : (w4.alloc (.cells #[.int .i64 i0_0, .int .i64 i0_1, .int .i64 i0_2, .slice A4 n0 q4] 49)).cell? ⟨w4.heap.size, 3, none⟩ = some (.slice A4 n0 q4) := by simp
  have SK : ∀ W, Below (w4.heap.size + 1) (w4.alloc (.cells #[.int .i64 i0_0, .int .i64 i0_1, .int .i64 i0_2, .slice A4 n0 q4] 49)) W → (W.cell? ⟨w.heap.size, 0, none⟩ = some (.int .i64 i0_0) ∧ W.cell? ⟨w.heap.size, 1, none⟩ = some (.int .i64 i0_1) ∧ W.cell? ⟨w.heap.size, 2, none⟩ = some (.int .i64 i0_2) ∧ W.cell? ⟨w.heap.size, 3, none⟩ = some (.slice AA0 n0 cp0) ∧ W.cell? ⟨w4.heap.size, 0, none⟩ = some (.int .i64 i0_0) ∧ W.cell? ⟨w4.heap.size, 1, none⟩ = some (.int .i64 i0_1) ∧ W.cell? ⟨w4.heap.size, 2, none⟩ = some (.int .i64 i0_2) ∧ W.cell? ⟨w4.heap.size, 3, none⟩ = some (.slice A4 n0 q4) ∧ Below (w4.heap.size + 1) (w4.alloc (.cells #[.int .i64 i0_0, .int .i64 i0_1, .int .i64 i0_2, .slice A4 n0 q4] 49)) W) := fun W hb => ⟨(hb.cell (p := ⟨w.heap.size, 0, none⟩) (show w.heap.size < w4.heap.size + 1 by omega)).trans bx0, (hb.cell (p := ⟨w.heap.size, 1, none⟩) (show w.heap.size < w4.heap.size + 1 by omega)).trans bx1, (hb.cell (p := ⟨w.heap.size, 2, none⟩) (show w.heap.size < w4.heap.size + 1 by omega)).trans bx2, (hb.cell (p := ⟨w.heap.size, 3, none⟩) (show w.heap.size < w4.heap.size + 1 by omega)).trans bx3, (hb.cell (p := ⟨w4.heap.size, 0, none⟩) (show w4.heap.size < w4.heap.size + 1 by omega)).trans bx4, (hb.cell (p := ⟨w4.heap.size, 1, none⟩) (show w4.heap.size < w4.heap.size + 1 by omega)).trans bx5, (hb.cell (p := ⟨w4.heap.size, 2, none⟩) (show w4.heap.size < w4.heap.size + 1 by omega)).trans bx6, (hb.cell (p := ⟨w4.heap.size, 3, none⟩) (show w4.heap.size < w4.heap.size + 1 by omega)).trans bx7, hb⟩
  have HSK4 := Lib.hid SK
  clear SK bx0 bx1 bx2 bx3 bx4 bx5 bx6 bx7
  go_wp2_with fail
  (with_reducible refine (HI.out _ _ _ _ _ _ (sx_4.below (B := w4.heap.size) (by (repeat' (first | with_reducible exact Below.refl _ _ | with_reducible assumption | with_reducible refine Below.drew ?_ | with_reducible refine Below.alloc ?_ ?_ _ | with_reducible refine Below.setCell ?_ ?_ _ | with_reducible refine Below.trans ?_ (Below.mono (by assumption) ?_) | ((try simp only [World.heap_size_alloc, World.heap_size_drew, World.heap_size_setCell]); omega)))) (by omega))).mono ?_); rintro _ w5 ⟨rfl, b5⟩
  have y5 := b5.size
  (try simp only [World.heap_size_alloc, World.heap_size_drew] at y5)
  have c5 : Below w4.heap.size w4 w5 := by (repeat' (first | with_reducible exact Below.refl _ _ | with_reducible assumption | with_reducible refine Below.drew ?_ | with_reducible refine Below.alloc ?_ ?_ _ | with_reducible refine Below.setCell ?_ ?_ _ | with_reducible refine Below.trans ?_ (Below.mono (by assumption) ?_) | ((try simp only [World.heap_size_alloc, World.heap_size_drew, World.heap_size_setCell]); omega)))
  obtain ⟨b5_c, b5_f⟩ := bcell b5
  have z5_0 : w.heap.size < w5.heap.size := by omega
  have z5_1 : w4.heap.size < w5.heap.size := by omega
  have sx_5 := sx_4.below c5 (by omega)
  clear sx_4
  have cB5 : Below (w4.heap.size + 1) (w4.alloc (.cells #[.int .i64 i0_0, .int .i64 i0_1, .int .i64 i0_2, .slice A4 n0 q4] 49)) w5 := Below.trans (by (repeat' (first | with_reducible exact Below.refl _ _ | with_reducible assumption | with_reducible refine Below.drew ?_ | with_reducible refine Below.alloc ?_ ?_ _ | with_reducible refine Below.setCell ?_ ?_ _ | with_reducible refine Below.trans ?_ (Below.mono (by assumption) ?_) | ((try simp only [World.heap_size_alloc, World.heap_size_drew, World.heap_size_setCell]); omega)))) (b5.mono (by (try simp only [World.heap_size_alloc, World.heap_size_drew, World.heap_size_setCell]); omega))
  go_wp2_with fail
  go_region_held3 (fun w' => w'.cell? ⟨w.heap.size, 0, none⟩ = some (.int .i64 i0_0) ∧ w'.cell? ⟨w.heap.size, 1, none⟩ = some (.int .i64 i0_1) ∧ w'.cell? ⟨w.heap.size, 2, none⟩ = some (.int .i64 i0_2) ∧ w'.cell? ⟨w.heap.size, 3, none⟩ = some (.slice AA0 n0 cp0) ∧ w'.cell? ⟨w4.heap.size, 0, none⟩ = some (.int .i64 i0_0) ∧ w'.cell? ⟨w4.heap.size, 1, none⟩ = some (.int .i64 i0_1) ∧ w'.cell? ⟨w4.heap.size, 2, none⟩ = some (.int .i64 i0_2) ∧ w'.cell? ⟨w4.heap.size, 3, none⟩ = some (.slice A4 n0 q4) ∧ Below (w4.heap.size + 1) (w4.alloc (.cells #[.int .i64 i0_0, .int .i64 i0_1, .int .i64 i0_2, .slice A4 n0 q4] 49)) w')
    (first | (refine HSK4.out _ ?_; (repeat' (first | with_reducible exact Below.refl _ _ | with_reducible assumption | with_reducible refine Below.drew ?_ | with_reducible refine Below.alloc ?_ ?_ _ | with_reducible refine Below.setCell ?_ ?_ _ | with_reducible refine Below.trans ?_ (Below.mono (by assumption) ?_) | ((try simp only [World.heap_size_alloc, World.heap_size_drew, World.heap_size_setCell]); omega)))) | (go_split_ands; refine HSK4.out _ ?_; (repeat' (first | with_reducible exact Below.refl _ _ | with_reducible assumption | with_reducible refine Below.drew ?_ | with_reducible refine Below.alloc ?_ ?_ _ | with_reducible refine Below.setCell ?_ ?_ _ | with_reducible refine Below.trans ?_ (Below.mono (by assumption) ?_) | ((try simp only [World.heap_size_alloc, World.heap_size_drew, World.heap_size_setCell]); omega)))))
    (first | (go_at_call 28; (with_reducible refine (toHead_any _ _ _ _ _ _ (l0.flatMap MarkD.ints) _ (h0.below (by (repeat' (first | with_reducible exact Below.refl _ _ | with_reducible assumption | with_reducible refine Below.drew ?_ | with_reducible refine Below.alloc ?_ ?_ _ | with_reducible refine Below.setCell ?_ ?_ _ | with_reducible refine Below.trans ?_ (Below.mono (by assumption) ?_) | ((try simp only [World.heap_size_alloc, World.heap_size_drew, World.heap_size_setCell]); omega))))) hn0).mono ?_); rintro _ w6 ⟨A6, q6, rfl, s6, b6⟩; have y6 := b6.size; (try simp only [World.heap_size_alloc, World.heap_size_drew] at y6); have c6 : Below w5.heap.size w5 w6 := (by (repeat' (first | with_reducible exact Below.refl _ _ | with_reducible assumption | with_reducible refine Below.drew ?_ | with_reducible refine Below.alloc ?_ ?_ _ | with_reducible refine Below.setCell ?_ ?_ _ | with_reducible refine Below.trans ?_ (Below.mono (by assumption) ?_) | ((try simp only [World.heap_size_alloc, World.heap_size_drew, World.heap_size_setCell]); omega)))); have cB6 : Below (w4.heap.size + 1) (w4.alloc (.cells #[.int .i64 i0_0, .int .i64 i0_1, .int .i64 i0_2, .slice A4 n0 q4] 49)) w6 := Below.trans (by (repeat' (first | with_reducible exact Below.refl _ _ | with_reducible assumption | with_reducible refine Below.drew ?_ | with_reducible refine Below.alloc ?_ ?_ _ | with_reducible refine Below.setCell ?_ ?_ _ | with_reducible refine Below.trans ?_ (Below.mono (by assumption) ?_) | ((try simp only [World.heap_size_alloc, World.heap_size_drew, World.heap_size_setCell]); omega)))) (b6.mono (by (try simp only [World.heap_size_alloc, World.heap_size_drew, World.heap_size_setCell]); omega)); obtain ⟨b6_c, b6_f⟩ := bcell b6; have z6_0 : w.heap.size < w6.heap.size := (by omega); have z6_1 : w4.heap.size < w6.heap.size := (by omega); have sx_6 := sx_5.below c6 (by omega); clear sx_5; have sy_6 := s6.mono (lo' := w5.heap.size) (by (try simp only [World.heap_size_alloc, World.heap_size_drew, World.heap_size_setCell]); omega) (Nat.le_refl _); clear s6) | (go_at_call 30; (with_reducible refine (eqHead_same _ _ _ _ _ _ _ _ _ _ _ _ _ _ (sx_6) (sy_6)).mono ?_); rintro _ w7 ⟨rfl, b7⟩; have y7 := b7.size; (try simp only [World.heap_size_alloc, World.heap_size_drew] at y7); have c7 : Below w6.heap.size w6 w7 := (by (repeat' (first | with_reducible exact Below.refl _ _ | with_reducible assumption | with_reducible refine Below.drew ?_ | with_reducible refine Below.alloc ?_ ?_ _ | with_reducible refine Below.setCell ?_ ?_ _ | with_reducible refine Below.trans ?_ (Below.mono (by assumption) ?_) | ((try simp only [World.heap_size_alloc, World.heap_size_drew, World.heap_size_setCell]); omega)))); have cB7 : Below (w4.heap.size + 1) (w4.alloc (.cells #[.int .i64 i0_0, .int .i64 i0_1, .int .i64 i0_2, .slice A4 n0 q4] 49)) w7 := Below.trans (by (repeat' (first | with_reducible exact Below.refl _ _ | with_reducible assumption | with_reducible refine Below.drew ?_ | with_reducible refine Below.alloc ?_ ?_ _ | with_reducible refine Below.setCell ?_ ?_ _ | with_reducible refine Below.trans ?_ (Below.mono (by assumption) ?_) | ((try simp only [World.heap_size_alloc, World.heap_size_drew, World.heap_size_setCell]); omega)))) (b7.mono (by (try simp only [World.heap_size_alloc, World.heap_size_drew, World.heap_size_setCell]); omega)); obtain ⟨b7_c, b7_f⟩ := bcell b7; have z7_0 : w.heap.size < w7.heap.size := (by omega); have z7_1 : w4.heap.size < w7.heap.size := (by omega); have sx_7 := sx_6.below c7 (by omega); clear sx_6; have sy_7 := sy_6.below c7 (by omega); clear sy_6))
  go_wp2_with fail
  go_ret
  refine ⟨rfl, ?_⟩
  clear b1_c b1_f b2_c b2_f b3_c b3_f b4_c b4_f b5_c b5_f b6_c b6_f b7_c b7_f
  (repeat' (first | with_reducible exact Below.refl _ _ | with_reducible assumption | with_reducible refine Below.drew ?_ | with_reducible refine Below.alloc ?_ ?_ _ | with_reducible refine Below.setCell ?_ ?_ _ | with_reducible refine Below.trans ?_ (Below.mono (by assumption) ?_) | ((try simp only [World.heap_size_alloc, World.heap_size_drew, World.heap_size_setCell]); omega)))
theorem own : ownKnob Try.prog.godebug = none := by kernel_rfl
theorem laidOut : laidOutB Try.prog = true := by kernel_rfl
set_option maxRecDepth 100000 in
theorem lifted (os : Os) (started : os.Started) (H : Type) (enc : TypeId × Value → H) :
    ReturnsInHanded {} Try.checked os 6 .any (Rows.fnExactHeadOkSpec.pre6 enc Try.prog Try.f6 Rows.fnExactHeadOkRow.domain false) (Rows.fnExactHeadOkSpec.post enc Try.prog Try.f6 false true false false) := by
  refine returnsInHanded_of_change (C := Try.checked) own started (by kernel_rfl) Try.func6
    (ChangeSpec.witness6 (enc := enc) (C := Try.checked) false ⟨#[], #[.agg #[.int .i64 0, .int .i64 0, .int .i64 0, .slice none 0 0]], []⟩ 8 (by kernel_rfl) (by kernel_rfl) (by kernel_rfl) (by kernel_rfl)) ?_
  intro W base args ds gs before hval0 hW hcnd _
  have hval : ∀ (j : Nat) t v, Try.f6.params[j]? = some t → args[j]? = some v → Value.okWide Try.prog W .any base t v := hval0
  have hW' := hW
  obtain ⟨p, q, hA0, hV, rfl, hfz, hnd⟩ := hW
  have hA : DataW.TrodAll enc Try.prog W 0 (fun _ => true) true Try.f6.params.toList args.toList ds p := hA0
  rw [Try.params6] at hA hval
  obtain ⟨v0, d0, rfl, rfl, h0⟩ := trodAll_one hA
  obtain ⟨rfl, rfl⟩ := trodVars_none hV
  obtain ⟨i0_0, i0_1, i0_2, A0, n0, c0, z0, rfl, hz0⟩ := open_Head (m := 3) Try.underlying44 (by kernel_rfl) (by kernel_rfl) Try.underlying2 Try.underlying2 Try.underlying2 Try.underlying42 (by kernel_rfl) (by kernel_rfl) (hval 0 44 v0 rfl rfl) h0
  obtain ⟨l0, rfl⟩ := unflat MarkD.mk_ints n0 z0 hz0.len
  clear hA0 hval0
  refine (law_any i0_0 i0_1 i0_2 A0 n0 c0 l0 W hz0).mono fun e W' ⟨he, hb⟩ => ?_
  subst he
  exact ⟨_, rfl, law_post laidOut (by kernel_rfl) rfl Try.underlying4 rfl hW' hb rfl rfl rfl⟩
theorem holds : Rows.FnExactHeadOkSaid :=
  OpenClaim.holds_of_wide 6 Try.f6 rfl rfl rfl rfl rfl rfl rfl ⟨rfl, rfl, rfl, rfl, rfl⟩ rfl rfl rfl rfl rfl (by kernel_rfl) Try.func6 (by kernel_rfl)
    (of_decide_eq_true (by kernel_rfl)) (by unfold Func.isWrapper; first | (rw [if_pos (by decide +kernel)]; kernel_rfl) | (rw [if_neg (by decide +kernel)]; exact ⟨rfl, rfl⟩))
    (fun os started H enc _ => lifted os started H enc)
#print axioms holds
end HeadOk
end Go.Proofs.Ytgnilmdaegnaaaa
