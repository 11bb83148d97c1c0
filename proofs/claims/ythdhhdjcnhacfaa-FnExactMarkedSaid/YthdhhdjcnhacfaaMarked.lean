/- The law FnExactMarked returns true for every input. No conditions. -/
import Derived.Test.YthdhhdjcnhacfaaSeen7
import Derived.Test.YthdhhdjcnhacfaaHelp1
import Derived.Deep.RegionHeld3
set_option linter.unusedSimpArgs false
set_option linter.unusedVariables false
namespace Go.Proofs.Ythdhhdjcnhacfaa
open Go.ChangeShapes Go.WideShapes Go.ChangeAt Go.RowKit
namespace Marked
set_option maxRecDepth 100000 in
set_option maxHeartbeats 8000000 in
theorem law_any (A0 : Option Addr) (n0 c0 : Nat) (l0 : List MarkD) (y1_0 y1_1 y1_2 y1_3 y1_4 y1_5 y1_6 y1_7 y1_8 : Int) (w : World) (h0 : ArgSl w 3 A0 n0 c0 (l0.flatMap MarkD.ints)) : Calls Try.prog 8 #[.slice A0 n0 c0, .agg #[.int .i64 y1_0, .int .i64 y1_1, .int .i64 y1_2, .int .i64 y1_3, .int .i64 y1_4, .int .i64 y1_5, .int .i64 y1_6, .int .i64 y1_7, .int .i64 y1_8]] w fun e w' => e = .returned (.bool true) ∧ Below w.heap.size w w' := by
  rcases Nat.lt_or_ge (1048576) n0 with hb0 | hn0
  · have hbb : n0 ≤ 9223372036854775807 := Nat.le_trans h0.cap h0.big
    clear h0
    go_enter Try.func8, Try.ntmps8
    go_wp2_with fail
    (with_reducible refine (szMarkS_big _ n0 _ _ _ (by omega) (by omega) hbb (by omega)).mono ?_); rintro _ _ ⟨rfl, rfl⟩
    go_wp2_with fail
    go_ret
    exact ⟨rfl, by (repeat' (first | with_reducible exact Below.refl _ _ | with_reducible assumption | with_reducible refine Below.drew ?_ | with_reducible refine Below.alloc ?_ ?_ _ | with_reducible refine Below.setCell ?_ ?_ _ | with_reducible refine Below.trans ?_ (Below.mono (by assumption) ?_) | ((try simp only [World.heap_size_alloc, World.heap_size_drew, World.heap_size_setCell]); omega)))⟩
  have CS := fun (A0 : Option Addr) (n0 c0 lo0 hi0 : Nat) W (s0 : Sl W lo0 hi0 3 A0 n0 c0 (l0.flatMap MarkD.ints)) => sMarked_any A0 n0 c0 lo0 hi0 l0 ⟨y1_0, y1_1, y1_2, y1_3, ⟨y1_4, y1_5, y1_6, y1_7, y1_8⟩⟩ W s0
  have CI := fun (A0 : Option Addr) (n0 c0 lo0 hi0 : Nat) W (s0 : Sl W lo0 hi0 3 A0 n0 c0 (l0.flatMap MarkD.ints)) => marked_any A0 n0 c0 lo0 hi0 l0 ⟨y1_0, y1_1, y1_2, y1_3, ⟨y1_4, y1_5, y1_6, y1_7, y1_8⟩⟩ W s0
  have hr : (marked l0 ⟨y1_0, y1_1, y1_2, y1_3, ⟨y1_4, y1_5, y1_6, y1_7, y1_8⟩⟩).1.length ≤ 1048576 := by rw [marked_over]; have := seenOver_len l0 [⟨y1_0, y1_1, y1_2, y1_3, ⟨y1_4, y1_5, y1_6, y1_7, y1_8⟩⟩]; omega
  generalize marked l0 ⟨y1_0, y1_1, y1_2, y1_3, ⟨y1_4, y1_5, y1_6, y1_7, y1_8⟩⟩ = r at CS CI hr
  obtain ⟨rl, rb⟩ := r
  simp only at CS CI hr
  generalize hrn : rl.length = rn at CS CI hr
  have hrb : (rb != rb) = false := by simp
  clear hrn
  have HS := Lib.hid CS
  have HI := Lib.hid CI
  clear CS CI
  go_enter Try.func8, Try.ntmps8
  have bx0 : (w.alloc (.cells #[.int .i64 y1_0, .int .i64 y1_1, .int .i64 y1_2, .int .i64 y1_3, .int .i64 y1_4, .int .i64 y1_5, .int .i64 y1_6, .int .i64 y1_7, .int .i64 y1_8] 41)).cell? ⟨w.heap.size, 0, none⟩ = some (.int .i64 y1_0) := by simp
  have bx1 : (w.alloc (.cells #[.int .i64 y1_0, .int .i64 y1_1, .int .i64 y1_2, .int .i64 y1_3, .int .i64 y1_4, .int .i64 y1_5, .int .i64 y1_6, .int .i64 y1_7, .int .i64 y1_8] 41)).cell? ⟨w.heap.size, 1, none⟩ = some (.int .i64 y1_1) := by simp
  have bx2 : (w.alloc (.cells #[.int .i64 y1_0, .int .i64 y1_1, .int .i64 y1_2, .int .i64 y1_3, .int .i64 y1_4, .int .i64 y1_5, .int .i64 y1_6, .int .i64 y1_7, .int .i64 y1_8] 41)).cell? ⟨w.heap.size, 2, none⟩ = some (.int .i64 y1_2) := by simp
  have bx3 : (w.alloc (.cells #[.int .i64 y1_0, .int .i64 y1_1, .int .i64 y1_2, .int .i64 y1_3, .int .i64 y1_4, .int .i64 y1_5, .int .i64 y1_6, .int .i64 y1_7, .int .i64 y1_8] 41)).cell? ⟨w.heap.size, 3, none⟩ = some (.int .i64 y1_3) := by simp
  have bx4 : (w.alloc (.cells #[.int .i64 y1_0, .int .i64 y1_1, .int .i64 y1_2, .int .i64 y1_3, .int .i64 y1_4, .int .i64 y1_5, .int .i64 y1_6, .int .i64 y1_7, .int .i64 y1_8] 41)).cell? ⟨w.heap.size, 4, none⟩ = some (.int .i64 y1_4) := by simp
  have bx5 : (w.alloc (.cells #[.int .i64 y1_0, .int .i64 y1_1, .int .i64 y1_2, .int .i64 y1_3, .int .i64 y1_4, .int .i64 y1_5, .int .i64 y1_6, .int .i64 y1_7, .int .i64 y1_8] 41)).cell? ⟨w.heap.size, 5, none⟩ = some (.int .i64 y1_5) := by simp
  have bx6 : (w.alloc (.cells #[.int .i64 y1_0, .int .i64 y1_1, .int .i64 y1_2, .int .i64 y1_3, .int .i64 y1_4, .int .i64 y1_5, .int .i64 y1_6, .int .i64 y1_7, .int .i64 y1_8] 41)).cell? ⟨w.heap.size, 6, none⟩ = some (.int .i64 y1_6) := by simp
  have bx7 : (w.alloc (.cells #[.int .i64 y1_0, .int .i64 y1_1, .int .i64 y1_2, .int .i64 y1_3, .int .i64 y1_4, .int .i64 y1_5, .int .i64 y1_6, .int .i64 y1_7, .int .i64 y1_8] 41)).cell? ⟨w.heap.size, 7, none⟩ = some (.int .i64 y1_7) := by simp
  have bx8 : (w.alloc (.cells #[.int .i64 y1_0, .int .i64 y1_1, .int .i64 y1_2, .int .i64 y1_3, .int .i64 y1_4, .int .i64 y1_5, .int .i64 y1_6, .int .i64 y1_7, .int .i64 y1_8] 41)).cell? ⟨w.heap.size, 8, none⟩ = some (.int .i64 y1_8) := by simp
  have SK : ∀ W, Below (w.heap.size + 1) (w.alloc (.cells #[.int .i64 y1_0, .int .i64 y1_1, .int .i64 y1_2, .int .i64 y1_3, .int .i64 y1_4, .int .i64 y1_5, .int .i64 y1_6, .int .i64 y1_7, .int .i64 y1_8] 41)) W → (W.cell? ⟨w.heap.size, 0, none⟩ = some (.int .i64 y1_0) ∧ W.cell? ⟨w.heap.size, 1, none⟩ = some (.int .i64 y1_1) ∧ W.cell? ⟨w.heap.size, 2, none⟩ = some (.int .i64 y1_2) ∧ W.cell? ⟨w.heap.size, 3, none⟩ = some (.int .i64 y1_3) ∧ W.cell? ⟨w.heap.size, 4, none⟩ = some (.int .i64 y1_4) ∧ W.cell? ⟨w.heap.size, 5, none⟩ = some (.int .i64 y1_5) ∧ W.cell? ⟨w.heap.size, 6, none⟩ = some (.int .i64 y1_6) ∧ W.cell? ⟨w.heap.size, 7, none⟩ = some (.int .i64 y1_7) ∧ W.cell? ⟨w.heap.size, 8, none⟩ = some (.int .i64 y1_8) ∧ Below (w.heap.size + 1) (w.alloc (.cells #[.int .i64 y1_0, .int .i64 y1_1, .int .i64 y1_2, .int .i64 y1_3, .int .i64 y1_4, .int .i64 y1_5, .int .i64 y1_6, .int .i64 y1_7, .int .i64 y1_8] 41)) W) := fun W hb => ⟨(hb.cell (p := ⟨w.heap.size, 0, none⟩) (show w.heap.size < w.heap.size + 1 by omega)).trans bx0, (hb.cell (p := ⟨w.heap.size, 1, none⟩) (show w.heap.size < w.heap.size + 1 by omega)).trans bx1, (hb.cell (p := ⟨w.heap.size, 2, none⟩) (show w.heap.size < w.heap.size + 1 by omega)).trans bx2, (hb.cell (p := ⟨w.heap.size, 3, none⟩) (show w.heap.size < w.heap.size + 1 by omega)).trans bx3, (hb.cell (p := ⟨w.heap.size, 4, none⟩) (show w.heap.size < w.heap.size + 1 by omega)).trans bx4, (hb.cell (p := ⟨w.heap.size, 5, none⟩) (show w.heap.size < w.heap.size + 1 by omega)).trans bx5, (hb.cell (p := ⟨w.heap.size, 6, none⟩) (show w.heap.size < w.heap.size + 1 by omega)).trans bx6, (hb.cell (p := ⟨w.heap.size, 7, none⟩) (show w.heap.size < w.heap.size + 1 by omega)).trans bx7, (hb.cell (p := ⟨w.heap.size, 8, none⟩) (show w.heap.size < w.heap.size + 1 by omega)).trans bx8, hb⟩
  have HSK := Lib.hid SK
  clear SK bx0 bx1 bx2 bx3 bx4 bx5 bx6 bx7 bx8
  go_wp2_with fail
  (with_reducible refine (szMarkS_ok _ n0 _ _ _ (by omega) (by omega)).mono ?_); rintro _ _ ⟨rfl, rfl⟩
  go_wp2_with fail
  go_region_held3 (fun w' => w'.cell? ⟨w.heap.size, 0, none⟩ = some (.int .i64 y1_0) ∧ w'.cell? ⟨w.heap.size, 1, none⟩ = some (.int .i64 y1_1) ∧ w'.cell? ⟨w.heap.size, 2, none⟩ = some (.int .i64 y1_2) ∧ w'.cell? ⟨w.heap.size, 3, none⟩ = some (.int .i64 y1_3) ∧ w'.cell? ⟨w.heap.size, 4, none⟩ = some (.int .i64 y1_4) ∧ w'.cell? ⟨w.heap.size, 5, none⟩ = some (.int .i64 y1_5) ∧ w'.cell? ⟨w.heap.size, 6, none⟩ = some (.int .i64 y1_6) ∧ w'.cell? ⟨w.heap.size, 7, none⟩ = some (.int .i64 y1_7) ∧ w'.cell? ⟨w.heap.size, 8, none⟩ = some (.int .i64 y1_8) ∧ Below (w.heap.size + 1) (w.alloc (.cells #[.int .i64 y1_0, .int .i64 y1_1, .int .i64 y1_2, .int .i64 y1_3, .int .i64 y1_4, .int .i64 y1_5, .int .i64 y1_6, .int .i64 y1_7, .int .i64 y1_8] 41)) w')
    (first | (refine HSK.out _ ?_; (repeat' (first | with_reducible exact Below.refl _ _ | with_reducible assumption | with_reducible refine Below.drew ?_ | with_reducible refine Below.alloc ?_ ?_ _ | with_reducible refine Below.setCell ?_ ?_ _ | with_reducible refine Below.trans ?_ (Below.mono (by assumption) ?_) | ((try simp only [World.heap_size_alloc, World.heap_size_drew, World.heap_size_setCell]); omega)))) | (go_split_ands; refine HSK.out _ ?_; (repeat' (first | with_reducible exact Below.refl _ _ | with_reducible assumption | with_reducible refine Below.drew ?_ | with_reducible refine Below.alloc ?_ ?_ _ | with_reducible refine Below.setCell ?_ ?_ _ | with_reducible refine Below.trans ?_ (Below.mono (by assumption) ?_) | ((try simp only [World.heap_size_alloc, World.heap_size_drew, World.heap_size_setCell]); omega)))))
    (first | (go_at_call 14; refine (toMarkS_any _ _ _ (l0.flatMap MarkD.ints) _ (h0.below (by (repeat' (first | with_reducible exact Below.refl _ _ | with_reducible assumption | with_reducible refine Below.drew ?_ | with_reducible refine Below.alloc ?_ ?_ _ | with_reducible refine Below.setCell ?_ ?_ _ | with_reducible refine Below.trans ?_ (Below.mono (by assumption) ?_) | ((try simp only [World.heap_size_alloc, World.heap_size_drew, World.heap_size_setCell]); omega))))) hn0).mono ?_; rintro _ w1 ⟨A1, q1, rfl, s1, b1⟩; have y1 := b1.size; (try simp only [World.heap_size_alloc, World.heap_size_drew] at y1); have c1 : Below w.heap.size w w1 := (by (repeat' (first | with_reducible exact Below.refl _ _ | with_reducible assumption | with_reducible refine Below.drew ?_ | with_reducible refine Below.alloc ?_ ?_ _ | with_reducible refine Below.setCell ?_ ?_ _ | with_reducible refine Below.trans ?_ (Below.mono (by assumption) ?_) | ((try simp only [World.heap_size_alloc, World.heap_size_drew, World.heap_size_setCell]); omega)))); have cB1 : Below (w.heap.size + 1) (w.alloc (.cells #[.int .i64 y1_0, .int .i64 y1_1, .int .i64 y1_2, .int .i64 y1_3, .int .i64 y1_4, .int .i64 y1_5, .int .i64 y1_6, .int .i64 y1_7, .int .i64 y1_8] 41)) w1 := Below.trans (by (repeat' (first | with_reducible exact Below.refl _ _ | with_reducible assumption | with_reducible refine Below.drew ?_ | with_reducible refine Below.alloc ?_ ?_ _ | with_reducible refine Below.setCell ?_ ?_ _ | with_reducible refine Below.trans ?_ (Below.mono (by assumption) ?_) | ((try simp only [World.heap_size_alloc, World.heap_size_drew, World.heap_size_setCell]); omega)))) (b1.mono (by (try simp only [World.heap_size_alloc, World.heap_size_drew, World.heap_size_setCell]); omega)); obtain ⟨b1_c, b1_f⟩ := bcell b1; have z1_0 : w.heap.size < w1.heap.size := (by omega); have sa0_1 := s1.mono (lo' := w.heap.size) (by (try simp only [World.heap_size_alloc, World.heap_size_drew, World.heap_size_setCell]); omega) (Nat.le_refl _); clear s1) | (go_at_call 27; refine (toEntry_any _ _ _ _ _ _ _ _ _ _).mono ?_; rintro _ w2 ⟨rfl, b2⟩; have y2 := b2.size; (try simp only [World.heap_size_alloc, World.heap_size_drew] at y2); have c2 : Below w1.heap.size w1 w2 := (by (repeat' (first | with_reducible exact Below.refl _ _ | with_reducible assumption | with_reducible refine Below.drew ?_ | with_reducible refine Below.alloc ?_ ?_ _ | with_reducible refine Below.setCell ?_ ?_ _ | with_reducible refine Below.trans ?_ (Below.mono (by assumption) ?_) | ((try simp only [World.heap_size_alloc, World.heap_size_drew, World.heap_size_setCell]); omega)))); have cB2 : Below (w.heap.size + 1) (w.alloc (.cells #[.int .i64 y1_0, .int .i64 y1_1, .int .i64 y1_2, .int .i64 y1_3, .int .i64 y1_4, .int .i64 y1_5, .int .i64 y1_6, .int .i64 y1_7, .int .i64 y1_8] 41)) w2 := Below.trans (by (repeat' (first | with_reducible exact Below.refl _ _ | with_reducible assumption | with_reducible refine Below.drew ?_ | with_reducible refine Below.alloc ?_ ?_ _ | with_reducible refine Below.setCell ?_ ?_ _ | with_reducible refine Below.trans ?_ (Below.mono (by assumption) ?_) | ((try simp only [World.heap_size_alloc, World.heap_size_drew, World.heap_size_setCell]); omega)))) (b2.mono (by (try simp only [World.heap_size_alloc, World.heap_size_drew, World.heap_size_setCell]); omega)); obtain ⟨b2_c, b2_f⟩ := bcell b2; have z2_0 : w.heap.size < w2.heap.size := (by omega); have sa0_2 := sa0_1.below c2 (by omega); clear sa0_1) | (go_at_call 26; refine (HS.out _ _ _ _ _ _ (sa0_2)).mono ?_; rintro _ w3 ⟨A3, q3, rfl, s3, b3⟩; have y3 := b3.size; (try simp only [World.heap_size_alloc, World.heap_size_drew] at y3); have c3 : Below w2.heap.size w2 w3 := (by (repeat' (first | with_reducible exact Below.refl _ _ | with_reducible assumption | with_reducible refine Below.drew ?_ | with_reducible refine Below.alloc ?_ ?_ _ | with_reducible refine Below.setCell ?_ ?_ _ | with_reducible refine Below.trans ?_ (Below.mono (by assumption) ?_) | ((try simp only [World.heap_size_alloc, World.heap_size_drew, World.heap_size_setCell]); omega)))); have cB3 : Below (w.heap.size + 1) (w.alloc (.cells #[.int .i64 y1_0, .int .i64 y1_1, .int .i64 y1_2, .int .i64 y1_3, .int .i64 y1_4, .int .i64 y1_5, .int .i64 y1_6, .int .i64 y1_7, .int .i64 y1_8] 41)) w3 := Below.trans (by (repeat' (first | with_reducible exact Below.refl _ _ | with_reducible assumption | with_reducible refine Below.drew ?_ | with_reducible refine Below.alloc ?_ ?_ _ | with_reducible refine Below.setCell ?_ ?_ _ | with_reducible refine Below.trans ?_ (Below.mono (by assumption) ?_) | ((try simp only [World.heap_size_alloc, World.heap_size_drew, World.heap_size_setCell]); omega)))) (b3.mono (by (try simp only [World.heap_size_alloc, World.heap_size_drew, World.heap_size_setCell]); omega)); obtain ⟨b3_c, b3_f⟩ := bcell b3; have z3_0 : w.heap.size < w3.heap.size := (by omega); have sa0_3 := sa0_2.below c3 (by omega); clear sa0_2; have sw_3 := s3.mono (lo' := w2.heap.size) (by (try simp only [World.heap_size_alloc, World.heap_size_drew, World.heap_size_setCell]); omega) (Nat.le_refl _); clear s3; clear sa0_3))
  go_wp2_with fail
  (with_reducible refine (toMarkS_any _ _ _ (l0.flatMap MarkD.ints) _ (h0.below (by (repeat' (first | with_reducible exact Below.refl _ _ | with_reducible assumption | with_reducible refine Below.drew ?_ | with_reducible refine Below.alloc ?_ ?_ _ | with_reducible refine Below.setCell ?_ ?_ _ | with_reducible refine Below.trans ?_ (Below.mono (by assumption) ?_) | ((try simp only [World.heap_size_alloc, World.heap_size_drew, World.heap_size_setCell]); omega))))) hn0).mono ?_); rintro _ w4 ⟨A4, q4, rfl, s4, b4⟩
  have y4 := b4.size
  (try simp only [World.heap_size_alloc, World.heap_size_drew] at y4)
  have c4 : Below w3.heap.size w3 w4 := by (repeat' (first | with_reducible exact Below.refl _ _ | with_reducible assumption | with_reducible refine Below.drew ?_ | with_reducible refine Below.alloc ?_ ?_ _ | with_reducible refine Below.setCell ?_ ?_ _ | with_reducible refine Below.trans ?_ (Below.mono (by assumption) ?_) | ((try simp only [World.heap_size_alloc, World.heap_size_drew, World.heap_size_setCell]); omega)))
  obtain ⟨b4_c, b4_f⟩ := bcell b4
  have z4_0 : w.heap.size < w4.heap.size := by omega
  have sw_4 := sw_3.below c4 (by omega)
  clear sw_3
  have sx0_4 := s4.mono (lo' := w3.heap.size) (by (try simp only [World.heap_size_alloc, World.heap_size_drew, World.heap_size_setCell]); omega) (Nat.le_refl _)
  clear s4
  have cB4 : Below (w.heap.size + 1) (w.alloc (.cells #[.int .i64 y1_0, .int .i64 y1_1, .int .i64 y1_2, .int .i64 y1_3, .int .i64 y1_4, .int .i64 y1_5, .int .i64 y1_6, .int .i64 y1_7, .int .i64 y1_8] 41)) w4 := Below.trans (by (repeat' (first | with_reducible exact Below.refl _ _ | with_reducible assumption | with_reducible refine Below.drew ?_ | with_reducible refine Below.alloc ?_ ?_ _ | with_reducible refine Below.setCell ?_ ?_ _ | with_reducible refine Below.trans ?_ (Below.mono (by assumption) ?_) | ((try simp only [World.heap_size_alloc, World.heap_size_drew, World.heap_size_setCell]); omega)))) (b4.mono (by (try simp only [World.heap_size_alloc, World.heap_size_drew, World.heap_size_setCell]); omega))
  go_wp2_with fail
  (with_reducible refine (toEntry_any _ _ _ _ _ _ _ _ _ _).mono ?_); rintro _ w5 ⟨rfl, b5⟩
  have y5 := b5.size
  (try simp only [World.heap_size_alloc, World.heap_size_drew] at y5)
  have c5 : Below w4.heap.size w4 w5 := by (repeat' (first | with_reducible exact Below.refl _ _ | with_reducible assumption | with_reducible refine Below.drew ?_ | with_reducible refine Below.alloc ?_ ?_ _ | with_reducible refine Below.setCell ?_ ?_ _ | with_reducible refine Below.trans ?_ (Below.mono (by assumption) ?_) | ((try simp only [World.heap_size_alloc, World.heap_size_drew, World.heap_size_setCell]); omega)))
  obtain ⟨b5_c, b5_f⟩ := bcell b5
  have z5_0 : w.heap.size < w5.heap.size := by omega
  have sw_5 := sw_4.below c5 (by omega)
  clear sw_4
  have sx0_5 := sx0_4.below c5 (by omega)
  clear sx0_4
  have cB5 : Below (w.heap.size + 1) (w.alloc (.cells #[.int .i64 y1_0, .int .i64 y1_1, .int .i64 y1_2, .int .i64 y1_3, .int .i64 y1_4, .int .i64 y1_5, .int .i64 y1_6, .int .i64 y1_7, .int .i64 y1_8] 41)) w5 := Below.trans (by (repeat' (first | with_reducible exact Below.refl _ _ | with_reducible assumption | with_reducible refine Below.drew ?_ | with_reducible refine Below.alloc ?_ ?_ _ | with_reducible refine Below.setCell ?_ ?_ _ | with_reducible refine Below.trans ?_ (Below.mono (by assumption) ?_) | ((try simp only [World.heap_size_alloc, World.heap_size_drew, World.heap_size_setCell]); omega)))) (b5.mono (by (try simp only [World.heap_size_alloc, World.heap_size_drew, World.heap_size_setCell]); omega))
  go_wp2_with fail
  (with_reducible refine (HI.out _ _ _ _ _ _ (sx0_5)).mono ?_); rintro _ w6 ⟨A6, q6, rfl, s6, b6⟩
  have y6 := b6.size
  (try simp only [World.heap_size_alloc, World.heap_size_drew] at y6)
  have c6 : Below w5.heap.size w5 w6 := by (repeat' (first | with_reducible exact Below.refl _ _ | with_reducible assumption | with_reducible refine Below.drew ?_ | with_reducible refine Below.alloc ?_ ?_ _ | with_reducible refine Below.setCell ?_ ?_ _ | with_reducible refine Below.trans ?_ (Below.mono (by assumption) ?_) | ((try simp only [World.heap_size_alloc, World.heap_size_drew, World.heap_size_setCell]); omega)))
  obtain ⟨b6_c, b6_f⟩ := bcell b6
  have z6_0 : w.heap.size < w6.heap.size := by omega
  have sw_6 := sw_5.below c6 (by omega)
  clear sw_5
  have sx0_6 := sx0_5.below c6 (by omega)
  clear sx0_5
  have sg_6 := s6.mono (lo' := w5.heap.size) (by (try simp only [World.heap_size_alloc, World.heap_size_drew, World.heap_size_setCell]); omega) (Nat.le_refl _)
  clear s6
  have cB6 : Below (w.heap.size + 1) (w.alloc (.cells #[.int .i64 y1_0, .int .i64 y1_1, .int .i64 y1_2, .int .i64 y1_3, .int .i64 y1_4, .int .i64 y1_5, .int .i64 y1_6, .int .i64 y1_7, .int .i64 y1_8] 41)) w6 := Below.trans (by (repeat' (first | with_reducible exact Below.refl _ _ | with_reducible assumption | with_reducible refine Below.drew ?_ | with_reducible refine Below.alloc ?_ ?_ _ | with_reducible refine Below.setCell ?_ ?_ _ | with_reducible refine Below.trans ?_ (Below.mono (by assumption) ?_) | ((try simp only [World.heap_size_alloc, World.heap_size_drew, World.heap_size_setCell]); omega)))) (b6.mono (by (try simp only [World.heap_size_alloc, World.heap_size_drew, World.heap_size_setCell]); omega))
  go_wp2_with fail
  (with_reducible refine (eqMarkS_same _ _ _ _ _ _ _ _ _ _ _ (sg_6) (sw_6)).mono ?_); rintro _ w7 ⟨rfl, b7⟩
  have y7 := b7.size
  (try simp only [World.heap_size_alloc, World.heap_size_drew] at y7)
  have c7 : Below w6.heap.size w6 w7 := by (repeat' (first | with_reducible exact Below.refl _ _ | with_reducible assumption | with_reducible refine Below.drew ?_ | with_reducible refine Below.alloc ?_ ?_ _ | with_reducible refine Below.setCell ?_ ?_ _ | with_reducible refine Below.trans ?_ (Below.mono (by assumption) ?_) | ((try simp only [World.heap_size_alloc, World.heap_size_drew, World.heap_size_setCell]); omega)))
  obtain ⟨b7_c, b7_f⟩ := bcell b7
  have z7_0 : w.heap.size < w7.heap.size := by omega
  have sw_7 := sw_6.below c7 (by omega)
  clear sw_6
  have sx0_7 := sx0_6.below c7 (by omega)
  clear sx0_6
  have sg_7 := sg_6.below c7 (by omega)
  clear sg_6
  have cB7 : Below (w.heap.size + 1) (w.alloc (.cells #[.int .i64 y1_0, .int .i64 y1_1, .int .i64 y1_2, .int .i64 y1_3, .int .i64 y1_4, .int .i64 y1_5, .int .i64 y1_6, .int .i64 y1_7, .int .i64 y1_8] 41)) w7 := Below.trans (by (repeat' (first | with_reducible exact Below.refl _ _ | with_reducible assumption | with_reducible refine Below.drew ?_ | with_reducible refine Below.alloc ?_ ?_ _ | with_reducible refine Below.setCell ?_ ?_ _ | with_reducible refine Below.trans ?_ (Below.mono (by assumption) ?_) | ((try simp only [World.heap_size_alloc, World.heap_size_drew, World.heap_size_setCell]); omega)))) (b7.mono (by (try simp only [World.heap_size_alloc, World.heap_size_drew, World.heap_size_setCell]); omega))
  go_wp2_with fail
  (with_reducible refine (toMarkS_any _ _ _ (l0.flatMap MarkD.ints) _ (h0.below (by (repeat' (first | with_reducible exact Below.refl _ _ | with_reducible assumption | with_reducible refine Below.drew ?_ | with_reducible refine Below.alloc ?_ ?_ _ | with_reducible refine Below.setCell ?_ ?_ _ | with_reducible refine Below.trans ?_ (Below.mono (by assumption) ?_) | ((try simp only [World.heap_size_alloc, World.heap_size_drew, World.heap_size_setCell]); omega))))) hn0).mono ?_); rintro _ w8 ⟨A8, q8, rfl, s8, b8⟩
  have y8 := b8.size
  (try simp only [World.heap_size_alloc, World.heap_size_drew] at y8)
  have c8 : Below w7.heap.size w7 w8 := by (repeat' (first | with_reducible exact Below.refl _ _ | with_reducible assumption | with_reducible refine Below.drew ?_ | with_reducible refine Below.alloc ?_ ?_ _ | with_reducible refine Below.setCell ?_ ?_ _ | with_reducible refine Below.trans ?_ (Below.mono (by assumption) ?_) | ((try simp only [World.heap_size_alloc, World.heap_size_drew, World.heap_size_setCell]); omega)))
  obtain ⟨b8_c, b8_f⟩ := bcell b8
  have z8_0 : w.heap.size < w8.heap.size := by omega
  have sw_8 := sw_7.below c8 (by omega)
  clear sw_7
  have sx0_8 := sx0_7.below c8 (by omega)
  clear sx0_7
  have sg_8 := sg_7.below c8 (by omega)
  clear sg_7
  have sy_8 := s8.mono (lo' := w7.heap.size) (by (try simp only [World.heap_size_alloc, World.heap_size_drew, World.heap_size_setCell]); omega) (Nat.le_refl _)
  clear s8
  have cB8 : Below (w.heap.size + 1) (w.alloc (.cells #[.int .i64 y1_0, .int .i64 y1_1, .int .i64 y1_2, .int .i64 y1_3, .int .i64 y1_4, .int .i64 y1_5, .int .i64 y1_6, .int .i64 y1_7, .int .i64 y1_8] 41)) w8 := Below.trans (by (repeat' (first | with_reducible exact Below.refl _ _ | with_reducible assumption | with_reducible refine Below.drew ?_ | with_reducible refine Below.alloc ?_ ?_ _ | with_reducible refine Below.setCell ?_ ?_ _ | with_reducible refine Below.trans ?_ (Below.mono (by assumption) ?_) | ((try simp only [World.heap_size_alloc, World.heap_size_drew, World.heap_size_setCell]); omega)))) (b8.mono (by (try simp only [World.heap_size_alloc, World.heap_size_drew, World.heap_size_setCell]); omega))
  go_wp2_with fail
  (with_reducible refine (eqMarkS_same _ _ _ _ _ _ _ _ _ _ _ (sx0_8) (sy_8)).mono ?_); rintro _ w9 ⟨rfl, b9⟩
  have y9 := b9.size
  (try simp only [World.heap_size_alloc, World.heap_size_drew] at y9)
  have c9 : Below w8.heap.size w8 w9 := by (repeat' (first | with_reducible exact Below.refl _ _ | with_reducible assumption | with_reducible refine Below.drew ?_ | with_reducible refine Below.alloc ?_ ?_ _ | with_reducible refine Below.setCell ?_ ?_ _ | with_reducible refine Below.trans ?_ (Below.mono (by assumption) ?_) | ((try simp only [World.heap_size_alloc, World.heap_size_drew, World.heap_size_setCell]); omega)))
  obtain ⟨b9_c, b9_f⟩ := bcell b9
  have z9_0 : w.heap.size < w9.heap.size := by omega
  have sw_9 := sw_8.below c9 (by omega)
  clear sw_8
  have sx0_9 := sx0_8.below c9 (by omega)
  clear sx0_8
  have sg_9 := sg_8.below c9 (by omega)
  clear sg_8
  have sy_9 := sy_8.below c9 (by omega)
  clear sy_8
  have cB9 : Below (w.heap.size + 1) (w.alloc (.cells #[.int .i64 y1_0, .int .i64 y1_1, .int .i64 y1_2, .int .i64 y1_3, .int .i64 y1_4, .int .i64 y1_5, .int .i64 y1_6, .int .i64 y1_7, .int .i64 y1_8] 41)) w9 := Below.trans (by (repeat' (first | with_reducible exact Below.refl _ _ | with_reducible assumption | with_reducible refine Below.drew ?_ | with_reducible refine Below.alloc ?_ ?_ _ | with_reducible refine Below.setCell ?_ ?_ _ | with_reducible refine Below.trans ?_ (Below.mono (by assumption) ?_) | ((try simp only [World.heap_size_alloc, World.heap_size_drew, World.heap_size_setCell]); omega)))) (b9.mono (by (try simp only [World.heap_size_alloc, World.heap_size_drew, World.heap_size_setCell]); omega))
  clear sy_9
  go_wp2_with fail
  (with_reducible refine (markMarkS_any _ _ _ _ _ _ _ _ sx0_9 hn0 (by omega) (by omega)).mono ?_); rintro _ w10 ⟨rfl, m10, u10⟩
  have b10 := u10.below (B := w3.heap.size) (by omega) (by first | omega | ((try simp only [World.heap_size_alloc, World.heap_size_drew, World.heap_size_setCell]); omega))
  have y10 := u10.size
  (try simp only [World.heap_size_alloc, World.heap_size_drew] at y10)
  have c10 : Below w3.heap.size w9 w10 := by (repeat' (first | with_reducible exact Below.refl _ _ | with_reducible assumption | with_reducible refine Below.drew ?_ | with_reducible refine Below.alloc ?_ ?_ _ | with_reducible refine Below.setCell ?_ ?_ _ | with_reducible refine Below.trans ?_ (Below.mono (by assumption) ?_) | ((try simp only [World.heap_size_alloc, World.heap_size_drew, World.heap_size_setCell]); omega)))
  obtain ⟨b10_c, b10_f⟩ := bcellB b10
  have z10_0 : w.heap.size < w10.heap.size := by omega
  have sw_10 := sw_9.upd u10 (by omega)
  clear sw_9
  clear sx0_9
  have sg_10 := sg_9.upd u10 (by omega)
  clear sg_9
  have sx0_10 := m10
  clear m10
  have cB10 : Below (w.heap.size + 1) (w.alloc (.cells #[.int .i64 y1_0, .int .i64 y1_1, .int .i64 y1_2, .int .i64 y1_3, .int .i64 y1_4, .int .i64 y1_5, .int .i64 y1_6, .int .i64 y1_7, .int .i64 y1_8] 41)) w10 := Below.trans (by (repeat' (first | with_reducible exact Below.refl _ _ | with_reducible assumption | with_reducible refine Below.drew ?_ | with_reducible refine Below.alloc ?_ ?_ _ | with_reducible refine Below.setCell ?_ ?_ _ | with_reducible refine Below.trans ?_ (Below.mono (by assumption) ?_) | ((try simp only [World.heap_size_alloc, World.heap_size_drew, World.heap_size_setCell]); omega)))) (b10.mono (by (try simp only [World.heap_size_alloc, World.heap_size_drew, World.heap_size_setCell]); omega))
  clear sx0_10
  go_wp2_with fail
  (with_reducible refine (eqMarkS_same _ _ _ _ _ _ _ _ _ _ _ (sg_10) (sw_10)).mono ?_); rintro _ w11 ⟨rfl, b11⟩
  have y11 := b11.size
  (try simp only [World.heap_size_alloc, World.heap_size_drew] at y11)
  have c11 : Below w10.heap.size w10 w11 := by (repeat' (first | with_reducible exact Below.refl _ _ | with_reducible assumption | with_reducible refine Below.drew ?_ | with_reducible refine Below.alloc ?_ ?_ _ | with_reducible refine Below.setCell ?_ ?_ _ | with_reducible refine Below.trans ?_ (Below.mono (by assumption) ?_) | ((try simp only [World.heap_size_alloc, World.heap_size_drew, World.heap_size_setCell]); omega)))
  obtain ⟨b11_c, b11_f⟩ := bcell b11
  have z11_0 : w.heap.size < w11.heap.size := by omega
  have sw_11 := sw_10.below c11 (by omega)
  clear sw_10
  have sg_11 := sg_10.below c11 (by omega)
  clear sg_10
  have cB11 : Below (w.heap.size + 1) (w.alloc (.cells #[.int .i64 y1_0, .int .i64 y1_1, .int .i64 y1_2, .int .i64 y1_3, .int .i64 y1_4, .int .i64 y1_5, .int .i64 y1_6, .int .i64 y1_7, .int .i64 y1_8] 41)) w11 := Below.trans (by (repeat' (first | with_reducible exact Below.refl _ _ | with_reducible assumption | with_reducible refine Below.drew ?_ | with_reducible refine Below.alloc ?_ ?_ _ | with_reducible refine Below.setCell ?_ ?_ _ | with_reducible refine Below.trans ?_ (Below.mono (by assumption) ?_) | ((try simp only [World.heap_size_alloc, World.heap_size_drew, World.heap_size_setCell]); omega)))) (b11.mono (by (try simp only [World.heap_size_alloc, World.heap_size_drew, World.heap_size_setCell]); omega))
  go_wp2_with fail
  (with_reducible refine (markMarkS_any _ _ _ _ _ _ 1 _ sg_11 hr (by omega) (by omega)).mono ?_); rintro _ w12 ⟨rfl, m12, u12⟩
  have b12 := u12.below (B := w5.heap.size) (by omega) (by first | omega | ((try simp only [World.heap_size_alloc, World.heap_size_drew, World.heap_size_setCell]); omega))
  have y12 := u12.size
  (try simp only [World.heap_size_alloc, World.heap_size_drew] at y12)
  have c12 : Below w5.heap.size w11 w12 := by (repeat' (first | with_reducible exact Below.refl _ _ | with_reducible assumption | with_reducible refine Below.drew ?_ | with_reducible refine Below.alloc ?_ ?_ _ | with_reducible refine Below.setCell ?_ ?_ _ | with_reducible refine Below.trans ?_ (Below.mono (by assumption) ?_) | ((try simp only [World.heap_size_alloc, World.heap_size_drew, World.heap_size_setCell]); omega)))
  obtain ⟨b12_c, b12_f⟩ := bcellB b12
  have z12_0 : w.heap.size < w12.heap.size := by omega
  have sw_12 := sw_11.upd u12 (by omega)
  clear sw_11
  clear sg_11
  have sg_12 := m12
  clear m12
  have cB12 : Below (w.heap.size + 1) (w.alloc (.cells #[.int .i64 y1_0, .int .i64 y1_1, .int .i64 y1_2, .int .i64 y1_3, .int .i64 y1_4, .int .i64 y1_5, .int .i64 y1_6, .int .i64 y1_7, .int .i64 y1_8] 41)) w12 := Below.trans (by (repeat' (first | with_reducible exact Below.refl _ _ | with_reducible assumption | with_reducible refine Below.drew ?_ | with_reducible refine Below.alloc ?_ ?_ _ | with_reducible refine Below.setCell ?_ ?_ _ | with_reducible refine Below.trans ?_ (Below.mono (by assumption) ?_) | ((try simp only [World.heap_size_alloc, World.heap_size_drew, World.heap_size_setCell]); omega)))) (b12.mono (by (try simp only [World.heap_size_alloc, World.heap_size_drew, World.heap_size_setCell]); omega))
  go_wp2_with fail
  (with_reducible refine (heldMarkS_ok _ _ _ _ _ 1 _ sg_12 hr (by omega) (by omega)).mono ?_); rintro _ _ ⟨rfl, rfl⟩
  go_wp2_with fail
  go_region_held3 (fun w' => w'.cell? ⟨w.heap.size, 0, none⟩ = some (.int .i64 y1_0) ∧ w'.cell? ⟨w.heap.size, 1, none⟩ = some (.int .i64 y1_1) ∧ w'.cell? ⟨w.heap.size, 2, none⟩ = some (.int .i64 y1_2) ∧ w'.cell? ⟨w.heap.size, 3, none⟩ = some (.int .i64 y1_3) ∧ w'.cell? ⟨w.heap.size, 4, none⟩ = some (.int .i64 y1_4) ∧ w'.cell? ⟨w.heap.size, 5, none⟩ = some (.int .i64 y1_5) ∧ w'.cell? ⟨w.heap.size, 6, none⟩ = some (.int .i64 y1_6) ∧ w'.cell? ⟨w.heap.size, 7, none⟩ = some (.int .i64 y1_7) ∧ w'.cell? ⟨w.heap.size, 8, none⟩ = some (.int .i64 y1_8) ∧ Below (w.heap.size + 1) (w.alloc (.cells #[.int .i64 y1_0, .int .i64 y1_1, .int .i64 y1_2, .int .i64 y1_3, .int .i64 y1_4, .int .i64 y1_5, .int .i64 y1_6, .int .i64 y1_7, .int .i64 y1_8] 41)) w')
    (first | (refine HSK.out _ ?_; (repeat' (first | with_reducible exact Below.refl _ _ | with_reducible assumption | with_reducible refine Below.drew ?_ | with_reducible refine Below.alloc ?_ ?_ _ | with_reducible refine Below.setCell ?_ ?_ _ | with_reducible refine Below.trans ?_ (Below.mono (by assumption) ?_) | ((try simp only [World.heap_size_alloc, World.heap_size_drew, World.heap_size_setCell]); omega)))) | (go_split_ands; refine HSK.out _ ?_; (repeat' (first | with_reducible exact Below.refl _ _ | with_reducible assumption | with_reducible refine Below.drew ?_ | with_reducible refine Below.alloc ?_ ?_ _ | with_reducible refine Below.setCell ?_ ?_ _ | with_reducible refine Below.trans ?_ (Below.mono (by assumption) ?_) | ((try simp only [World.heap_size_alloc, World.heap_size_drew, World.heap_size_setCell]); omega)))))
    (first | (go_at_call 14; refine (toMarkS_any _ _ _ (l0.flatMap MarkD.ints) _ (h0.below (by (repeat' (first | with_reducible exact Below.refl _ _ | with_reducible assumption | with_reducible refine Below.drew ?_ | with_reducible refine Below.alloc ?_ ?_ _ | with_reducible refine Below.setCell ?_ ?_ _ | with_reducible refine Below.trans ?_ (Below.mono (by assumption) ?_) | ((try simp only [World.heap_size_alloc, World.heap_size_drew, World.heap_size_setCell]); omega))))) hn0).mono ?_; rintro _ w13 ⟨A13, q13, rfl, s13, b13⟩; have y13 := b13.size; (try simp only [World.heap_size_alloc, World.heap_size_drew] at y13); have c13 : Below w12.heap.size w12 w13 := (by (repeat' (first | with_reducible exact Below.refl _ _ | with_reducible assumption | with_reducible refine Below.drew ?_ | with_reducible refine Below.alloc ?_ ?_ _ | with_reducible refine Below.setCell ?_ ?_ _ | with_reducible refine Below.trans ?_ (Below.mono (by assumption) ?_) | ((try simp only [World.heap_size_alloc, World.heap_size_drew, World.heap_size_setCell]); omega)))); have cB13 : Below (w.heap.size + 1) (w.alloc (.cells #[.int .i64 y1_0, .int .i64 y1_1, .int .i64 y1_2, .int .i64 y1_3, .int .i64 y1_4, .int .i64 y1_5, .int .i64 y1_6, .int .i64 y1_7, .int .i64 y1_8] 41)) w13 := Below.trans (by (repeat' (first | with_reducible exact Below.refl _ _ | with_reducible assumption | with_reducible refine Below.drew ?_ | with_reducible refine Below.alloc ?_ ?_ _ | with_reducible refine Below.setCell ?_ ?_ _ | with_reducible refine Below.trans ?_ (Below.mono (by assumption) ?_) | ((try simp only [World.heap_size_alloc, World.heap_size_drew, World.heap_size_setCell]); omega)))) (b13.mono (by (try simp only [World.heap_size_alloc, World.heap_size_drew, World.heap_size_setCell]); omega)); obtain ⟨b13_c, b13_f⟩ := bcell b13; have z13_0 : w.heap.size < w13.heap.size := (by omega); have sw_13 := sw_12.below c13 (by omega); clear sw_12; have sg_13 := sg_12.below c13 (by omega); clear sg_12; have sx0_13 := s13.mono (lo' := w12.heap.size) (by (try simp only [World.heap_size_alloc, World.heap_size_drew, World.heap_size_setCell]); omega) (Nat.le_refl _); clear s13) | (go_at_call 27; refine (toEntry_any _ _ _ _ _ _ _ _ _ _).mono ?_; rintro _ w14 ⟨rfl, b14⟩; have y14 := b14.size; (try simp only [World.heap_size_alloc, World.heap_size_drew] at y14); have c14 : Below w13.heap.size w13 w14 := (by (repeat' (first | with_reducible exact Below.refl _ _ | with_reducible assumption | with_reducible refine Below.drew ?_ | with_reducible refine Below.alloc ?_ ?_ _ | with_reducible refine Below.setCell ?_ ?_ _ | with_reducible refine Below.trans ?_ (Below.mono (by assumption) ?_) | ((try simp only [World.heap_size_alloc, World.heap_size_drew, World.heap_size_setCell]); omega)))); have cB14 : Below (w.heap.size + 1) (w.alloc (.cells #[.int .i64 y1_0, .int .i64 y1_1, .int .i64 y1_2, .int .i64 y1_3, .int .i64 y1_4, .int .i64 y1_5, .int .i64 y1_6, .int .i64 y1_7, .int .i64 y1_8] 41)) w14 := Below.trans (by (repeat' (first | with_reducible exact Below.refl _ _ | with_reducible assumption | with_reducible refine Below.drew ?_ | with_reducible refine Below.alloc ?_ ?_ _ | with_reducible refine Below.setCell ?_ ?_ _ | with_reducible refine Below.trans ?_ (Below.mono (by assumption) ?_) | ((try simp only [World.heap_size_alloc, World.heap_size_drew, World.heap_size_setCell]); omega)))) (b14.mono (by (try simp only [World.heap_size_alloc, World.heap_size_drew, World.heap_size_setCell]); omega)); obtain ⟨b14_c, b14_f⟩ := bcell b14; have z14_0 : w.heap.size < w14.heap.size := (by omega); have sw_14 := sw_13.below c14 (by omega); clear sw_13; have sg_14 := sg_13.below c14 (by omega); clear sg_13; have sx0_14 := sx0_13.below c14 (by omega); clear sx0_13) | (go_at_call 28; refine (HI.out _ _ _ _ _ _ (sx0_14)).mono ?_; rintro _ w15 ⟨A15, q15, rfl, s15, b15⟩; have y15 := b15.size; (try simp only [World.heap_size_alloc, World.heap_size_drew] at y15); have c15 : Below w14.heap.size w14 w15 := (by (repeat' (first | with_reducible exact Below.refl _ _ | with_reducible assumption | with_reducible refine Below.drew ?_ | with_reducible refine Below.alloc ?_ ?_ _ | with_reducible refine Below.setCell ?_ ?_ _ | with_reducible refine Below.trans ?_ (Below.mono (by assumption) ?_) | ((try simp only [World.heap_size_alloc, World.heap_size_drew, World.heap_size_setCell]); omega)))); have cB15 : Below (w.heap.size + 1) (w.alloc (.cells #[.int .i64 y1_0, .int .i64 y1_1, .int .i64 y1_2, .int .i64 y1_3, .int .i64 y1_4, .int .i64 y1_5, .int .i64 y1_6, .int .i64 y1_7, .int .i64 y1_8] 41)) w15 := Below.trans (by (repeat' (first | with_reducible exact Below.refl _ _ | with_reducible assumption | with_reducible refine Below.drew ?_ | with_reducible refine Below.alloc ?_ ?_ _ | with_reducible refine Below.setCell ?_ ?_ _ | with_reducible refine Below.trans ?_ (Below.mono (by assumption) ?_) | ((try simp only [World.heap_size_alloc, World.heap_size_drew, World.heap_size_setCell]); omega)))) (b15.mono (by (try simp only [World.heap_size_alloc, World.heap_size_drew, World.heap_size_setCell]); omega)); obtain ⟨b15_c, b15_f⟩ := bcell b15; have z15_0 : w.heap.size < w15.heap.size := (by omega); have sw_15 := sw_14.below c15 (by omega); clear sw_14; have sg_15 := sg_14.below c15 (by omega); clear sg_14; have sx0_15 := sx0_14.below c15 (by omega); clear sx0_14; have sh_15 := s15.mono (lo' := w14.heap.size) (by (try simp only [World.heap_size_alloc, World.heap_size_drew, World.heap_size_setCell]); omega) (Nat.le_refl _); clear s15; clear sx0_15))
  go_wp2_with fail
  (with_reducible refine (eqMarkS_same _ _ _ _ _ _ _ _ _ _ _ (sh_15) (sw_15)).mono ?_); rintro _ w16 ⟨rfl, b16⟩
  have y16 := b16.size
  (try simp only [World.heap_size_alloc, World.heap_size_drew] at y16)
  have c16 : Below w15.heap.size w15 w16 := by (repeat' (first | with_reducible exact Below.refl _ _ | with_reducible assumption | with_reducible refine Below.drew ?_ | with_reducible refine Below.alloc ?_ ?_ _ | with_reducible refine Below.setCell ?_ ?_ _ | with_reducible refine Below.trans ?_ (Below.mono (by assumption) ?_) | ((try simp only [World.heap_size_alloc, World.heap_size_drew, World.heap_size_setCell]); omega)))
  obtain ⟨b16_c, b16_f⟩ := bcell b16
  have z16_0 : w.heap.size < w16.heap.size := by omega
  have sw_16 := sw_15.below c16 (by omega)
  clear sw_15
  have sg_16 := sg_15.below c16 (by omega)
  clear sg_15
  have sh_16 := sh_15.below c16 (by omega)
  clear sh_15
  go_wp2_with fail
  (with_reducible refine (heldMarkS_ok _ _ _ _ _ 1 _ sg_16 hr (by omega) (by omega)).mono ?_); rintro _ _ ⟨rfl, rfl⟩
  go_wp2_with fail
  go_ret
  refine ⟨rfl, ?_⟩
  clear b1_c b1_f b2_c b2_f b3_c b3_f b4_c b4_f b5_c b5_f b6_c b6_f b7_c b7_f b8_c b8_f b9_c b9_f b10_c b10_f b11_c b11_f b12_c b12_f b13_c b13_f b14_c b14_f b15_c b15_f b16_c b16_f
  (repeat' (first | with_reducible exact Below.refl _ _ | with_reducible assumption | with_reducible refine Below.drew ?_ | with_reducible refine Below.alloc ?_ ?_ _ | with_reducible refine Below.setCell ?_ ?_ _ | with_reducible refine Below.trans ?_ (Below.mono (by assumption) ?_) | ((try simp only [World.heap_size_alloc, World.heap_size_drew, World.heap_size_setCell]); omega)))
theorem own : ownKnob Try.prog.godebug = none := by kernel_rfl
theorem laidOut : laidOutB Try.prog = true := by kernel_rfl
set_option maxRecDepth 100000 in
theorem lifted (os : Os) (started : os.Started) (H : Type) (enc : TypeId × Value → H) :
    ReturnsInHanded {} Try.checked os 8 .any (Rows.fnExactMarkedSpec.pre6 enc Try.prog Try.f8 Rows.fnExactMarkedRow.domain false) (Rows.fnExactMarkedSpec.post enc Try.prog Try.f8 false true false false) := by
  refine returnsInHanded_of_change (C := Try.checked) own started (by kernel_rfl) Try.func8
    (ChangeSpec.witness6 (enc := enc) (C := Try.checked) false ⟨#[], #[.slice none 0 0, .agg #[.int .i64 0, .int .i64 0, .int .i64 0, .int .i64 0, .int .i64 0, .int .i64 0, .int .i64 0, .int .i64 0, .int .i64 0]], []⟩ 8 (by kernel_rfl) (by kernel_rfl) (by kernel_rfl) (by kernel_rfl)) ?_
  intro W base args ds gs before hval0 hW hcnd _
  have hval : ∀ (j : Nat) t v, Try.f8.params[j]? = some t → args[j]? = some v → Value.okWide Try.prog W .any base t v := hval0
  have hW' := hW
  obtain ⟨p, q, hA0, hV, rfl, hfz, hnd⟩ := hW
  have hA : DataW.TrodAll enc Try.prog W 0 (fun _ => true) true Try.f8.params.toList args.toList ds p := hA0
  rw [Try.params8] at hA hval
  obtain ⟨v0, v1, d0, d1, p0, p1, rfl, rfl, rfl, h0, h1⟩ := trodAll_two hA
  obtain ⟨rfl, rfl⟩ := trodVars_none hV
  obtain ⟨A0, n0, c0, z0, rfl, hz0⟩ := open_slv (m := 3) (k := 3) Try.underlying22 (by kernel_rfl) (by kernel_rfl) (by omega) (hval 0 22 v0 rfl rfl) h0
  obtain ⟨l0, rfl⟩ := unflat MarkD.mk_ints n0 z0 hz0.len
  obtain ⟨z1, rfl, hz1⟩ := open_flat (n := 3) Try.underlying41 (by kernel_rfl) (hval 1 41 v1 rfl rfl) h1
  obtain ⟨y1_0, y1_1, y1_2, y1_3, y1_4, y1_5, y1_6, y1_7, y1_8, rfl⟩ := list9 (hz1.trans (by kernel_rfl : Try.prog.cellsOf 41 = 9))
  clear hA0 hval0
  refine (law_any A0 n0 c0 l0 y1_0 y1_1 y1_2 y1_3 y1_4 y1_5 y1_6 y1_7 y1_8 W hz0).mono fun e W' ⟨he, hb⟩ => ?_
  subst he
  exact ⟨_, rfl, law_post laidOut (by kernel_rfl) rfl Try.underlying4 rfl hW' hb rfl rfl rfl⟩
theorem holds : Rows.FnExactMarkedSaid :=
  OpenClaim.holds_of_wide 8 Try.f8 rfl rfl rfl rfl rfl rfl rfl ⟨rfl, rfl, rfl, rfl, rfl⟩ rfl rfl rfl rfl rfl (by kernel_rfl) Try.func8 (by kernel_rfl)
    (of_decide_eq_true (by kernel_rfl)) (by unfold Func.isWrapper; first | (rw [if_pos (by decide +kernel)]; kernel_rfl) | (rw [if_neg (by decide +kernel)]; exact ⟨rfl, rfl⟩))
    (fun os started H enc _ => lifted os started H enc)
#print axioms holds
end Marked
end Go.Proofs.Ythdhhdjcnhacfaa
