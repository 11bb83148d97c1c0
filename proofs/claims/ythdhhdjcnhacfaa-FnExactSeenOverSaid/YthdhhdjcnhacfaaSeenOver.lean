/- The law FnExactSeenOver returns true for every input. No conditions. -/
import Derived.Test.YthdhhdjcnhacfaaSeen7
import Derived.Test.YthdhhdjcnhacfaaHelp1
set_option linter.unusedSimpArgs false
set_option linter.unusedVariables false
namespace Go.Proofs.Ythdhhdjcnhacfaa
open Go.ChangeShapes Go.WideShapes Go.ChangeAt Go.RowKit
namespace SeenOver
set_option maxHeartbeats 8000000 in
theorem law_any (A0 : Option Addr) (n0 c0 : Nat) (l0 : List MarkD) (A1 : Option Addr) (n1 c1 : Nat) (l1 : List EntryD) (w : World) (h0 : ArgSl w 3 A0 n0 c0 (l0.flatMap MarkD.ints)) (h1 : ArgSl w 9 A1 n1 c1 (l1.flatMap EntryD.ints)) : Calls Try.prog 9 #[.slice A0 n0 c0, .slice A1 n1 c1] w fun e w' => e = .returned (.bool true) ∧ Below w.heap.size w w' := by
  rcases Nat.lt_or_ge (1048576) n0 with hb0 | hn0
  · have hbb : n0 ≤ 9223372036854775807 := Nat.le_trans h0.cap h0.big
    clear h0 h1
    go_enter Try.func9, Try.ntmps9
    go_wp2_with fail
    (with_reducible refine (szMarkS_big _ n0 _ _ _ (by omega) (by omega) hbb (by omega)).mono ?_); rintro _ _ ⟨rfl, rfl⟩
    go_wp2_with fail
    go_ret
    exact ⟨rfl, Below.refl _ _⟩
  rcases Nat.lt_or_ge (1048576 - n0) n1 with hb1 | hn1
  · have hbb : n1 ≤ 9223372036854775807 := Nat.le_trans h1.cap h1.big
    clear h0 h1
    go_enter Try.func9, Try.ntmps9
    go_wp2_with fail
    (with_reducible refine (szMarkS_ok _ n0 _ _ _ (by omega) (by omega)).mono ?_); rintro _ _ ⟨rfl, rfl⟩
    go_wp2_with fail
    (with_reducible refine (szEntryS_big _ n1 _ _ _ (by omega) (by omega) hbb (by omega)).mono ?_); rintro _ _ ⟨rfl, rfl⟩
    go_wp2_with fail
    go_ret
    exact ⟨rfl, Below.refl _ _⟩
  have hs1 := hn1
  replace hn1 : n1 ≤ 1048576 := by omega
  have CS := fun (A0 : Option Addr) (n0 c0 lo0 hi0 : Nat) (A1 : Option Addr) (n1 c1 lo1 hi1 : Nat) W (s0 : Sl W lo0 hi0 3 A0 n0 c0 (l0.flatMap MarkD.ints)) (s1 : Sl W lo1 hi1 9 A1 n1 c1 (l1.flatMap EntryD.ints)) => sSeenOver_any A0 n0 c0 lo0 hi0 l0 A1 n1 c1 lo1 hi1 l1 W s0 s1
  have CI := fun (A0 : Option Addr) (n0 c0 lo0 hi0 : Nat) (A1 : Option Addr) (n1 c1 lo1 hi1 : Nat) W (s0 : Sl W lo0 hi0 3 A0 n0 c0 (l0.flatMap MarkD.ints)) (s1 : Sl W lo1 hi1 9 A1 n1 c1 (l1.flatMap EntryD.ints)) => seenOver_any A0 n0 c0 lo0 hi0 l0 A1 n1 c1 lo1 hi1 l1 W s0 s1
  have hr : (seenOver l0 l1).1.length ≤ 1048576 := by have := seenOver_len l0 l1; omega
  generalize seenOver l0 l1 = r at CS CI hr
  obtain ⟨rl, rb⟩ := r
  simp only at CS CI hr
  generalize hrn : rl.length = rn at CS CI hr
  have hrb : (rb != rb) = false := by simp
  clear hrn
  have HS := Lib.hid CS
  have HI := Lib.hid CI
  clear CS CI
  go_enter Try.func9, Try.ntmps9
  go_wp2_with fail
  (with_reducible refine (szMarkS_ok _ n0 _ _ _ (by omega) (by omega)).mono ?_); rintro _ _ ⟨rfl, rfl⟩
  go_wp2_with fail
  (with_reducible refine (szEntryS_ok _ n1 _ _ _ (by omega) (by omega)).mono ?_); rintro _ _ ⟨rfl, rfl⟩
  go_wp2_with fail
  (with_reducible refine (toMarkS_any _ _ _ (l0.flatMap MarkD.ints) _ (h0.below (by (repeat' (first | with_reducible exact Below.refl _ _ | with_reducible assumption | with_reducible refine Below.drew ?_ | with_reducible refine Below.alloc ?_ ?_ _ | with_reducible refine Below.setCell ?_ ?_ _ | with_reducible refine Below.trans ?_ (Below.mono (by assumption) ?_) | ((try simp only [World.heap_size_alloc, World.heap_size_drew, World.heap_size_setCell]); omega))))) hn0).mono ?_); rintro _ w1 ⟨A1, q1, rfl, s1, b1⟩
  have y1 := b1.size
  (try simp only [World.heap_size_alloc, World.heap_size_drew] at y1)
  have c1 : Below w.heap.size w w1 := by (repeat' (first | with_reducible exact Below.refl _ _ | with_reducible assumption | with_reducible refine Below.drew ?_ | with_reducible refine Below.alloc ?_ ?_ _ | with_reducible refine Below.setCell ?_ ?_ _ | with_reducible refine Below.trans ?_ (Below.mono (by assumption) ?_) | ((try simp only [World.heap_size_alloc, World.heap_size_drew, World.heap_size_setCell]); omega)))
  obtain ⟨b1_c, b1_f⟩ := bcell b1
  have sa0_1 := s1.mono (lo' := w.heap.size) (by (try simp only [World.heap_size_alloc, World.heap_size_drew, World.heap_size_setCell]); omega) (Nat.le_refl _)
  clear s1
  go_wp2_with fail
  (with_reducible refine (toEntryS_any _ _ _ (l1.flatMap EntryD.ints) _ (h1.below (by (repeat' (first | with_reducible exact Below.refl _ _ | with_reducible assumption | with_reducible refine Below.drew ?_ | with_reducible refine Below.alloc ?_ ?_ _ | with_reducible refine Below.setCell ?_ ?_ _ | with_reducible refine Below.trans ?_ (Below.mono (by assumption) ?_) | ((try simp only [World.heap_size_alloc, World.heap_size_drew, World.heap_size_setCell]); omega))))) hn1).mono ?_); rintro _ w2 ⟨A2, q2, rfl, s2, b2⟩
  have y2 := b2.size
  (try simp only [World.heap_size_alloc, World.heap_size_drew] at y2)
  have c2 : Below w1.heap.size w1 w2 := by (repeat' (first | with_reducible exact Below.refl _ _ | with_reducible assumption | with_reducible refine Below.drew ?_ | with_reducible refine Below.alloc ?_ ?_ _ | with_reducible refine Below.setCell ?_ ?_ _ | with_reducible refine Below.trans ?_ (Below.mono (by assumption) ?_) | ((try simp only [World.heap_size_alloc, World.heap_size_drew, World.heap_size_setCell]); omega)))
  obtain ⟨b2_c, b2_f⟩ := bcell b2
  have sa0_2 := sa0_1.below c2 (by omega)
  clear sa0_1
  have sa1_2 := s2.mono (lo' := w1.heap.size) (by (try simp only [World.heap_size_alloc, World.heap_size_drew, World.heap_size_setCell]); omega) (Nat.le_refl _)
  clear s2
  go_wp2_with fail
  (with_reducible refine (HS.out _ _ _ _ _ _ _ _ _ _ _ (sa0_2) (sa1_2)).mono ?_); rintro _ w3 ⟨A3, q3, rfl, s3, b3⟩
  have y3 := b3.size
  (try simp only [World.heap_size_alloc, World.heap_size_drew] at y3)
  have c3 : Below w2.heap.size w2 w3 := by (repeat' (first | with_reducible exact Below.refl _ _ | with_reducible assumption | with_reducible refine Below.drew ?_ | with_reducible refine Below.alloc ?_ ?_ _ | with_reducible refine Below.setCell ?_ ?_ _ | with_reducible refine Below.trans ?_ (Below.mono (by assumption) ?_) | ((try simp only [World.heap_size_alloc, World.heap_size_drew, World.heap_size_setCell]); omega)))
  obtain ⟨b3_c, b3_f⟩ := bcell b3
  have sa0_3 := sa0_2.below c3 (by omega)
  clear sa0_2
  have sa1_3 := sa1_2.below c3 (by omega)
  clear sa1_2
  have sw_3 := s3.mono (lo' := w2.heap.size) (by (try simp only [World.heap_size_alloc, World.heap_size_drew, World.heap_size_setCell]); omega) (Nat.le_refl _)
  clear s3
  clear sa0_3
  clear sa1_3
  go_wp2_with fail
  (with_reducible refine (toMarkS_any _ _ _ (l0.flatMap MarkD.ints) _ (h0.below (by (repeat' (first | with_reducible exact Below.refl _ _ | with_reducible assumption | with_reducible refine Below.drew ?_ | with_reducible refine Below.alloc ?_ ?_ _ | with_reducible refine Below.setCell ?_ ?_ _ | with_reducible refine Below.trans ?_ (Below.mono (by assumption) ?_) | ((try simp only [World.heap_size_alloc, World.heap_size_drew, World.heap_size_setCell]); omega))))) hn0).mono ?_); rintro _ w4 ⟨A4, q4, rfl, s4, b4⟩
  have y4 := b4.size
  (try simp only [World.heap_size_alloc, World.heap_size_drew] at y4)
  have c4 : Below w3.heap.size w3 w4 := by (repeat' (first | with_reducible exact Below.refl _ _ | with_reducible assumption | with_reducible refine Below.drew ?_ | with_reducible refine Below.alloc ?_ ?_ _ | with_reducible refine Below.setCell ?_ ?_ _ | with_reducible refine Below.trans ?_ (Below.mono (by assumption) ?_) | ((try simp only [World.heap_size_alloc, World.heap_size_drew, World.heap_size_setCell]); omega)))
  obtain ⟨b4_c, b4_f⟩ := bcell b4
  have sw_4 := sw_3.below c4 (by omega)
  clear sw_3
  have sx0_4 := s4.mono (lo' := w3.heap.size) (by (try simp only [World.heap_size_alloc, World.heap_size_drew, World.heap_size_setCell]); omega) (Nat.le_refl _)
  clear s4
  go_wp2_with fail
  (with_reducible refine (toEntryS_any _ _ _ (l1.flatMap EntryD.ints) _ (h1.below (by (repeat' (first | with_reducible exact Below.refl _ _ | with_reducible assumption | with_reducible refine Below.drew ?_ | with_reducible refine Below.alloc ?_ ?_ _ | with_reducible refine Below.setCell ?_ ?_ _ | with_reducible refine Below.trans ?_ (Below.mono (by assumption) ?_) | ((try simp only [World.heap_size_alloc, World.heap_size_drew, World.heap_size_setCell]); omega))))) hn1).mono ?_); rintro _ w5 ⟨A5, q5, rfl, s5, b5⟩
  have y5 := b5.size
  (try simp only [World.heap_size_alloc, World.heap_size_drew] at y5)
  have c5 : Below w4.heap.size w4 w5 := by (repeat' (first | with_reducible exact Below.refl _ _ | with_reducible assumption | with_reducible refine Below.drew ?_ | with_reducible refine Below.alloc ?_ ?_ _ | with_reducible refine Below.setCell ?_ ?_ _ | with_reducible refine Below.trans ?_ (Below.mono (by assumption) ?_) | ((try simp only [World.heap_size_alloc, World.heap_size_drew, World.heap_size_setCell]); omega)))
  obtain ⟨b5_c, b5_f⟩ := bcell b5
  have sw_5 := sw_4.below c5 (by omega)
  clear sw_4
  have sx0_5 := sx0_4.below c5 (by omega)
  clear sx0_4
  have sx1_5 := s5.mono (lo' := w4.heap.size) (by (try simp only [World.heap_size_alloc, World.heap_size_drew, World.heap_size_setCell]); omega) (Nat.le_refl _)
  clear s5
  go_wp2_with fail
  (with_reducible refine (HI.out _ _ _ _ _ _ _ _ _ _ _ (sx0_5) (sx1_5)).mono ?_); rintro _ w6 ⟨A6, q6, rfl, s6, b6⟩
  have y6 := b6.size
  (try simp only [World.heap_size_alloc, World.heap_size_drew] at y6)
  have c6 : Below w5.heap.size w5 w6 := by (repeat' (first | with_reducible exact Below.refl _ _ | with_reducible assumption | with_reducible refine Below.drew ?_ | with_reducible refine Below.alloc ?_ ?_ _ | with_reducible refine Below.setCell ?_ ?_ _ | with_reducible refine Below.trans ?_ (Below.mono (by assumption) ?_) | ((try simp only [World.heap_size_alloc, World.heap_size_drew, World.heap_size_setCell]); omega)))
  obtain ⟨b6_c, b6_f⟩ := bcell b6
  have sw_6 := sw_5.below c6 (by omega)
  clear sw_5
  have sx0_6 := sx0_5.below c6 (by omega)
  clear sx0_5
  have sx1_6 := sx1_5.below c6 (by omega)
  clear sx1_5
  have sg_6 := s6.mono (lo' := w5.heap.size) (by (try simp only [World.heap_size_alloc, World.heap_size_drew, World.heap_size_setCell]); omega) (Nat.le_refl _)
  clear s6
  go_wp2_with fail
  (with_reducible refine (eqMarkS_same _ _ _ _ _ _ _ _ _ _ _ (sg_6) (sw_6)).mono ?_); rintro _ w7 ⟨rfl, b7⟩
  have y7 := b7.size
  (try simp only [World.heap_size_alloc, World.heap_size_drew] at y7)
  have c7 : Below w6.heap.size w6 w7 := by (repeat' (first | with_reducible exact Below.refl _ _ | with_reducible assumption | with_reducible refine Below.drew ?_ | with_reducible refine Below.alloc ?_ ?_ _ | with_reducible refine Below.setCell ?_ ?_ _ | with_reducible refine Below.trans ?_ (Below.mono (by assumption) ?_) | ((try simp only [World.heap_size_alloc, World.heap_size_drew, World.heap_size_setCell]); omega)))
  obtain ⟨b7_c, b7_f⟩ := bcell b7
  have sw_7 := sw_6.below c7 (by omega)
  clear sw_6
  have sx0_7 := sx0_6.below c7 (by omega)
  clear sx0_6
  have sx1_7 := sx1_6.below c7 (by omega)
  clear sx1_6
  have sg_7 := sg_6.below c7 (by omega)
  clear sg_6
  go_wp2_with fail
  (with_reducible refine (toMarkS_any _ _ _ (l0.flatMap MarkD.ints) _ (h0.below (by (repeat' (first | with_reducible exact Below.refl _ _ | with_reducible assumption | with_reducible refine Below.drew ?_ | with_reducible refine Below.alloc ?_ ?_ _ | with_reducible refine Below.setCell ?_ ?_ _ | with_reducible refine Below.trans ?_ (Below.mono (by assumption) ?_) | ((try simp only [World.heap_size_alloc, World.heap_size_drew, World.heap_size_setCell]); omega))))) hn0).mono ?_); rintro _ w8 ⟨A8, q8, rfl, s8, b8⟩
  have y8 := b8.size
  (try simp only [World.heap_size_alloc, World.heap_size_drew] at y8)
  have c8 : Below w7.heap.size w7 w8 := by (repeat' (first | with_reducible exact Below.refl _ _ | with_reducible assumption | with_reducible refine Below.drew ?_ | with_reducible refine Below.alloc ?_ ?_ _ | with_reducible refine Below.setCell ?_ ?_ _ | with_reducible refine Below.trans ?_ (Below.mono (by assumption) ?_) | ((try simp only [World.heap_size_alloc, World.heap_size_drew, World.heap_size_setCell]); omega)))
  obtain ⟨b8_c, b8_f⟩ := bcell b8
  have sw_8 := sw_7.below c8 (by omega)
  clear sw_7
  have sx0_8 := sx0_7.below c8 (by omega)
  clear sx0_7
  have sx1_8 := sx1_7.below c8 (by omega)
  clear sx1_7
  have sg_8 := sg_7.below c8 (by omega)
  clear sg_7
  have sy_8 := s8.mono (lo' := w7.heap.size) (by (try simp only [World.heap_size_alloc, World.heap_size_drew, World.heap_size_setCell]); omega) (Nat.le_refl _)
  clear s8
  go_wp2_with fail
  (with_reducible refine (eqMarkS_same _ _ _ _ _ _ _ _ _ _ _ (sx0_8) (sy_8)).mono ?_); rintro _ w9 ⟨rfl, b9⟩
  have y9 := b9.size
  (try simp only [World.heap_size_alloc, World.heap_size_drew] at y9)
  have c9 : Below w8.heap.size w8 w9 := by (repeat' (first | with_reducible exact Below.refl _ _ | with_reducible assumption | with_reducible refine Below.drew ?_ | with_reducible refine Below.alloc ?_ ?_ _ | with_reducible refine Below.setCell ?_ ?_ _ | with_reducible refine Below.trans ?_ (Below.mono (by assumption) ?_) | ((try simp only [World.heap_size_alloc, World.heap_size_drew, World.heap_size_setCell]); omega)))
  obtain ⟨b9_c, b9_f⟩ := bcell b9
  have sw_9 := sw_8.below c9 (by omega)
  clear sw_8
  have sx0_9 := sx0_8.below c9 (by omega)
  clear sx0_8
  have sx1_9 := sx1_8.below c9 (by omega)
  clear sx1_8
  have sg_9 := sg_8.below c9 (by omega)
  clear sg_8
  have sy_9 := sy_8.below c9 (by omega)
  clear sy_8
  clear sy_9
  go_wp2_with fail
  (with_reducible refine (toEntryS_any _ _ _ (l1.flatMap EntryD.ints) _ (h1.below (by (repeat' (first | with_reducible exact Below.refl _ _ | with_reducible assumption | with_reducible refine Below.drew ?_ | with_reducible refine Below.alloc ?_ ?_ _ | with_reducible refine Below.setCell ?_ ?_ _ | with_reducible refine Below.trans ?_ (Below.mono (by assumption) ?_) | ((try simp only [World.heap_size_alloc, World.heap_size_drew, World.heap_size_setCell]); omega))))) hn1).mono ?_); rintro _ w10 ⟨A10, q10, rfl, s10, b10⟩
  have y10 := b10.size
  (try simp only [World.heap_size_alloc, World.heap_size_drew] at y10)
  have c10 : Below w9.heap.size w9 w10 := by (repeat' (first | with_reducible exact Below.refl _ _ | with_reducible assumption | with_reducible refine Below.drew ?_ | with_reducible refine Below.alloc ?_ ?_ _ | with_reducible refine Below.setCell ?_ ?_ _ | with_reducible refine Below.trans ?_ (Below.mono (by assumption) ?_) | ((try simp only [World.heap_size_alloc, World.heap_size_drew, World.heap_size_setCell]); omega)))
  obtain ⟨b10_c, b10_f⟩ := bcell b10
  have sw_10 := sw_9.below c10 (by omega)
  clear sw_9
  have sx0_10 := sx0_9.below c10 (by omega)
  clear sx0_9
  have sx1_10 := sx1_9.below c10 (by omega)
  clear sx1_9
  have sg_10 := sg_9.below c10 (by omega)
  clear sg_9
  have sy_10 := s10.mono (lo' := w9.heap.size) (by (try simp only [World.heap_size_alloc, World.heap_size_drew, World.heap_size_setCell]); omega) (Nat.le_refl _)
  clear s10
  go_wp2_with fail
  (with_reducible refine (eqEntryS_same _ _ _ _ _ _ _ _ _ _ _ (sx1_10) (sy_10)).mono ?_); rintro _ w11 ⟨rfl, b11⟩
  have y11 := b11.size
  (try simp only [World.heap_size_alloc, World.heap_size_drew] at y11)
  have c11 : Below w10.heap.size w10 w11 := by (repeat' (first | with_reducible exact Below.refl _ _ | with_reducible assumption | with_reducible refine Below.drew ?_ | with_reducible refine Below.alloc ?_ ?_ _ | with_reducible refine Below.setCell ?_ ?_ _ | with_reducible refine Below.trans ?_ (Below.mono (by assumption) ?_) | ((try simp only [World.heap_size_alloc, World.heap_size_drew, World.heap_size_setCell]); omega)))
  obtain ⟨b11_c, b11_f⟩ := bcell b11
  have sw_11 := sw_10.below c11 (by omega)
  clear sw_10
  have sx0_11 := sx0_10.below c11 (by omega)
  clear sx0_10
  have sx1_11 := sx1_10.below c11 (by omega)
  clear sx1_10
  have sg_11 := sg_10.below c11 (by omega)
  clear sg_10
  have sy_11 := sy_10.below c11 (by omega)
  clear sy_10
  clear sy_11
  go_wp2_with fail
  (with_reducible refine (markMarkS_any _ _ _ _ _ _ _ _ sx0_11 hn0 (by omega) (by omega)).mono ?_); rintro _ w12 ⟨rfl, m12, u12⟩
  have b12 := u12.below (B := w3.heap.size) (by omega) (by first | omega | ((try simp only [World.heap_size_alloc, World.heap_size_drew, World.heap_size_setCell]); omega))
  have y12 := u12.size
  (try simp only [World.heap_size_alloc, World.heap_size_drew] at y12)
  have c12 : Below w3.heap.size w11 w12 := by (repeat' (first | with_reducible exact Below.refl _ _ | with_reducible assumption | with_reducible refine Below.drew ?_ | with_reducible refine Below.alloc ?_ ?_ _ | with_reducible refine Below.setCell ?_ ?_ _ | with_reducible refine Below.trans ?_ (Below.mono (by assumption) ?_) | ((try simp only [World.heap_size_alloc, World.heap_size_drew, World.heap_size_setCell]); omega)))
  obtain ⟨b12_c, b12_f⟩ := bcellB b12
  have sw_12 := sw_11.upd u12 (by omega)
  clear sw_11
  clear sx0_11
  have sx1_12 := sx1_11.upd u12 (by omega)
  clear sx1_11
  have sg_12 := sg_11.upd u12 (by omega)
  clear sg_11
  have sx0_12 := m12
  clear m12
  clear sx0_12
  go_wp2_with fail
  (with_reducible refine (markEntryS_any _ _ _ _ _ _ _ _ sx1_12 hn1 (by omega) (by omega)).mono ?_); rintro _ w13 ⟨rfl, m13, u13⟩
  have b13 := u13.below (B := w4.heap.size) (by omega) (by first | omega | ((try simp only [World.heap_size_alloc, World.heap_size_drew, World.heap_size_setCell]); omega))
  have y13 := u13.size
  (try simp only [World.heap_size_alloc, World.heap_size_drew] at y13)
  have c13 : Below w4.heap.size w12 w13 := by (repeat' (first | with_reducible exact Below.refl _ _ | with_reducible assumption | with_reducible refine Below.drew ?_ | with_reducible refine Below.alloc ?_ ?_ _ | with_reducible refine Below.setCell ?_ ?_ _ | with_reducible refine Below.trans ?_ (Below.mono (by assumption) ?_) | ((try simp only [World.heap_size_alloc, World.heap_size_drew, World.heap_size_setCell]); omega)))
  obtain ⟨b13_c, b13_f⟩ := bcellB b13
  have sw_13 := sw_12.upd u13 (by omega)
  clear sw_12
  clear sx1_12
  have sg_13 := sg_12.upd u13 (by omega)
  clear sg_12
  have sx1_13 := m13
  clear m13
  clear sx1_13
  go_wp2_with fail
  (with_reducible refine (eqMarkS_same _ _ _ _ _ _ _ _ _ _ _ (sg_13) (sw_13)).mono ?_); rintro _ w14 ⟨rfl, b14⟩
  have y14 := b14.size
  (try simp only [World.heap_size_alloc, World.heap_size_drew] at y14)
  have c14 : Below w13.heap.size w13 w14 := by (repeat' (first | with_reducible exact Below.refl _ _ | with_reducible assumption | with_reducible refine Below.drew ?_ | with_reducible refine Below.alloc ?_ ?_ _ | with_reducible refine Below.setCell ?_ ?_ _ | with_reducible refine Below.trans ?_ (Below.mono (by assumption) ?_) | ((try simp only [World.heap_size_alloc, World.heap_size_drew, World.heap_size_setCell]); omega)))
  obtain ⟨b14_c, b14_f⟩ := bcell b14
  have sw_14 := sw_13.below c14 (by omega)
  clear sw_13
  have sg_14 := sg_13.below c14 (by omega)
  clear sg_13
  go_wp2_with fail
  (with_reducible refine (markMarkS_any _ _ _ _ _ _ 1 _ sg_14 hr (by omega) (by omega)).mono ?_); rintro _ w15 ⟨rfl, m15, u15⟩
  have b15 := u15.below (B := w5.heap.size) (by omega) (by first | omega | ((try simp only [World.heap_size_alloc, World.heap_size_drew, World.heap_size_setCell]); omega))
  have y15 := u15.size
  (try simp only [World.heap_size_alloc, World.heap_size_drew] at y15)
  have c15 : Below w5.heap.size w14 w15 := by (repeat' (first | with_reducible exact Below.refl _ _ | with_reducible assumption | with_reducible refine Below.drew ?_ | with_reducible refine Below.alloc ?_ ?_ _ | with_reducible refine Below.setCell ?_ ?_ _ | with_reducible refine Below.trans ?_ (Below.mono (by assumption) ?_) | ((try simp only [World.heap_size_alloc, World.heap_size_drew, World.heap_size_setCell]); omega)))
  obtain ⟨b15_c, b15_f⟩ := bcellB b15
  have sw_15 := sw_14.upd u15 (by omega)
  clear sw_14
  clear sg_14
  have sg_15 := m15
  clear m15
  go_wp2_with fail
  (with_reducible refine (heldMarkS_ok _ _ _ _ _ 1 _ sg_15 hr (by omega) (by omega)).mono ?_); rintro _ _ ⟨rfl, rfl⟩
  go_wp2_with fail
  (with_reducible refine (toMarkS_any _ _ _ (l0.flatMap MarkD.ints) _ (h0.below (by (repeat' (first | with_reducible exact Below.refl _ _ | with_reducible assumption | with_reducible refine Below.drew ?_ | with_reducible refine Below.alloc ?_ ?_ _ | with_reducible refine Below.setCell ?_ ?_ _ | with_reducible refine Below.trans ?_ (Below.mono (by assumption) ?_) | ((try simp only [World.heap_size_alloc, World.heap_size_drew, World.heap_size_setCell]); omega))))) hn0).mono ?_); rintro _ w16 ⟨A16, q16, rfl, s16, b16⟩
  have y16 := b16.size
  (try simp only [World.heap_size_alloc, World.heap_size_drew] at y16)
  have c16 : Below w15.heap.size w15 w16 := by (repeat' (first | with_reducible exact Below.refl _ _ | with_reducible assumption | with_reducible refine Below.drew ?_ | with_reducible refine Below.alloc ?_ ?_ _ | with_reducible refine Below.setCell ?_ ?_ _ | with_reducible refine Below.trans ?_ (Below.mono (by assumption) ?_) | ((try simp only [World.heap_size_alloc, World.heap_size_drew, World.heap_size_setCell]); omega)))
  obtain ⟨b16_c, b16_f⟩ := bcell b16
  have sw_16 := sw_15.below c16 (by omega)
  clear sw_15
  have sg_16 := sg_15.below c16 (by omega)
  clear sg_15
  have sx0_16 := s16.mono (lo' := w15.heap.size) (by (try simp only [World.heap_size_alloc, World.heap_size_drew, World.heap_size_setCell]); omega) (Nat.le_refl _)
  clear s16
  go_wp2_with fail
  (with_reducible refine (toEntryS_any _ _ _ (l1.flatMap EntryD.ints) _ (h1.below (by (repeat' (first | with_reducible exact Below.refl _ _ | with_reducible assumption | with_reducible refine Below.drew ?_ | with_reducible refine Below.alloc ?_ ?_ _ | with_reducible refine Below.setCell ?_ ?_ _ | with_reducible refine Below.trans ?_ (Below.mono (by assumption) ?_) | ((try simp only [World.heap_size_alloc, World.heap_size_drew, World.heap_size_setCell]); omega))))) hn1).mono ?_); rintro _ w17 ⟨A17, q17, rfl, s17, b17⟩
  have y17 := b17.size
  (try simp only [World.heap_size_alloc, World.heap_size_drew] at y17)
  have c17 : Below w16.heap.size w16 w17 := by (repeat' (first | with_reducible exact Below.refl _ _ | with_reducible assumption | with_reducible refine Below.drew ?_ | with_reducible refine Below.alloc ?_ ?_ _ | with_reducible refine Below.setCell ?_ ?_ _ | with_reducible refine Below.trans ?_ (Below.mono (by assumption) ?_) | ((try simp only [World.heap_size_alloc, World.heap_size_drew, World.heap_size_setCell]); omega)))
  obtain ⟨b17_c, b17_f⟩ := bcell b17
  have sw_17 := sw_16.below c17 (by omega)
  clear sw_16
  have sg_17 := sg_16.below c17 (by omega)
  clear sg_16
  have sx0_17 := sx0_16.below c17 (by omega)
  clear sx0_16
  have sx1_17 := s17.mono (lo' := w16.heap.size) (by (try simp only [World.heap_size_alloc, World.heap_size_drew, World.heap_size_setCell]); omega) (Nat.le_refl _)
  clear s17
  go_wp2_with fail
  (with_reducible refine (HI.out _ _ _ _ _ _ _ _ _ _ _ (sx0_17) (sx1_17)).mono ?_); rintro _ w18 ⟨A18, q18, rfl, s18, b18⟩
  have y18 := b18.size
  (try simp only [World.heap_size_alloc, World.heap_size_drew] at y18)
  have c18 : Below w17.heap.size w17 w18 := by (repeat' (first | with_reducible exact Below.refl _ _ | with_reducible assumption | with_reducible refine Below.drew ?_ | with_reducible refine Below.alloc ?_ ?_ _ | with_reducible refine Below.setCell ?_ ?_ _ | with_reducible refine Below.trans ?_ (Below.mono (by assumption) ?_) | ((try simp only [World.heap_size_alloc, World.heap_size_drew, World.heap_size_setCell]); omega)))
  obtain ⟨b18_c, b18_f⟩ := bcell b18
  have sw_18 := sw_17.below c18 (by omega)
  clear sw_17
  have sg_18 := sg_17.below c18 (by omega)
  clear sg_17
  have sx0_18 := sx0_17.below c18 (by omega)
  clear sx0_17
  have sx1_18 := sx1_17.below c18 (by omega)
  clear sx1_17
  have sh_18 := s18.mono (lo' := w17.heap.size) (by (try simp only [World.heap_size_alloc, World.heap_size_drew, World.heap_size_setCell]); omega) (Nat.le_refl _)
  clear s18
  go_wp2_with fail
  (with_reducible refine (eqMarkS_same _ _ _ _ _ _ _ _ _ _ _ (sh_18) (sw_18)).mono ?_); rintro _ w19 ⟨rfl, b19⟩
  have y19 := b19.size
  (try simp only [World.heap_size_alloc, World.heap_size_drew] at y19)
  have c19 : Below w18.heap.size w18 w19 := by (repeat' (first | with_reducible exact Below.refl _ _ | with_reducible assumption | with_reducible refine Below.drew ?_ | with_reducible refine Below.alloc ?_ ?_ _ | with_reducible refine Below.setCell ?_ ?_ _ | with_reducible refine Below.trans ?_ (Below.mono (by assumption) ?_) | ((try simp only [World.heap_size_alloc, World.heap_size_drew, World.heap_size_setCell]); omega)))
  obtain ⟨b19_c, b19_f⟩ := bcell b19
  have sw_19 := sw_18.below c19 (by omega)
  clear sw_18
  have sg_19 := sg_18.below c19 (by omega)
  clear sg_18
  have sx0_19 := sx0_18.below c19 (by omega)
  clear sx0_18
  have sx1_19 := sx1_18.below c19 (by omega)
  clear sx1_18
  have sh_19 := sh_18.below c19 (by omega)
  clear sh_18
  go_wp2_with fail
  (with_reducible refine (heldMarkS_ok _ _ _ _ _ 1 _ sg_19 hr (by omega) (by omega)).mono ?_); rintro _ _ ⟨rfl, rfl⟩
  go_wp2_with fail
  go_ret
  refine ⟨rfl, ?_⟩
  clear b1_c b1_f b2_c b2_f b3_c b3_f b4_c b4_f b5_c b5_f b6_c b6_f b7_c b7_f b8_c b8_f b9_c b9_f b10_c b10_f b11_c b11_f b12_c b12_f b13_c b13_f b14_c b14_f b15_c b15_f b16_c b16_f b17_c b17_f b18_c b18_f b19_c b19_f
  (repeat' (first | with_reducible exact Below.refl _ _ | with_reducible assumption | with_reducible refine Below.drew ?_ | with_reducible refine Below.alloc ?_ ?_ _ | with_reducible refine Below.setCell ?_ ?_ _ | with_reducible refine Below.trans ?_ (Below.mono (by assumption) ?_) | ((try simp only [World.heap_size_alloc, World.heap_size_drew, World.heap_size_setCell]); omega)))
theorem own : ownKnob Try.prog.godebug = none := by kernel_rfl
theorem laidOut : laidOutB Try.prog = true := by kernel_rfl
set_option maxRecDepth 100000 in
theorem lifted (os : Os) (started : os.Started) (H : Type) (enc : TypeId × Value → H) :
    ReturnsInHanded {} Try.checked os 9 .any (Rows.fnExactSeenOverSpec.pre6 enc Try.prog Try.f9 Rows.fnExactSeenOverRow.domain false) (Rows.fnExactSeenOverSpec.post enc Try.prog Try.f9 false true false false) := by
  refine returnsInHanded_of_change (C := Try.checked) own started (by kernel_rfl) Try.func9
    (ChangeSpec.witness6 (enc := enc) (C := Try.checked) false ⟨#[], #[.slice none 0 0, .slice none 0 0], []⟩ 8 (by kernel_rfl) (by kernel_rfl) (by kernel_rfl) (by kernel_rfl)) ?_
  intro W base args ds gs before hval0 hW hcnd _
  have hval : ∀ (j : Nat) t v, Try.f9.params[j]? = some t → args[j]? = some v → Value.okWide Try.prog W .any base t v := hval0
  have hW' := hW
  obtain ⟨p, q, hA0, hV, rfl, hfz, hnd⟩ := hW
  have hA : DataW.TrodAll enc Try.prog W 0 (fun _ => true) true Try.f9.params.toList args.toList ds p := hA0
  rw [Try.params9] at hA hval
  obtain ⟨v0, v1, d0, d1, p0, p1, rfl, rfl, rfl, h0, h1⟩ := trodAll_two hA
  obtain ⟨rfl, rfl⟩ := trodVars_none hV
  obtain ⟨A0, n0, c0, z0, rfl, hz0⟩ := open_slv (m := 3) (k := 3) Try.underlying22 (by kernel_rfl) (by kernel_rfl) (by omega) (hval 0 22 v0 rfl rfl) h0
  obtain ⟨l0, rfl⟩ := unflat MarkD.mk_ints n0 z0 hz0.len
  obtain ⟨A1, n1, c1, z1, rfl, hz1⟩ := open_slv (m := 3) (k := 9) Try.underlying50 (by kernel_rfl) (by kernel_rfl) (by omega) (hval 1 50 v1 rfl rfl) h1
  obtain ⟨l1, rfl⟩ := unflat EntryD.mk_ints n1 z1 hz1.len
  clear hA0 hval0
  refine (law_any A0 n0 c0 l0 A1 n1 c1 l1 W hz0 hz1).mono fun e W' ⟨he, hb⟩ => ?_
  subst he
  exact ⟨_, rfl, law_post laidOut (by kernel_rfl) rfl Try.underlying4 rfl hW' hb rfl rfl rfl⟩
theorem holds : Rows.FnExactSeenOverSaid :=
  OpenClaim.holds_of_wide 9 Try.f9 rfl rfl rfl rfl rfl rfl rfl ⟨rfl, rfl, rfl, rfl, rfl⟩ rfl rfl rfl rfl rfl (by kernel_rfl) Try.func9 (by kernel_rfl)
    (of_decide_eq_true (by kernel_rfl)) (by unfold Func.isWrapper; first | (rw [if_pos (by decide +kernel)]; kernel_rfl) | (rw [if_neg (by decide +kernel)]; exact ⟨rfl, rfl⟩))
    (fun os started H enc _ => lifted os started H enc)
#print axioms holds
end SeenOver
end Go.Proofs.Ythdhhdjcnhacfaa
