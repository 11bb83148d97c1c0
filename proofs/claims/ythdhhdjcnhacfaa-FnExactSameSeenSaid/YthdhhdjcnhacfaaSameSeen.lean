/- The law FnExactSameSeen returns true for every input. No conditions. -/
import Derived.Test.YthdhhdjcnhacfaaSeen2
import Derived.Test.YthdhhdjcnhacfaaHelp1
set_option linter.unusedSimpArgs false
set_option linter.unusedVariables false
namespace Go.Proofs.Ythdhhdjcnhacfaa
open Go.ChangeShapes Go.WideShapes Go.ChangeAt Go.RowKit
namespace SameSeen
set_option maxHeartbeats 8000000 in
theorem law_any (A0 : Option Addr) (n0 c0 : Nat) (l0 : List MarkD) (A1 : Option Addr) (n1 c1 : Nat) (l1 : List MarkD) (w : World) (h0 : ArgSl w 3 A0 n0 c0 (l0.flatMap MarkD.ints)) (h1 : ArgSl w 3 A1 n1 c1 (l1.flatMap MarkD.ints)) : Calls Try.prog 3 #[.slice A0 n0 c0, .slice A1 n1 c1] w fun e w' => e = .returned (.bool true) ∧ Below w.heap.size w w' := by
  rcases Nat.lt_or_ge (1048576) n0 with hb0 | hn0
  · have hbb : n0 ≤ 9223372036854775807 := Nat.le_trans h0.cap h0.big
    clear h0 h1
    go_enter Try.func3, Try.ntmps3
    go_wp2_with fail
    (with_reducible refine (szMarkS_big _ n0 _ _ _ (by omega) (by omega) hbb (by omega)).mono ?_); rintro _ _ ⟨rfl, rfl⟩
    go_wp2_with fail
    go_ret
    exact ⟨rfl, Below.refl _ _⟩
  rcases Nat.lt_or_ge (1048576 - n0) n1 with hb1 | hn1
  · have hbb : n1 ≤ 9223372036854775807 := Nat.le_trans h1.cap h1.big
    clear h0 h1
    go_enter Try.func3, Try.ntmps3
    go_wp2_with fail
    (with_reducible refine (szMarkS_ok _ n0 _ _ _ (by omega) (by omega)).mono ?_); rintro _ _ ⟨rfl, rfl⟩
    go_wp2_with fail
    (with_reducible refine (szMarkS_big _ n1 _ _ _ (by omega) (by omega) hbb (by omega)).mono ?_); rintro _ _ ⟨rfl, rfl⟩
    go_wp2_with fail
    go_ret
    exact ⟨rfl, Below.refl _ _⟩
  have hs1 := hn1
  replace hn1 : n1 ≤ 1048576 := by omega
  have CS := fun (A0 : Option Addr) (n0 c0 lo0 hi0 : Nat) (A1 : Option Addr) (n1 c1 lo1 hi1 : Nat) W (s0 : Sl W lo0 hi0 3 A0 n0 c0 (l0.flatMap MarkD.ints)) (s1 : Sl W lo1 hi1 3 A1 n1 c1 (l1.flatMap MarkD.ints)) => sSameSeen_any A0 A1 n0 c0 n1 c1 lo0 hi0 lo1 hi1 l0 l1 W s0 s1
  have CI := fun (A0 : Option Addr) (n0 c0 lo0 hi0 : Nat) (A1 : Option Addr) (n1 c1 lo1 hi1 : Nat) W (s0 : Sl W lo0 hi0 3 A0 n0 c0 (l0.flatMap MarkD.ints)) (s1 : Sl W lo1 hi1 3 A1 n1 c1 (l1.flatMap MarkD.ints)) => sameSeen_any A0 A1 n0 c0 n1 c1 lo0 hi0 lo1 hi1 l0 l1 W s0 s1
  generalize sameSeen l0 l1 = r at CS CI
  have HS := Lib.hid CS
  have HI := Lib.hid CI
  clear CS CI
  go_enter Try.func3, Try.ntmps3
  go_wp2_with fail
  (with_reducible refine (szMarkS_ok _ n0 _ _ _ (by omega) (by omega)).mono ?_); rintro _ _ ⟨rfl, rfl⟩
  go_wp2_with fail
  (with_reducible refine (szMarkS_ok _ n1 _ _ _ (by omega) (by omega)).mono ?_); rintro _ _ ⟨rfl, rfl⟩
  go_wp2_with fail
  (with_reducible refine (toMarkS_any _ _ _ (l0.flatMap MarkD.ints) _ (h0.below (by (repeat' (first | with_reducible exact Below.refl _ _ | with_reducible assumption | with_reducible refine Below.drew ?_ | with_reducible refine Below.alloc ?_ ?_ _ | with_reducible refine Below.setCell ?_ ?_ _ | with_reducible refine Below.trans ?_ (Below.mono (by assumption) ?_) | ((try simp only [World.heap_size_alloc, World.heap_size_drew, World.heap_size_setCell]); omega))))) hn0).mono ?_); rintro _ w1 ⟨A1, q1, rfl, s1, b1⟩
  have y1 := b1.size
  (try simp only [World.heap_size_alloc, World.heap_size_drew] at y1)
  have c1 : Below w.heap.size w w1 := by (repeat' (first | with_reducible exact Below.refl _ _ | with_reducible assumption | with_reducible refine Below.drew ?_ | with_reducible refine Below.alloc ?_ ?_ _ | with_reducible refine Below.setCell ?_ ?_ _ | with_reducible refine Below.trans ?_ (Below.mono (by assumption) ?_) | ((try simp only [World.heap_size_alloc, World.heap_size_drew, World.heap_size_setCell]); omega)))
  obtain ⟨b1_c, b1_f⟩ := bcell b1
  have sa0_1 := s1.mono (lo' := w.heap.size) (by (try simp only [World.heap_size_alloc, World.heap_size_drew, World.heap_size_setCell]); omega) (Nat.le_refl _)
  clear s1
  go_wp2_with fail
  (with_reducible refine (toMarkS_any _ _ _ (l1.flatMap MarkD.ints) _ (h1.below (by (repeat' (first | with_reducible exact Below.refl _ _ | with_reducible assumption | with_reducible refine Below.drew ?_ | with_reducible refine Below.alloc ?_ ?_ _ | with_reducible refine Below.setCell ?_ ?_ _ | with_reducible refine Below.trans ?_ (Below.mono (by assumption) ?_) | ((try simp only [World.heap_size_alloc, World.heap_size_drew, World.heap_size_setCell]); omega))))) hn1).mono ?_); rintro _ w2 ⟨A2, q2, rfl, s2, b2⟩
  have y2 := b2.size
  (try simp only [World.heap_size_alloc, World.heap_size_drew] at y2)
  have c2 : Below w1.heap.size w1 w2 := by (repeat' (first | with_reducible exact Below.refl _ _ | with_reducible assumption | with_reducible refine Below.drew ?_ | with_reducible refine Below.alloc ?_ ?_ _ | with_reducible refine Below.setCell ?_ ?_ _ | with_reducible refine Below.trans ?_ (Below.mono (by assumption) ?_) | ((try simp only [World.heap_size_alloc, World.heap_size_drew, World.heap_size_setCell]); omega)))
  obtain ⟨b2_c, b2_f⟩ := bcell b2
  have sa0_2 := sa0_1.below c2 (by omega)
  clear sa0_1
  have sa1_2 := s2.mono (lo' := w1.heap.size) (by (try simp only [World.heap_size_alloc, World.heap_size_drew, World.heap_size_setCell]); omega) (Nat.le_refl _)
  clear s2
  go_wp2_with fail
  (with_reducible refine (HS.out _ _ _ _ _ _ _ _ _ _ _ (sa0_2) (sa1_2)).mono ?_); rintro _ w3 ⟨rfl, b3⟩
  have y3 := b3.size
  (try simp only [World.heap_size_alloc, World.heap_size_drew] at y3)
  have c3 : Below w2.heap.size w2 w3 := by (repeat' (first | with_reducible exact Below.refl _ _ | with_reducible assumption | with_reducible refine Below.drew ?_ | with_reducible refine Below.alloc ?_ ?_ _ | with_reducible refine Below.setCell ?_ ?_ _ | with_reducible refine Below.trans ?_ (Below.mono (by assumption) ?_) | ((try simp only [World.heap_size_alloc, World.heap_size_drew, World.heap_size_setCell]); omega)))
  obtain ⟨b3_c, b3_f⟩ := bcell b3
  have sa0_3 := sa0_2.below c3 (by omega)
  clear sa0_2
  have sa1_3 := sa1_2.below c3 (by omega)
  clear sa1_2
  go_wp2_with fail
  (with_reducible refine (toMarkS_any _ _ _ (l0.flatMap MarkD.ints) _ (h0.below (by (repeat' (first | with_reducible exact Below.refl _ _ | with_reducible assumption | with_reducible refine Below.drew ?_ | with_reducible refine Below.alloc ?_ ?_ _ | with_reducible refine Below.setCell ?_ ?_ _ | with_reducible refine Below.trans ?_ (Below.mono (by assumption) ?_) | ((try simp only [World.heap_size_alloc, World.heap_size_drew, World.heap_size_setCell]); omega))))) hn0).mono ?_); rintro _ w4 ⟨A4, q4, rfl, s4, b4⟩
  have y4 := b4.size
  (try simp only [World.heap_size_alloc, World.heap_size_drew] at y4)
  have c4 : Below w3.heap.size w3 w4 := by (repeat' (first | with_reducible exact Below.refl _ _ | with_reducible assumption | with_reducible refine Below.drew ?_ | with_reducible refine Below.alloc ?_ ?_ _ | with_reducible refine Below.setCell ?_ ?_ _ | with_reducible refine Below.trans ?_ (Below.mono (by assumption) ?_) | ((try simp only [World.heap_size_alloc, World.heap_size_drew, World.heap_size_setCell]); omega)))
  obtain ⟨b4_c, b4_f⟩ := bcell b4
  have sa0_4 := sa0_3.below c4 (by omega)
  clear sa0_3
  have sa1_4 := sa1_3.below c4 (by omega)
  clear sa1_3
  have sx0_4 := s4.mono (lo' := w3.heap.size) (by (try simp only [World.heap_size_alloc, World.heap_size_drew, World.heap_size_setCell]); omega) (Nat.le_refl _)
  clear s4
  go_wp2_with fail
  (with_reducible refine (toMarkS_any _ _ _ (l1.flatMap MarkD.ints) _ (h1.below (by (repeat' (first | with_reducible exact Below.refl _ _ | with_reducible assumption | with_reducible refine Below.drew ?_ | with_reducible refine Below.alloc ?_ ?_ _ | with_reducible refine Below.setCell ?_ ?_ _ | with_reducible refine Below.trans ?_ (Below.mono (by assumption) ?_) | ((try simp only [World.heap_size_alloc, World.heap_size_drew, World.heap_size_setCell]); omega))))) hn1).mono ?_); rintro _ w5 ⟨A5, q5, rfl, s5, b5⟩
  have y5 := b5.size
  (try simp only [World.heap_size_alloc, World.heap_size_drew] at y5)
  have c5 : Below w4.heap.size w4 w5 := by (repeat' (first | with_reducible exact Below.refl _ _ | with_reducible assumption | with_reducible refine Below.drew ?_ | with_reducible refine Below.alloc ?_ ?_ _ | with_reducible refine Below.setCell ?_ ?_ _ | with_reducible refine Below.trans ?_ (Below.mono (by assumption) ?_) | ((try simp only [World.heap_size_alloc, World.heap_size_drew, World.heap_size_setCell]); omega)))
  obtain ⟨b5_c, b5_f⟩ := bcell b5
  have sa0_5 := sa0_4.below c5 (by omega)
  clear sa0_4
  have sa1_5 := sa1_4.below c5 (by omega)
  clear sa1_4
  have sx0_5 := sx0_4.below c5 (by omega)
  clear sx0_4
  have sx1_5 := s5.mono (lo' := w4.heap.size) (by (try simp only [World.heap_size_alloc, World.heap_size_drew, World.heap_size_setCell]); omega) (Nat.le_refl _)
  clear s5
  go_wp2_with fail
  (with_reducible refine (HI.out _ _ _ _ _ _ _ _ _ _ _ (sx0_5) (sx1_5)).mono ?_); rintro _ w6 ⟨rfl, b6⟩
  have y6 := b6.size
  (try simp only [World.heap_size_alloc, World.heap_size_drew] at y6)
  have c6 : Below w5.heap.size w5 w6 := by (repeat' (first | with_reducible exact Below.refl _ _ | with_reducible assumption | with_reducible refine Below.drew ?_ | with_reducible refine Below.alloc ?_ ?_ _ | with_reducible refine Below.setCell ?_ ?_ _ | with_reducible refine Below.trans ?_ (Below.mono (by assumption) ?_) | ((try simp only [World.heap_size_alloc, World.heap_size_drew, World.heap_size_setCell]); omega)))
  obtain ⟨b6_c, b6_f⟩ := bcell b6
  have sa0_6 := sa0_5.below c6 (by omega)
  clear sa0_5
  have sa1_6 := sa1_5.below c6 (by omega)
  clear sa1_5
  have sx0_6 := sx0_5.below c6 (by omega)
  clear sx0_5
  have sx1_6 := sx1_5.below c6 (by omega)
  clear sx1_5
  go_wp2_with fail
  (with_reducible refine (toMarkS_any _ _ _ (l0.flatMap MarkD.ints) _ (h0.below (by (repeat' (first | with_reducible exact Below.refl _ _ | with_reducible assumption | with_reducible refine Below.drew ?_ | with_reducible refine Below.alloc ?_ ?_ _ | with_reducible refine Below.setCell ?_ ?_ _ | with_reducible refine Below.trans ?_ (Below.mono (by assumption) ?_) | ((try simp only [World.heap_size_alloc, World.heap_size_drew, World.heap_size_setCell]); omega))))) hn0).mono ?_); rintro _ w7 ⟨A7, q7, rfl, s7, b7⟩
  have y7 := b7.size
  (try simp only [World.heap_size_alloc, World.heap_size_drew] at y7)
  have c7 : Below w6.heap.size w6 w7 := by (repeat' (first | with_reducible exact Below.refl _ _ | with_reducible assumption | with_reducible refine Below.drew ?_ | with_reducible refine Below.alloc ?_ ?_ _ | with_reducible refine Below.setCell ?_ ?_ _ | with_reducible refine Below.trans ?_ (Below.mono (by assumption) ?_) | ((try simp only [World.heap_size_alloc, World.heap_size_drew, World.heap_size_setCell]); omega)))
  obtain ⟨b7_c, b7_f⟩ := bcell b7
  have sa0_7 := sa0_6.below c7 (by omega)
  clear sa0_6
  have sa1_7 := sa1_6.below c7 (by omega)
  clear sa1_6
  have sx0_7 := sx0_6.below c7 (by omega)
  clear sx0_6
  have sx1_7 := sx1_6.below c7 (by omega)
  clear sx1_6
  have sy_7 := s7.mono (lo' := w6.heap.size) (by (try simp only [World.heap_size_alloc, World.heap_size_drew, World.heap_size_setCell]); omega) (Nat.le_refl _)
  clear s7
  go_wp2_with fail
  (with_reducible refine (eqMarkS_same _ _ _ _ _ _ _ _ _ _ _ (sx0_7) (sy_7)).mono ?_); rintro _ w8 ⟨rfl, b8⟩
  have y8 := b8.size
  (try simp only [World.heap_size_alloc, World.heap_size_drew] at y8)
  have c8 : Below w7.heap.size w7 w8 := by (repeat' (first | with_reducible exact Below.refl _ _ | with_reducible assumption | with_reducible refine Below.drew ?_ | with_reducible refine Below.alloc ?_ ?_ _ | with_reducible refine Below.setCell ?_ ?_ _ | with_reducible refine Below.trans ?_ (Below.mono (by assumption) ?_) | ((try simp only [World.heap_size_alloc, World.heap_size_drew, World.heap_size_setCell]); omega)))
  obtain ⟨b8_c, b8_f⟩ := bcell b8
  have sa0_8 := sa0_7.below c8 (by omega)
  clear sa0_7
  have sa1_8 := sa1_7.below c8 (by omega)
  clear sa1_7
  have sx0_8 := sx0_7.below c8 (by omega)
  clear sx0_7
  have sx1_8 := sx1_7.below c8 (by omega)
  clear sx1_7
  have sy_8 := sy_7.below c8 (by omega)
  clear sy_7
  clear sy_8
  go_wp2_with fail
  (with_reducible refine (toMarkS_any _ _ _ (l1.flatMap MarkD.ints) _ (h1.below (by (repeat' (first | with_reducible exact Below.refl _ _ | with_reducible assumption | with_reducible refine Below.drew ?_ | with_reducible refine Below.alloc ?_ ?_ _ | with_reducible refine Below.setCell ?_ ?_ _ | with_reducible refine Below.trans ?_ (Below.mono (by assumption) ?_) | ((try simp only [World.heap_size_alloc, World.heap_size_drew, World.heap_size_setCell]); omega))))) hn1).mono ?_); rintro _ w9 ⟨A9, q9, rfl, s9, b9⟩
  have y9 := b9.size
  (try simp only [World.heap_size_alloc, World.heap_size_drew] at y9)
  have c9 : Below w8.heap.size w8 w9 := by (repeat' (first | with_reducible exact Below.refl _ _ | with_reducible assumption | with_reducible refine Below.drew ?_ | with_reducible refine Below.alloc ?_ ?_ _ | with_reducible refine Below.setCell ?_ ?_ _ | with_reducible refine Below.trans ?_ (Below.mono (by assumption) ?_) | ((try simp only [World.heap_size_alloc, World.heap_size_drew, World.heap_size_setCell]); omega)))
  obtain ⟨b9_c, b9_f⟩ := bcell b9
  have sa0_9 := sa0_8.below c9 (by omega)
  clear sa0_8
  have sa1_9 := sa1_8.below c9 (by omega)
  clear sa1_8
  have sx0_9 := sx0_8.below c9 (by omega)
  clear sx0_8
  have sx1_9 := sx1_8.below c9 (by omega)
  clear sx1_8
  have sy_9 := s9.mono (lo' := w8.heap.size) (by (try simp only [World.heap_size_alloc, World.heap_size_drew, World.heap_size_setCell]); omega) (Nat.le_refl _)
  clear s9
  go_wp2_with fail
  (with_reducible refine (eqMarkS_same _ _ _ _ _ _ _ _ _ _ _ (sx1_9) (sy_9)).mono ?_); rintro _ w10 ⟨rfl, b10⟩
  have y10 := b10.size
  (try simp only [World.heap_size_alloc, World.heap_size_drew] at y10)
  have c10 : Below w9.heap.size w9 w10 := by (repeat' (first | with_reducible exact Below.refl _ _ | with_reducible assumption | with_reducible refine Below.drew ?_ | with_reducible refine Below.alloc ?_ ?_ _ | with_reducible refine Below.setCell ?_ ?_ _ | with_reducible refine Below.trans ?_ (Below.mono (by assumption) ?_) | ((try simp only [World.heap_size_alloc, World.heap_size_drew, World.heap_size_setCell]); omega)))
  obtain ⟨b10_c, b10_f⟩ := bcell b10
  have sa0_10 := sa0_9.below c10 (by omega)
  clear sa0_9
  have sa1_10 := sa1_9.below c10 (by omega)
  clear sa1_9
  have sx0_10 := sx0_9.below c10 (by omega)
  clear sx0_9
  have sx1_10 := sx1_9.below c10 (by omega)
  clear sx1_9
  have sy_10 := sy_9.below c10 (by omega)
  clear sy_9
  clear sy_10
  go_wp2_with fail
  go_ret
  refine ⟨rfl, ?_⟩
  clear b1_c b1_f b2_c b2_f b3_c b3_f b4_c b4_f b5_c b5_f b6_c b6_f b7_c b7_f b8_c b8_f b9_c b9_f b10_c b10_f
  (repeat' (first | with_reducible exact Below.refl _ _ | with_reducible assumption | with_reducible refine Below.drew ?_ | with_reducible refine Below.alloc ?_ ?_ _ | with_reducible refine Below.setCell ?_ ?_ _ | with_reducible refine Below.trans ?_ (Below.mono (by assumption) ?_) | ((try simp only [World.heap_size_alloc, World.heap_size_drew, World.heap_size_setCell]); omega)))
theorem own : ownKnob Try.prog.godebug = none := by kernel_rfl
theorem laidOut : laidOutB Try.prog = true := by kernel_rfl
set_option maxRecDepth 100000 in
theorem lifted (os : Os) (started : os.Started) (H : Type) (enc : TypeId × Value → H) :
    ReturnsInHanded {} Try.checked os 3 .any (Rows.fnExactSameSeenSpec.pre6 enc Try.prog Try.f3 Rows.fnExactSameSeenRow.domain false) (Rows.fnExactSameSeenSpec.post enc Try.prog Try.f3 false true false false) := by
  refine returnsInHanded_of_change (C := Try.checked) own started (by kernel_rfl) Try.func3
    (ChangeSpec.witness6 (enc := enc) (C := Try.checked) false ⟨#[], #[.slice none 0 0, .slice none 0 0], []⟩ 8 (by kernel_rfl) (by kernel_rfl) (by kernel_rfl) (by kernel_rfl)) ?_
  intro W base args ds gs before hval0 hW hcnd _
  have hval : ∀ (j : Nat) t v, Try.f3.params[j]? = some t → args[j]? = some v → Value.okWide Try.prog W .any base t v := hval0
  have hW' := hW
  obtain ⟨p, q, hA0, hV, rfl, hfz, hnd⟩ := hW
  have hA : DataW.TrodAll enc Try.prog W 0 (fun _ => true) true Try.f3.params.toList args.toList ds p := hA0
  rw [Try.params3] at hA hval
  obtain ⟨v0, v1, d0, d1, p0, p1, rfl, rfl, rfl, h0, h1⟩ := trodAll_two hA
  obtain ⟨rfl, rfl⟩ := trodVars_none hV
  obtain ⟨A0, n0, c0, z0, rfl, hz0⟩ := open_slv (m := 3) (k := 3) Try.underlying22 (by kernel_rfl) (by kernel_rfl) (by omega) (hval 0 22 v0 rfl rfl) h0
  obtain ⟨l0, rfl⟩ := unflat MarkD.mk_ints n0 z0 hz0.len
  obtain ⟨A1, n1, c1, z1, rfl, hz1⟩ := open_slv (m := 3) (k := 3) Try.underlying22 (by kernel_rfl) (by kernel_rfl) (by omega) (hval 1 22 v1 rfl rfl) h1
  obtain ⟨l1, rfl⟩ := unflat MarkD.mk_ints n1 z1 hz1.len
  clear hA0 hval0
  refine (law_any A0 n0 c0 l0 A1 n1 c1 l1 W hz0 hz1).mono fun e W' ⟨he, hb⟩ => ?_
  subst he
  exact ⟨_, rfl, law_post laidOut (by kernel_rfl) rfl Try.underlying4 rfl hW' hb rfl rfl rfl⟩
theorem holds : Rows.FnExactSameSeenSaid :=
  OpenClaim.holds_of_wide 3 Try.f3 rfl rfl rfl rfl rfl rfl rfl ⟨rfl, rfl, rfl, rfl, rfl⟩ rfl rfl rfl rfl rfl (by kernel_rfl) Try.func3 (by kernel_rfl)
    (of_decide_eq_true (by kernel_rfl)) (by unfold Func.isWrapper; first | (rw [if_pos (by decide +kernel)]; kernel_rfl) | (rw [if_neg (by decide +kernel)]; exact ⟨rfl, rfl⟩))
    (fun os started H enc _ => lifted os started H enc)
#print axioms holds
end SameSeen
end Go.Proofs.Ythdhhdjcnhacfaa
