/- The law FnExactTimerSet returns true for every input. No conditions. -/
import Derived.Test.YtkianeknbfahgaaTim8
import Derived.Test.YtkianeknbfahgaaTim9
set_option linter.unusedSimpArgs false
set_option linter.unusedVariables false
namespace Go.Proofs.Ytkianeknbfahgaa
open Go.ChangeShapes Go.WideShapes Go.ChangeAt Go.RowKit
namespace TimerSet
set_option maxHeartbeats 8000000 in
theorem law_any (A0 : Option Addr) (n0 c0 : Nat) (l0 : List TimerD) (x1 x2 : Int) (w : World) (h0 : ArgSl w 2 A0 n0 c0 (l0.flatMap TimerD.ints)) : Calls Try.prog 9 #[.slice A0 n0 c0, .int .i64 x1, .int .i64 x2] w fun e w' => e = .returned (.bool true) ∧ Below w.heap.size w w' := by
  rcases Nat.lt_or_ge 1048576 n0 with hn0 | hn0
  · have hb : n0 ≤ 9223372036854775807 := Nat.le_trans h0.cap h0.big
    clear h0
    go_enter Try.func9, Try.ntmps9
    go_wp2_with fail
    (with_reducible refine (szTimerS_big _ n0 _ _ _ (by omega) (by omega) hb (by omega)).mono ?_); rintro _ _ ⟨rfl, rfl⟩
    go_wp2_with fail
    go_ret
    exact ⟨rfl, Below.refl _ _⟩
  have hr := timerSet_len l0 x1 x2
  have CS := fun A n c lo hi W (s : Sl W lo hi 2 A n c (l0.flatMap TimerD.ints)) => sTimerSet_any A n c lo hi l0 x1 x2 W s
  have CI := fun A n c lo hi W (s : Sl W lo hi 2 A n c (l0.flatMap TimerD.ints)) => timerSet_any A n c lo hi l0 x1 x2 W s
  generalize timerSet l0 x1 x2 = r at CS CI hr
  obtain ⟨rl, rb⟩ := r
  simp only at CS CI hr
  generalize hrn : rl.length = rn at CS CI hr
  have hrb : (rb != rb) = false := by simp
  replace hr : rn ≤ 1048576 := by omega
  have HS := Lib.hid CS
  have HI := Lib.hid CI
  clear CS CI hrn
  go_enter Try.func9, Try.ntmps9
  go_wp2_with fail
  (with_reducible refine (szTimerS_ok _ n0 _ _ _ (by omega) (by omega)).mono ?_); rintro _ _ ⟨rfl, rfl⟩
  go_wp2_with fail
  (with_reducible refine (toTimerS_any _ _ _ (l0.flatMap TimerD.ints) _ (h0.below (by (repeat' (first | with_reducible exact Below.refl _ _ | with_reducible assumption | with_reducible refine Below.drew ?_ | with_reducible refine Below.alloc ?_ ?_ _ | with_reducible refine Below.setCell ?_ ?_ _ | with_reducible refine Below.trans ?_ (Below.mono (by assumption) ?_) | ((try simp only [World.heap_size_alloc, World.heap_size_drew, World.heap_size_setCell]); omega))))) hn0).mono ?_); rintro _ w1 ⟨A1, q1, rfl, s1, b1⟩
  have y1 := b1.size
  (try simp only [World.heap_size_alloc, World.heap_size_drew] at y1)
  have c1 : Below w.heap.size w w1 := by (repeat' (first | with_reducible exact Below.refl _ _ | with_reducible assumption | with_reducible refine Below.drew ?_ | with_reducible refine Below.alloc ?_ ?_ _ | with_reducible refine Below.setCell ?_ ?_ _ | with_reducible refine Below.trans ?_ (Below.mono (by assumption) ?_) | ((try simp only [World.heap_size_alloc, World.heap_size_drew, World.heap_size_setCell]); omega)))
  obtain ⟨b1_c, b1_f⟩ := bcell b1
  have sa0_1 := s1.mono (lo' := w.heap.size) (by (try simp only [World.heap_size_alloc, World.heap_size_drew, World.heap_size_setCell]); omega) (Nat.le_refl _)
  clear s1
  go_wp2_with fail
  (with_reducible refine (HS.out _ _ _ _ _ _ (sa0_1)).mono ?_); rintro _ w2 ⟨A2, q2, rfl, s2, b2⟩
  have y2 := b2.size
  (try simp only [World.heap_size_alloc, World.heap_size_drew] at y2)
  have c2 : Below w1.heap.size w1 w2 := by (repeat' (first | with_reducible exact Below.refl _ _ | with_reducible assumption | with_reducible refine Below.drew ?_ | with_reducible refine Below.alloc ?_ ?_ _ | with_reducible refine Below.setCell ?_ ?_ _ | with_reducible refine Below.trans ?_ (Below.mono (by assumption) ?_) | ((try simp only [World.heap_size_alloc, World.heap_size_drew, World.heap_size_setCell]); omega)))
  obtain ⟨b2_c, b2_f⟩ := bcell b2
  have sa0_2 := sa0_1.below c2 (by omega)
  clear sa0_1
  have sw_2 := s2.mono (lo' := w1.heap.size) (by (try simp only [World.heap_size_alloc, World.heap_size_drew, World.heap_size_setCell]); omega) (Nat.le_refl _)
  clear s2
  clear sa0_2
  go_wp2_with fail
  (with_reducible refine (toTimerS_any _ _ _ (l0.flatMap TimerD.ints) _ (h0.below (by (repeat' (first | with_reducible exact Below.refl _ _ | with_reducible assumption | with_reducible refine Below.drew ?_ | with_reducible refine Below.alloc ?_ ?_ _ | with_reducible refine Below.setCell ?_ ?_ _ | with_reducible refine Below.trans ?_ (Below.mono (by assumption) ?_) | ((try simp only [World.heap_size_alloc, World.heap_size_drew, World.heap_size_setCell]); omega))))) hn0).mono ?_); rintro _ w3 ⟨A3, q3, rfl, s3, b3⟩
  have y3 := b3.size
  (try simp only [World.heap_size_alloc, World.heap_size_drew] at y3)
  have c3 : Below w2.heap.size w2 w3 := by (repeat' (first | with_reducible exact Below.refl _ _ | with_reducible assumption | with_reducible refine Below.drew ?_ | with_reducible refine Below.alloc ?_ ?_ _ | with_reducible refine Below.setCell ?_ ?_ _ | with_reducible refine Below.trans ?_ (Below.mono (by assumption) ?_) | ((try simp only [World.heap_size_alloc, World.heap_size_drew, World.heap_size_setCell]); omega)))
  obtain ⟨b3_c, b3_f⟩ := bcell b3
  have sw_3 := sw_2.below c3 (by omega)
  clear sw_2
  have sx0_3 := s3.mono (lo' := w2.heap.size) (by (try simp only [World.heap_size_alloc, World.heap_size_drew, World.heap_size_setCell]); omega) (Nat.le_refl _)
  clear s3
  go_wp2_with fail
  (with_reducible refine (HI.out _ _ _ _ _ _ (sx0_3)).mono ?_); rintro _ w4 ⟨A4, q4, rfl, s4, b4⟩
  have y4 := b4.size
  (try simp only [World.heap_size_alloc, World.heap_size_drew] at y4)
  have c4 : Below w3.heap.size w3 w4 := by (repeat' (first | with_reducible exact Below.refl _ _ | with_reducible assumption | with_reducible refine Below.drew ?_ | with_reducible refine Below.alloc ?_ ?_ _ | with_reducible refine Below.setCell ?_ ?_ _ | with_reducible refine Below.trans ?_ (Below.mono (by assumption) ?_) | ((try simp only [World.heap_size_alloc, World.heap_size_drew, World.heap_size_setCell]); omega)))
  obtain ⟨b4_c, b4_f⟩ := bcell b4
  have sw_4 := sw_3.below c4 (by omega)
  clear sw_3
  have sx0_4 := sx0_3.below c4 (by omega)
  clear sx0_3
  have sg_4 := s4.mono (lo' := w3.heap.size) (by (try simp only [World.heap_size_alloc, World.heap_size_drew, World.heap_size_setCell]); omega) (Nat.le_refl _)
  clear s4
  go_wp2_with fail
  (with_reducible refine (eqTimerS_same _ _ _ _ _ _ _ _ _ _ _ (sg_4) (sw_4)).mono ?_); rintro _ w5 ⟨rfl, b5⟩
  have y5 := b5.size
  (try simp only [World.heap_size_alloc, World.heap_size_drew] at y5)
  have c5 : Below w4.heap.size w4 w5 := by (repeat' (first | with_reducible exact Below.refl _ _ | with_reducible assumption | with_reducible refine Below.drew ?_ | with_reducible refine Below.alloc ?_ ?_ _ | with_reducible refine Below.setCell ?_ ?_ _ | with_reducible refine Below.trans ?_ (Below.mono (by assumption) ?_) | ((try simp only [World.heap_size_alloc, World.heap_size_drew, World.heap_size_setCell]); omega)))
  obtain ⟨b5_c, b5_f⟩ := bcell b5
  have sw_5 := sw_4.below c5 (by omega)
  clear sw_4
  have sx0_5 := sx0_4.below c5 (by omega)
  clear sx0_4
  have sg_5 := sg_4.below c5 (by omega)
  clear sg_4
  go_wp2_with fail
  (with_reducible refine (toTimerS_any _ _ _ (l0.flatMap TimerD.ints) _ (h0.below (by (repeat' (first | with_reducible exact Below.refl _ _ | with_reducible assumption | with_reducible refine Below.drew ?_ | with_reducible refine Below.alloc ?_ ?_ _ | with_reducible refine Below.setCell ?_ ?_ _ | with_reducible refine Below.trans ?_ (Below.mono (by assumption) ?_) | ((try simp only [World.heap_size_alloc, World.heap_size_drew, World.heap_size_setCell]); omega))))) hn0).mono ?_); rintro _ w6 ⟨A6, q6, rfl, s6, b6⟩
  have y6 := b6.size
  (try simp only [World.heap_size_alloc, World.heap_size_drew] at y6)
  have c6 : Below w5.heap.size w5 w6 := by (repeat' (first | with_reducible exact Below.refl _ _ | with_reducible assumption | with_reducible refine Below.drew ?_ | with_reducible refine Below.alloc ?_ ?_ _ | with_reducible refine Below.setCell ?_ ?_ _ | with_reducible refine Below.trans ?_ (Below.mono (by assumption) ?_) | ((try simp only [World.heap_size_alloc, World.heap_size_drew, World.heap_size_setCell]); omega)))
  obtain ⟨b6_c, b6_f⟩ := bcell b6
  have sw_6 := sw_5.below c6 (by omega)
  clear sw_5
  have sx0_6 := sx0_5.below c6 (by omega)
  clear sx0_5
  have sg_6 := sg_5.below c6 (by omega)
  clear sg_5
  have sy_6 := s6.mono (lo' := w5.heap.size) (by (try simp only [World.heap_size_alloc, World.heap_size_drew, World.heap_size_setCell]); omega) (Nat.le_refl _)
  clear s6
  go_wp2_with fail
  (with_reducible refine (eqTimerS_same _ _ _ _ _ _ _ _ _ _ _ (sx0_6) (sy_6)).mono ?_); rintro _ w7 ⟨rfl, b7⟩
  have y7 := b7.size
  (try simp only [World.heap_size_alloc, World.heap_size_drew] at y7)
  have c7 : Below w6.heap.size w6 w7 := by (repeat' (first | with_reducible exact Below.refl _ _ | with_reducible assumption | with_reducible refine Below.drew ?_ | with_reducible refine Below.alloc ?_ ?_ _ | with_reducible refine Below.setCell ?_ ?_ _ | with_reducible refine Below.trans ?_ (Below.mono (by assumption) ?_) | ((try simp only [World.heap_size_alloc, World.heap_size_drew, World.heap_size_setCell]); omega)))
  obtain ⟨b7_c, b7_f⟩ := bcell b7
  have sw_7 := sw_6.below c7 (by omega)
  clear sw_6
  have sx0_7 := sx0_6.below c7 (by omega)
  clear sx0_6
  have sg_7 := sg_6.below c7 (by omega)
  clear sg_6
  have sy_7 := sy_6.below c7 (by omega)
  clear sy_6
  clear sy_7
  go_wp2_with fail
  (with_reducible refine (markTimerS_any _ _ _ _ _ _ _ _ sx0_7 hn0 (by omega) (by omega)).mono ?_); rintro _ w8 ⟨rfl, m8, u8⟩
  have b8 := u8.below (B := w2.heap.size) (by omega) (by first | omega | ((try simp only [World.heap_size_alloc, World.heap_size_drew, World.heap_size_setCell]); omega))
  have y8 := u8.size
  (try simp only [World.heap_size_alloc, World.heap_size_drew] at y8)
  have c8 : Below w2.heap.size w7 w8 := by (repeat' (first | with_reducible exact Below.refl _ _ | with_reducible assumption | with_reducible refine Below.drew ?_ | with_reducible refine Below.alloc ?_ ?_ _ | with_reducible refine Below.setCell ?_ ?_ _ | with_reducible refine Below.trans ?_ (Below.mono (by assumption) ?_) | ((try simp only [World.heap_size_alloc, World.heap_size_drew, World.heap_size_setCell]); omega)))
  obtain ⟨b8_c, b8_f⟩ := bcellB b8
  have sw_8 := sw_7.upd u8 (by omega)
  clear sw_7
  clear sx0_7
  have sg_8 := sg_7.upd u8 (by omega)
  clear sg_7
  have sx0_8 := m8
  clear m8
  clear sx0_8
  go_wp2_with fail
  (with_reducible refine (eqTimerS_same _ _ _ _ _ _ _ _ _ _ _ (sg_8) (sw_8)).mono ?_); rintro _ w9 ⟨rfl, b9⟩
  have y9 := b9.size
  (try simp only [World.heap_size_alloc, World.heap_size_drew] at y9)
  have c9 : Below w8.heap.size w8 w9 := by (repeat' (first | with_reducible exact Below.refl _ _ | with_reducible assumption | with_reducible refine Below.drew ?_ | with_reducible refine Below.alloc ?_ ?_ _ | with_reducible refine Below.setCell ?_ ?_ _ | with_reducible refine Below.trans ?_ (Below.mono (by assumption) ?_) | ((try simp only [World.heap_size_alloc, World.heap_size_drew, World.heap_size_setCell]); omega)))
  obtain ⟨b9_c, b9_f⟩ := bcell b9
  have sw_9 := sw_8.below c9 (by omega)
  clear sw_8
  have sg_9 := sg_8.below c9 (by omega)
  clear sg_8
  go_wp2_with fail
  (with_reducible refine (markTimerS_any _ _ _ _ _ _ 1 _ sg_9 hr (by omega) (by omega)).mono ?_); rintro _ w10 ⟨rfl, m10, u10⟩
  have b10 := u10.below (B := w3.heap.size) (by omega) (by first | omega | ((try simp only [World.heap_size_alloc, World.heap_size_drew, World.heap_size_setCell]); omega))
  have y10 := u10.size
  (try simp only [World.heap_size_alloc, World.heap_size_drew] at y10)
  have c10 : Below w3.heap.size w9 w10 := by (repeat' (first | with_reducible exact Below.refl _ _ | with_reducible assumption | with_reducible refine Below.drew ?_ | with_reducible refine Below.alloc ?_ ?_ _ | with_reducible refine Below.setCell ?_ ?_ _ | with_reducible refine Below.trans ?_ (Below.mono (by assumption) ?_) | ((try simp only [World.heap_size_alloc, World.heap_size_drew, World.heap_size_setCell]); omega)))
  obtain ⟨b10_c, b10_f⟩ := bcellB b10
  have sw_10 := sw_9.upd u10 (by omega)
  clear sw_9
  clear sg_9
  have sg_10 := m10
  clear m10
  go_wp2_with fail
  (with_reducible refine (heldTimerS_ok _ _ _ _ _ 1 _ sg_10 hr (by omega) (by omega)).mono ?_); rintro _ _ ⟨rfl, rfl⟩
  go_wp2_with fail
  (with_reducible refine (toTimerS_any _ _ _ (l0.flatMap TimerD.ints) _ (h0.below (by (repeat' (first | with_reducible exact Below.refl _ _ | with_reducible assumption | with_reducible refine Below.drew ?_ | with_reducible refine Below.alloc ?_ ?_ _ | with_reducible refine Below.setCell ?_ ?_ _ | with_reducible refine Below.trans ?_ (Below.mono (by assumption) ?_) | ((try simp only [World.heap_size_alloc, World.heap_size_drew, World.heap_size_setCell]); omega))))) hn0).mono ?_); rintro _ w11 ⟨A11, q11, rfl, s11, b11⟩
  have y11 := b11.size
  (try simp only [World.heap_size_alloc, World.heap_size_drew] at y11)
  have c11 : Below w10.heap.size w10 w11 := by (repeat' (first | with_reducible exact Below.refl _ _ | with_reducible assumption | with_reducible refine Below.drew ?_ | with_reducible refine Below.alloc ?_ ?_ _ | with_reducible refine Below.setCell ?_ ?_ _ | with_reducible refine Below.trans ?_ (Below.mono (by assumption) ?_) | ((try simp only [World.heap_size_alloc, World.heap_size_drew, World.heap_size_setCell]); omega)))
  obtain ⟨b11_c, b11_f⟩ := bcell b11
  have sw_11 := sw_10.below c11 (by omega)
  clear sw_10
  have sg_11 := sg_10.below c11 (by omega)
  clear sg_10
  have sx0_11 := s11.mono (lo' := w10.heap.size) (by (try simp only [World.heap_size_alloc, World.heap_size_drew, World.heap_size_setCell]); omega) (Nat.le_refl _)
  clear s11
  go_wp2_with fail
  (with_reducible refine (HI.out _ _ _ _ _ _ (sx0_11)).mono ?_); rintro _ w12 ⟨A12, q12, rfl, s12, b12⟩
  have y12 := b12.size
  (try simp only [World.heap_size_alloc, World.heap_size_drew] at y12)
  have c12 : Below w11.heap.size w11 w12 := by (repeat' (first | with_reducible exact Below.refl _ _ | with_reducible assumption | with_reducible refine Below.drew ?_ | with_reducible refine Below.alloc ?_ ?_ _ | with_reducible refine Below.setCell ?_ ?_ _ | with_reducible refine Below.trans ?_ (Below.mono (by assumption) ?_) | ((try simp only [World.heap_size_alloc, World.heap_size_drew, World.heap_size_setCell]); omega)))
  obtain ⟨b12_c, b12_f⟩ := bcell b12
  have sw_12 := sw_11.below c12 (by omega)
  clear sw_11
  have sg_12 := sg_11.below c12 (by omega)
  clear sg_11
  have sx0_12 := sx0_11.below c12 (by omega)
  clear sx0_11
  have sh_12 := s12.mono (lo' := w11.heap.size) (by (try simp only [World.heap_size_alloc, World.heap_size_drew, World.heap_size_setCell]); omega) (Nat.le_refl _)
  clear s12
  go_wp2_with fail
  (with_reducible refine (eqTimerS_same _ _ _ _ _ _ _ _ _ _ _ (sh_12) (sw_12)).mono ?_); rintro _ w13 ⟨rfl, b13⟩
  have y13 := b13.size
  (try simp only [World.heap_size_alloc, World.heap_size_drew] at y13)
  have c13 : Below w12.heap.size w12 w13 := by (repeat' (first | with_reducible exact Below.refl _ _ | with_reducible assumption | with_reducible refine Below.drew ?_ | with_reducible refine Below.alloc ?_ ?_ _ | with_reducible refine Below.setCell ?_ ?_ _ | with_reducible refine Below.trans ?_ (Below.mono (by assumption) ?_) | ((try simp only [World.heap_size_alloc, World.heap_size_drew, World.heap_size_setCell]); omega)))
  obtain ⟨b13_c, b13_f⟩ := bcell b13
  have sw_13 := sw_12.below c13 (by omega)
  clear sw_12
  have sg_13 := sg_12.below c13 (by omega)
  clear sg_12
  have sx0_13 := sx0_12.below c13 (by omega)
  clear sx0_12
  have sh_13 := sh_12.below c13 (by omega)
  clear sh_12
  go_wp2_with fail
  (with_reducible refine (heldTimerS_ok _ _ _ _ _ 1 _ sg_13 hr (by omega) (by omega)).mono ?_); rintro _ _ ⟨rfl, rfl⟩
  go_wp2_with fail
  go_ret
  refine ⟨rfl, ?_⟩
  clear b1_c b1_f b2_c b2_f b3_c b3_f b4_c b4_f b5_c b5_f b6_c b6_f b7_c b7_f b8_c b8_f b9_c b9_f b10_c b10_f b11_c b11_f b12_c b12_f b13_c b13_f
  (repeat' (first | with_reducible exact Below.refl _ _ | with_reducible assumption | with_reducible refine Below.drew ?_ | with_reducible refine Below.alloc ?_ ?_ _ | with_reducible refine Below.setCell ?_ ?_ _ | with_reducible refine Below.trans ?_ (Below.mono (by assumption) ?_) | ((try simp only [World.heap_size_alloc, World.heap_size_drew, World.heap_size_setCell]); omega)))
theorem own : ownKnob Try.prog.godebug = none := by kernel_rfl
theorem laidOut : laidOutB Try.prog = true := by kernel_rfl
set_option maxRecDepth 100000 in
theorem lifted (os : Os) (started : os.Started) (H : Type) (enc : TypeId × Value → H) :
    ReturnsInHanded {} Try.checked os 9 .any (Rows.fnExactTimerSetSpec.pre6 enc Try.prog Try.f9 Rows.fnExactTimerSetRow.domain false) (Rows.fnExactTimerSetSpec.post enc Try.prog Try.f9 false true false false) := by
  refine returnsInHanded_of_change (C := Try.checked) own started (by kernel_rfl) Try.func9
    (ChangeSpec.witness6 (enc := enc) (C := Try.checked) false ⟨#[], #[.slice none 0 0, .int .i64 0, .int .i64 0], []⟩ 8 (by kernel_rfl) (by kernel_rfl) (by kernel_rfl) (by kernel_rfl)) ?_
  intro W base args ds gs before hval0 hW hcnd _
  have hval : ∀ (j : Nat) t v, Try.f9.params[j]? = some t → args[j]? = some v → Value.okWide Try.prog W .any base t v := hval0
  have hW' := hW
  obtain ⟨p, q, hA0, hV, rfl, hfz, hnd⟩ := hW
  have hA : DataW.TrodAll enc Try.prog W 0 (fun _ => true) true Try.f9.params.toList args.toList ds p := hA0
  rw [Try.params9] at hA hval
  obtain ⟨v0, v1, v2, d0, d1, d2, p0, p1, p2, rfl, rfl, rfl, h0, h1, h2⟩ := trodAll_three hA
  obtain ⟨rfl, rfl⟩ := trodVars_none hV
  obtain ⟨A0, n0, c0, z0, rfl, hz0⟩ := open_slv (m := 3) (k := 2) Try.underlying37 (by kernel_rfl) (by kernel_rfl) (by omega) (hval 0 37 v0 rfl rfl) h0
  obtain ⟨l0, rfl⟩ := unflat TimerD.mk_ints n0 z0 hz0.len
  obtain ⟨x1, rfl, rfl, rfl, wx1⟩ := open_int Try.underlying2 (hval 1 2 v1 rfl rfl) h1
  obtain ⟨x2, rfl, rfl, rfl, wx2⟩ := open_int Try.underlying2 (hval 2 2 v2 rfl rfl) h2
  clear hA0 hval0
  refine (law_any A0 n0 c0 l0 x1 x2 W hz0).mono fun e W' ⟨he, hb⟩ => ?_
  subst he
  exact ⟨_, rfl, law_post laidOut (by kernel_rfl) rfl Try.underlying4 rfl hW' hb rfl rfl rfl⟩
theorem holds : Rows.FnExactTimerSetSaid :=
  OpenClaim.holds_of_wide 9 Try.f9 rfl rfl rfl rfl rfl rfl rfl ⟨rfl, rfl, rfl, rfl, rfl⟩ rfl rfl rfl rfl rfl (by kernel_rfl) Try.func9 (by kernel_rfl)
    (of_decide_eq_true (by kernel_rfl)) (by unfold Func.isWrapper; first | (rw [if_pos (by decide +kernel)]; kernel_rfl) | (rw [if_neg (by decide +kernel)]; exact ⟨rfl, rfl⟩))
    (fun os started H enc _ => lifted os started H enc)
#print axioms holds
end TimerSet
end Go.Proofs.Ytkianeknbfahgaa
