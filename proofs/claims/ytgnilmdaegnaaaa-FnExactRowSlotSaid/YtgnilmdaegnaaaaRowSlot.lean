/- The law FnExactRowSlot returns true for every input. No conditions. -/
import Derived.Test.YtgnilmdaegnaaaaSlot2
import Derived.Test.YtgnilmdaegnaaaaHelp
set_option linter.unusedSimpArgs false
set_option linter.unusedVariables false
namespace Go.Proofs.Ytgnilmdaegnaaaa
open Go.ChangeShapes Go.WideShapes Go.ChangeAt Go.RowKit
namespace RowSlot
set_option maxRecDepth 100000 in
set_option maxHeartbeats 4000000 in
theorem law_any (A : Option Addr) (n c : Nat) (zs : List Int) (w : World) (h : ArgSl w 1 A n c zs) : Calls Try.prog 5 #[.slice A n c] w fun e w' => e = .returned (.bool true) ∧ Below w.heap.size w w' := by
  rcases Nat.lt_or_ge 1048576 n with hn1 | hn1
  · have hb : n ≤ 9223372036854775807 := Nat.le_trans h.cap h.big
    clear h
    go_enter Try.func5, Try.ntmps5
    go_wp2
    go_ret
    exact ⟨rfl, Below.refl _ _⟩
  have CS := fun A n c lo hi W (s : Sl W lo hi 1 A n c zs) => sRowSlot_any A n c lo hi zs W s
  have CI := fun A n c lo hi W (s : Sl W lo hi 1 A n c zs) => rowSlot_any A n c lo hi zs W s
  generalize rowSlot zs = r at CS CI
  have HS := Lib.hid CS
  have HI := Lib.hid CI
  clear CS CI
  go_enter Try.func5, Try.ntmps5
  go_wp2_with fail
  (with_reducible refine (toInt64S_any _ _ _ zs _ (h.below (by (repeat' (first | with_reducible exact Below.refl _ _ | with_reducible assumption | with_reducible refine Below.drew ?_ | with_reducible refine Below.alloc ?_ ?_ _ | with_reducible refine Below.setCell ?_ ?_ _ | with_reducible refine Below.trans ?_ (Below.mono (by assumption) ?_) | ((try simp only [World.heap_size_alloc, World.heap_size_drew, World.heap_size_setCell]); omega))))) hn1).mono ?_); rintro _ w1 ⟨A1, q1, rfl, s1, b1⟩
  have y1 := b1.size
  (try simp only [World.heap_size_alloc, World.heap_size_drew] at y1)
  have c1 : Below w.heap.size w w1 := by (repeat' (first | with_reducible exact Below.refl _ _ | with_reducible assumption | with_reducible refine Below.drew ?_ | with_reducible refine Below.alloc ?_ ?_ _ | with_reducible refine Below.setCell ?_ ?_ _ | with_reducible refine Below.trans ?_ (Below.mono (by assumption) ?_) | ((try simp only [World.heap_size_alloc, World.heap_size_drew, World.heap_size_setCell]); omega)))
  obtain ⟨b1_c, b1_f⟩ := bcell b1
  have sa_1 := s1.mono (lo' := w.heap.size) (by (try simp only [World.heap_size_alloc, World.heap_size_drew, World.heap_size_setCell]); omega) (Nat.le_refl _)
  clear s1
  go_wp2_with fail
  (with_reducible refine (HS.out _ _ _ _ _ _ (sa_1)).mono ?_); rintro _ w2 ⟨rfl, b2⟩
  have y2 := b2.size
  (try simp only [World.heap_size_alloc, World.heap_size_drew] at y2)
  have c2 : Below w1.heap.size w1 w2 := by (repeat' (first | with_reducible exact Below.refl _ _ | with_reducible assumption | with_reducible refine Below.drew ?_ | with_reducible refine Below.alloc ?_ ?_ _ | with_reducible refine Below.setCell ?_ ?_ _ | with_reducible refine Below.trans ?_ (Below.mono (by assumption) ?_) | ((try simp only [World.heap_size_alloc, World.heap_size_drew, World.heap_size_setCell]); omega)))
  obtain ⟨b2_c, b2_f⟩ := bcell b2
  have sa_2 := sa_1.below c2 (by omega)
  clear sa_1
  go_wp2_with fail
  (with_reducible refine (toInt64S_any _ _ _ zs _ (h.below (by (repeat' (first | with_reducible exact Below.refl _ _ | with_reducible assumption | with_reducible refine Below.drew ?_ | with_reducible refine Below.alloc ?_ ?_ _ | with_reducible refine Below.setCell ?_ ?_ _ | with_reducible refine Below.trans ?_ (Below.mono (by assumption) ?_) | ((try simp only [World.heap_size_alloc, World.heap_size_drew, World.heap_size_setCell]); omega))))) hn1).mono ?_); rintro _ w3 ⟨A3, q3, rfl, s3, b3⟩
  have y3 := b3.size
  (try simp only [World.heap_size_alloc, World.heap_size_drew] at y3)
  have c3 : Below w2.heap.size w2 w3 := by (repeat' (first | with_reducible exact Below.refl _ _ | with_reducible assumption | with_reducible refine Below.drew ?_ | with_reducible refine Below.alloc ?_ ?_ _ | with_reducible refine Below.setCell ?_ ?_ _ | with_reducible refine Below.trans ?_ (Below.mono (by assumption) ?_) | ((try simp only [World.heap_size_alloc, World.heap_size_drew, World.heap_size_setCell]); omega)))
  obtain ⟨b3_c, b3_f⟩ := bcell b3
  have z3_0 : w2.heap.size < w3.heap.size := by omega
  have sa_3 := sa_2.below c3 (by omega)
  clear sa_2
  have sx_3 := s3.mono (lo' := w2.heap.size) (by (try simp only [World.heap_size_alloc, World.heap_size_drew, World.heap_size_setCell]); omega) (Nat.le_refl _)
  clear s3
  go_wp2_with fail
  (with_reducible refine (HI.out _ _ _ _ _ _ (sx_3)).mono ?_); rintro _ w4 ⟨rfl, b4⟩
  have y4 := b4.size
  (try simp only [World.heap_size_alloc, World.heap_size_drew] at y4)
  have c4 : Below w3.heap.size w3 w4 := by (repeat' (first | with_reducible exact Below.refl _ _ | with_reducible assumption | with_reducible refine Below.drew ?_ | with_reducible refine Below.alloc ?_ ?_ _ | with_reducible refine Below.setCell ?_ ?_ _ | with_reducible refine Below.trans ?_ (Below.mono (by assumption) ?_) | ((try simp only [World.heap_size_alloc, World.heap_size_drew, World.heap_size_setCell]); omega)))
  obtain ⟨b4_c, b4_f⟩ := bcell b4
  have z4_0 : w2.heap.size < w4.heap.size := by omega
  have sa_4 := sa_3.below c4 (by omega)
  clear sa_3
  have sx_4 := sx_3.below c4 (by omega)
  clear sx_3
  go_wp2_with fail
  (with_reducible refine (eqEntry_same _ _ _ _ _ _ _ _ _ _).mono ?_); rintro _ w5 ⟨rfl, b5⟩
  have y5 := b5.size
  (try simp only [World.heap_size_alloc, World.heap_size_drew] at y5)
  have c5 : Below w4.heap.size w4 w5 := by (repeat' (first | with_reducible exact Below.refl _ _ | with_reducible assumption | with_reducible refine Below.drew ?_ | with_reducible refine Below.alloc ?_ ?_ _ | with_reducible refine Below.setCell ?_ ?_ _ | with_reducible refine Below.trans ?_ (Below.mono (by assumption) ?_) | ((try simp only [World.heap_size_alloc, World.heap_size_drew, World.heap_size_setCell]); omega)))
  obtain ⟨b5_c, b5_f⟩ := bcell b5
  have z5_0 : w2.heap.size < w5.heap.size := by omega
  have z5_1 : w4.heap.size < w5.heap.size := by omega
  have sa_5 := sa_4.below c5 (by omega)
  clear sa_4
  have sx_5 := sx_4.below c5 (by omega)
  clear sx_4
  go_wp2_with fail
  (with_reducible refine (toInt64S_any _ _ _ zs _ (h.below (by (repeat' (first | with_reducible exact Below.refl _ _ | with_reducible assumption | with_reducible refine Below.drew ?_ | with_reducible refine Below.alloc ?_ ?_ _ | with_reducible refine Below.setCell ?_ ?_ _ | with_reducible refine Below.trans ?_ (Below.mono (by assumption) ?_) | ((try simp only [World.heap_size_alloc, World.heap_size_drew, World.heap_size_setCell]); omega))))) hn1).mono ?_); rintro _ w6 ⟨A6, q6, rfl, s6, b6⟩
  have y6 := b6.size
  (try simp only [World.heap_size_alloc, World.heap_size_drew] at y6)
  have c6 : Below w5.heap.size w5 w6 := by (repeat' (first | with_reducible exact Below.refl _ _ | with_reducible assumption | with_reducible refine Below.drew ?_ | with_reducible refine Below.alloc ?_ ?_ _ | with_reducible refine Below.setCell ?_ ?_ _ | with_reducible refine Below.trans ?_ (Below.mono (by assumption) ?_) | ((try simp only [World.heap_size_alloc, World.heap_size_drew, World.heap_size_setCell]); omega)))
  obtain ⟨b6_c, b6_f⟩ := bcell b6
  have z6_0 : w2.heap.size < w6.heap.size := by omega
  have z6_1 : w4.heap.size < w6.heap.size := by omega
  have sa_6 := sa_5.below c6 (by omega)
  clear sa_5
  have sx_6 := sx_5.below c6 (by omega)
  clear sx_5
  have sy_6 := s6.mono (lo' := w5.heap.size) (by (try simp only [World.heap_size_alloc, World.heap_size_drew, World.heap_size_setCell]); omega) (Nat.le_refl _)
  clear s6
  go_wp2_with fail
  (with_reducible refine (eqInt64S_same _ _ _ _ _ _ _ _ _ _ _ (sx_6) (sy_6)).mono ?_); rintro _ w7 ⟨rfl, b7⟩
  have y7 := b7.size
  (try simp only [World.heap_size_alloc, World.heap_size_drew] at y7)
  have c7 : Below w6.heap.size w6 w7 := by (repeat' (first | with_reducible exact Below.refl _ _ | with_reducible assumption | with_reducible refine Below.drew ?_ | with_reducible refine Below.alloc ?_ ?_ _ | with_reducible refine Below.setCell ?_ ?_ _ | with_reducible refine Below.trans ?_ (Below.mono (by assumption) ?_) | ((try simp only [World.heap_size_alloc, World.heap_size_drew, World.heap_size_setCell]); omega)))
  obtain ⟨b7_c, b7_f⟩ := bcell b7
  have z7_0 : w2.heap.size < w7.heap.size := by omega
  have z7_1 : w4.heap.size < w7.heap.size := by omega
  have sa_7 := sa_6.below c7 (by omega)
  clear sa_6
  have sx_7 := sx_6.below c7 (by omega)
  clear sx_6
  have sy_7 := sy_6.below c7 (by omega)
  clear sy_6
  go_wp2_with fail
  go_ret
  refine ⟨rfl, ?_⟩
  clear b1_c b1_f b2_c b2_f b3_c b3_f b4_c b4_f b5_c b5_f b6_c b6_f b7_c b7_f
  (repeat' (first | with_reducible exact Below.refl _ _ | with_reducible assumption | with_reducible refine Below.drew ?_ | with_reducible refine Below.alloc ?_ ?_ _ | with_reducible refine Below.setCell ?_ ?_ _ | with_reducible refine Below.trans ?_ (Below.mono (by assumption) ?_) | ((try simp only [World.heap_size_alloc, World.heap_size_drew, World.heap_size_setCell]); omega)))
theorem own : ownKnob Try.prog.godebug = none := by kernel_rfl
theorem laidOut : laidOutB Try.prog = true := by kernel_rfl
set_option maxRecDepth 100000 in
theorem lifted (os : Os) (started : os.Started) (H : Type) (enc : TypeId × Value → H) :
    ReturnsInHanded {} Try.checked os 5 .any (Rows.fnExactRowSlotSpec.pre6 enc Try.prog Try.f5 Rows.fnExactRowSlotRow.domain false) (Rows.fnExactRowSlotSpec.post enc Try.prog Try.f5 false true false false) := by
  refine returnsInHanded_of_change (C := Try.checked) own started (by kernel_rfl) Try.func5
    (ChangeSpec.witness6 (enc := enc) (C := Try.checked) false ⟨#[], #[.slice none 0 0], []⟩ 8 (by kernel_rfl) (by kernel_rfl) (by kernel_rfl) (by kernel_rfl)) ?_
  intro W base args ds gs before hval0 hW hcnd _
  have hval : ∀ (j : Nat) t v, Try.f5.params[j]? = some t → args[j]? = some v → Value.okWide Try.prog W .any base t v := hval0
  have hW' := hW
  obtain ⟨p, q, hA0, hV, rfl, hfz, hnd⟩ := hW
  have hA : DataW.TrodAll enc Try.prog W 0 (fun _ => true) true Try.f5.params.toList args.toList ds p := hA0
  rw [Try.params5] at hA hval
  obtain ⟨v0, d0, rfl, rfl, h0⟩ := trodAll_one hA
  obtain ⟨rfl, rfl⟩ := trodVars_none hV
  obtain ⟨A0, n0, c0, z0, rfl, hz0⟩ := open_slv (m := 3) (k := 1) Try.underlying28 (by kernel_rfl) (by kernel_rfl) (by omega) (hval 0 28 v0 rfl rfl) h0
  clear hA0 hval0
  refine (law_any A0 n0 c0 z0 W hz0).mono fun e W' ⟨he, hb⟩ => ?_
  subst he
  exact ⟨_, rfl, law_post laidOut (by kernel_rfl) rfl Try.underlying4 rfl hW' hb rfl rfl rfl⟩
theorem holds : Rows.FnExactRowSlotSaid :=
  OpenClaim.holds_of_wide 5 Try.f5 rfl rfl rfl rfl rfl rfl rfl ⟨rfl, rfl, rfl, rfl, rfl⟩ rfl rfl rfl rfl rfl (by kernel_rfl) Try.func5 (by kernel_rfl)
    (of_decide_eq_true (by kernel_rfl)) (by unfold Func.isWrapper; first | (rw [if_pos (by decide +kernel)]; kernel_rfl) | (rw [if_neg (by decide +kernel)]; exact ⟨rfl, rfl⟩))
    (fun os started H enc _ => lifted os started H enc)
#print axioms holds
end RowSlot
end Go.Proofs.Ytgnilmdaegnaaaa
