/- The law FnExactEntryOk returns true for every input. No conditions. -/
import Derived.Test.YtcbaokkflkpndaaConv
import Derived.Test.YtcbaokkflkpndaaPost
set_option linter.unusedSimpArgs false
set_option linter.unusedVariables false
namespace Go.Proofs.Ytcbaokkflkpndaa
open Go.ChangeShapes Go.WideShapes Go.ChangeAt Go.RowKit
namespace EntryOk
set_option maxHeartbeats 1000000 in
theorem law_any (i t c s k a b cc d : Int) (w : World) : Calls Try.prog 6 #[.agg #[.int .i64 i, .int .i64 t, .int .i64 c, .int .i64 s, .int .i64 k, .int .i64 a, .int .i64 b, .int .i64 cc, .int .i64 d]] w fun e w' => e = .returned (.bool true) ∧ Below w.heap.size w w' := by
  go_enter Try.func6, Try.ntmps6
  go_wp2_with fail
  (with_reducible refine (toEntry_any _ _ _ _ _ _ _ _ _ _).mono ?_); rintro e w1 ⟨rfl, b1⟩; obtain ⟨b1_c, b1_f⟩ := bcell b1; have b1_z := b1.size; try simp only [World.heap_size_alloc, World.heap_size_drew] at b1_z
  first | (have b1_z0 : w.heap.size < w1.heap.size := by omega) | skip
  first | (have b1_z1 : w.heap.size + 1 < w1.heap.size := by omega) | skip
  first | (have b1_z2 : w.heap.size + 1 + 1 < w1.heap.size := by omega) | skip
  go_wp2_with fail
  (with_reducible refine (sEntryOk_any _ _ _ _ _ _ _ _ _ _).mono ?_); rintro e w2 ⟨rfl, b2⟩; obtain ⟨b2_c, b2_f⟩ := bcell b2; have b2_z := b2.size; try simp only [World.heap_size_alloc, World.heap_size_drew] at b2_z
  first | (have b2_z0 : w.heap.size < w2.heap.size := by omega) | skip
  first | (have b2_z1 : w.heap.size + 1 < w2.heap.size := by omega) | skip
  first | (have b2_z2 : w.heap.size + 1 + 1 < w2.heap.size := by omega) | skip
  go_wp2_with fail
  (with_reducible refine (toEntry_any _ _ _ _ _ _ _ _ _ _).mono ?_); rintro e w3 ⟨rfl, b3⟩; obtain ⟨b3_c, b3_f⟩ := bcell b3; have b3_z := b3.size; try simp only [World.heap_size_alloc, World.heap_size_drew] at b3_z
  first | (have b3_z0 : w.heap.size < w3.heap.size := by omega) | skip
  first | (have b3_z1 : w.heap.size + 1 < w3.heap.size := by omega) | skip
  first | (have b3_z2 : w.heap.size + 1 + 1 < w3.heap.size := by omega) | skip
  go_wp2_with fail
  (with_reducible refine (entryOk_any _ _ _ _ _ _ _ _ _ _).mono ?_); rintro e w4 ⟨rfl, b4⟩; obtain ⟨b4_c, b4_f⟩ := bcell b4; have b4_z := b4.size; try simp only [World.heap_size_alloc, World.heap_size_drew] at b4_z
  first | (have b4_z0 : w.heap.size < w4.heap.size := by omega) | skip
  first | (have b4_z1 : w.heap.size + 1 < w4.heap.size := by omega) | skip
  first | (have b4_z2 : w.heap.size + 1 + 1 < w4.heap.size := by omega) | skip
  go_wp2_with fail
  go_ret
  refine ⟨rfl, ?_⟩
  clear b1_c b1_f b2_c b2_f b3_c b3_f b4_c b4_f
  (repeat' (first | with_reducible exact Below.refl _ _ | with_reducible assumption | with_reducible refine Below.drew ?_ | with_reducible refine Below.alloc ?_ ?_ _ | with_reducible refine Below.setCell ?_ ?_ _ | with_reducible refine Below.trans ?_ (Below.mono (by assumption) ?_) | ((try simp only [World.heap_size_alloc, World.heap_size_drew, World.heap_size_setCell]); omega)))

theorem own : ownKnob Try.prog.godebug = none := by kernel_rfl
theorem laidOut : laidOutB Try.prog = true := by kernel_rfl
set_option maxRecDepth 100000 in
theorem lifted (os : Os) (started : os.Started) (H : Type) (enc : TypeId × Value → H) :
    ReturnsInHanded {} Try.checked os 6 .any (Rows.fnExactEntryOkSpec.pre6 enc Try.prog Try.f6 Rows.fnExactEntryOkRow.domain false) (Rows.fnExactEntryOkSpec.post enc Try.prog Try.f6 false true false false) := by
  refine returnsInHanded_of_change (C := Try.checked) own started (by kernel_rfl) Try.func6
    (ChangeSpec.witness6 (enc := enc) (C := Try.checked) false ⟨#[], #[.agg #[.int .i64 0, .int .i64 0, .int .i64 0, .int .i64 0, .int .i64 0, .int .i64 0, .int .i64 0, .int .i64 0, .int .i64 0]], []⟩ 8 (by kernel_rfl) (by kernel_rfl) (by kernel_rfl) (by kernel_rfl)) ?_
  intro W base args ds gs before hval0 hW hcnd _
  have hval : ∀ (j : Nat) t v, Try.f6.params[j]? = some t → args[j]? = some v → Value.okWide Try.prog W .any base t v := hval0
  have hW' := hW
  obtain ⟨p, q, hA0, hV, rfl, hfz, hnd⟩ := hW
  have hA : DataW.TrodAll enc Try.prog W 0 (fun _ => true) true Try.f6.params.toList args.toList ds p := hA0
  rw [Try.params6] at hA hval
  obtain ⟨v0, d0, rfl, rfl, h0⟩ := trodAll_one hA
  obtain ⟨rfl, rfl⟩ := trodVars_none hV
  obtain ⟨z0, rfl, hz0⟩ := open_flat (n := 3) Try.underlying31 (by kernel_rfl) (hval 0 31 v0 rfl rfl) h0
  obtain ⟨y0_0, y0_1, y0_2, y0_3, y0_4, y0_5, y0_6, y0_7, y0_8, rfl⟩ := list9 (hz0.trans (by kernel_rfl : Try.prog.cellsOf 31 = 9))
  clear hA0 hval0
  refine (law_any y0_0 y0_1 y0_2 y0_3 y0_4 y0_5 y0_6 y0_7 y0_8 W).mono fun e W' ⟨he, hb⟩ => ?_
  subst he
  exact ⟨_, rfl, law_post laidOut (by kernel_rfl) rfl Try.underlying4 rfl hW' hb rfl rfl rfl⟩
theorem holds : Rows.FnExactEntryOkSaid :=
  OpenClaim.holds_of_wide 6 Try.f6 rfl rfl rfl rfl rfl rfl rfl ⟨rfl, rfl, rfl, rfl, rfl⟩ rfl rfl rfl rfl rfl (by kernel_rfl) Try.func6 (by kernel_rfl)
    (of_decide_eq_true (by kernel_rfl)) (by unfold Func.isWrapper; first | (rw [if_pos (by decide +kernel)]; kernel_rfl) | (rw [if_neg (by decide +kernel)]; exact ⟨rfl, rfl⟩))
    (fun os started H enc _ => lifted os started H enc)
#print axioms holds
end EntryOk
end Go.Proofs.Ytcbaokkflkpndaa
