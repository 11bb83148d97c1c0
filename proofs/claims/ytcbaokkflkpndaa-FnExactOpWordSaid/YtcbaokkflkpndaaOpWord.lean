/- The law FnExactOpWord returns true for every input. No conditions. -/
import Derived.Test.YtcbaokkflkpndaaScal
import Derived.Test.YtcbaokkflkpndaaPost
set_option linter.unusedSimpArgs false
set_option linter.unusedVariables false
namespace Go.Proofs.Ytcbaokkflkpndaa
open Go.ChangeShapes Go.WideShapes Go.ChangeAt Go.RowKit
namespace OpWord
def word (k : Int) : ByteArray :=
  if k = 1 then ⟨#[112, 117, 116]⟩ else if k = 2 then ⟨#[99, 117, 116]⟩ else if k = 3 then ⟨#[106, 111, 98]⟩ else if k = 4 then ⟨#[102, 105, 114, 101]⟩ else if k = 5 then ⟨#[108, 101, 97, 115, 101]⟩ else ⟨#[]⟩
set_option maxHeartbeats 1000000 in
theorem word_any (k : Int) (w : World) : Calls Try.prog 18 #[.int .i64 k] w fun e w' => e = .returned (.string (word k)) ∧ w = w' := by
  go_enter Try.func18, Try.ntmps18
  go_wp2
  all_goals (go_ret; exact ⟨by simp_all [word], rfl⟩)
set_option maxHeartbeats 1000000 in
theorem sWord_any (k : Int) (w : World) : Calls Try.prog 17 #[.int .i64 k] w fun e w' => e = .returned (.string (word k)) ∧ Below w.heap.size w w' := by
  by_cases h : btw k 1 5 = true
  · have h' := btw_iff.1 h
    obtain rfl | rfl | rfl | rfl | rfl : k = 1 ∨ k = 2 ∨ k = 3 ∨ k = 4 ∨ k = 5 := by omega
    all_goals
      go_enter Try.func17, Try.ntmps17
      go_wp2_with ((go_at_call 54; refine (l1In_any _ _ _ _).mono ?_; rintro e w' ⟨rfl, rfl⟩))
      go_ret
      exact ⟨rfl, by (repeat' (first | with_reducible exact Below.refl _ _ | with_reducible assumption | with_reducible refine Below.drew ?_ | with_reducible refine Below.alloc ?_ ?_ _ | with_reducible refine Below.setCell ?_ ?_ _ | with_reducible refine Below.trans ?_ (Below.mono (by assumption) ?_) | ((try simp only [World.heap_size_alloc, World.heap_size_drew, World.heap_size_setCell]); omega)))⟩
  · have hn : word k = ⟨#[]⟩ := by
      have : ¬ (1 ≤ k ∧ k ≤ 5) := fun hh => h (btw_iff.2 hh)
      unfold word
      rw [if_neg (by omega), if_neg (by omega), if_neg (by omega), if_neg (by omega), if_neg (by omega)]
    have H := Lib.hid hn
    have hb : btw k 1 5 = false := by simpa using h
    clear hn h
    go_enter Try.func17, Try.ntmps17
    go_wp2_with ((go_at_call 54; refine (l1In_any _ _ _ _).mono ?_; rintro e w' ⟨rfl, rfl⟩))
    go_ret
    rw [H.out]
    exact ⟨rfl, by (repeat' (first | with_reducible exact Below.refl _ _ | with_reducible assumption | with_reducible refine Below.drew ?_ | with_reducible refine Below.alloc ?_ ?_ _ | with_reducible refine Below.setCell ?_ ?_ _ | with_reducible refine Below.trans ?_ (Below.mono (by assumption) ?_) | ((try simp only [World.heap_size_alloc, World.heap_size_drew, World.heap_size_setCell]); omega)))⟩
set_option maxHeartbeats 1000000 in
theorem law_any (k : Int) (w : World) : Calls Try.prog 4 #[.int .i64 k] w fun e w' => e = .returned (.bool true) ∧ Below w.heap.size w w' := by
  go_enter Try.func4, Try.ntmps4
  go_wp2_with fail
  (with_reducible refine (sWord_any _ _).mono ?_); rintro e w1 ⟨rfl, b1⟩; obtain ⟨b1_c, b1_f⟩ := bcell b1; have b1_z := b1.size; try simp only [World.heap_size_alloc, World.heap_size_drew] at b1_z
  first | (have b1_z0 : w.heap.size < w1.heap.size := by omega) | skip
  first | (have b1_z1 : w.heap.size + 1 < w1.heap.size := by omega) | skip
  first | (have b1_z2 : w.heap.size + 1 + 1 < w1.heap.size := by omega) | skip
  go_wp2_with fail
  (with_reducible refine (word_any _ _).mono ?_); rintro e w2 ⟨rfl, rfl⟩
  go_wp2_with fail
  go_ret
  refine ⟨rfl, ?_⟩
  clear b1_c b1_f
  (repeat' (first | with_reducible exact Below.refl _ _ | with_reducible assumption | with_reducible refine Below.drew ?_ | with_reducible refine Below.alloc ?_ ?_ _ | with_reducible refine Below.setCell ?_ ?_ _ | with_reducible refine Below.trans ?_ (Below.mono (by assumption) ?_) | ((try simp only [World.heap_size_alloc, World.heap_size_drew, World.heap_size_setCell]); omega)))
theorem own : ownKnob Try.prog.godebug = none := by kernel_rfl
theorem laidOut : laidOutB Try.prog = true := by kernel_rfl
set_option maxRecDepth 100000 in
theorem lifted (os : Os) (started : os.Started) (H : Type) (enc : TypeId × Value → H) :
    ReturnsInHanded {} Try.checked os 4 .any (Rows.fnExactOpWordSpec.pre6 enc Try.prog Try.f4 Rows.fnExactOpWordRow.domain false) (Rows.fnExactOpWordSpec.post enc Try.prog Try.f4 false true false false) := by
  refine returnsInHanded_of_change (C := Try.checked) own started (by kernel_rfl) Try.func4
    (ChangeSpec.witness6 (enc := enc) (C := Try.checked) false ⟨#[], #[.int .i64 0], []⟩ 8 (by kernel_rfl) (by kernel_rfl) (by kernel_rfl) (by kernel_rfl)) ?_
  intro W base args ds gs before hval0 hW hcnd _
  have hval : ∀ (j : Nat) t v, Try.f4.params[j]? = some t → args[j]? = some v → Value.okWide Try.prog W .any base t v := hval0
  have hW' := hW
  obtain ⟨p, q, hA0, hV, rfl, hfz, hnd⟩ := hW
  have hA : DataW.TrodAll enc Try.prog W 0 (fun _ => true) true Try.f4.params.toList args.toList ds p := hA0
  rw [Try.params4] at hA hval
  obtain ⟨v0, d0, rfl, rfl, h0⟩ := trodAll_one hA
  obtain ⟨rfl, rfl⟩ := trodVars_none hV
  obtain ⟨x0, rfl, rfl, rfl, wx0⟩ := open_int Try.underlying2 (hval 0 2 v0 rfl rfl) h0
  clear hA0 hval0
  refine (law_any x0 W).mono fun e W' ⟨he, hb⟩ => ?_
  subst he
  exact ⟨_, rfl, law_post laidOut (by kernel_rfl) rfl Try.underlying4 rfl hW' hb rfl rfl rfl⟩
theorem holds : Rows.FnExactOpWordSaid :=
  OpenClaim.holds_of_wide 4 Try.f4 rfl rfl rfl rfl rfl rfl rfl ⟨rfl, rfl, rfl, rfl, rfl⟩ rfl rfl rfl rfl rfl (by kernel_rfl) Try.func4 (by kernel_rfl)
    (of_decide_eq_true (by kernel_rfl)) (by unfold Func.isWrapper; first | (rw [if_pos (by decide +kernel)]; kernel_rfl) | (rw [if_neg (by decide +kernel)]; exact ⟨rfl, rfl⟩))
    (fun os started H enc _ => lifted os started H enc)
#print axioms holds
end OpWord
end Go.Proofs.Ytcbaokkflkpndaa
