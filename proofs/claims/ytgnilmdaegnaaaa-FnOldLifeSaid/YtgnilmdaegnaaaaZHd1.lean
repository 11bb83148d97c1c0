/- Heads by value: what the laws' helpers do with them; which are valid. No conditions. -/
import Derived.Test.YtgnilmdaegnaaaaZHelp1
import Derived.Test.YtgnilmdaegnaaaaZSeen4
import Derived.Lib.SmallJoins
set_option linter.unusedSimpArgs false
set_option linter.unusedVariables false
namespace Go.Proofs.Ytgnilmdaegnaaaa
open Go.RowKit
/-- A fresh Head and a truth. -/
def HeadBRes (w : World) (i0 i1 i2 : Int) (n : Nat) (zs : List Int) (b : Bool) (e : Ending) (w' : World) : Prop :=
  ∃ A c, e = .returned (.tuple #[.agg #[.int .i64 i0, .int .i64 i1, .int .i64 i2, .slice A n c], .bool b]) ∧ Sl w' w.heap.size w'.heap.size 3 A n c zs ∧ Below w.heap.size w w'
section
variable {H : Type} {enc : TypeId × Value → H} {P : Program}
open Go.ChangeShapes Go.WideShapes Go.ChangeAt Go.Joins Go.Deep
end
def headOk (u b t : Int) (l : List MarkD) : Bool := btw b 0 2000 && (btw u 0 b && (btw t 0 1000000 && ((decide (0 < b) || t == 0) && (seenOk l && (lastSeen l == b)))))
set_option maxRecDepth 100000 in
set_option maxHeartbeats 4000000 in
theorem headOk_any (u b t : Int) (A : Option Addr) (n c lo hi : Nat) (l : List MarkD) (w : World) (h : Sl w lo hi 3 A n c (l.flatMap MarkD.ints)) :
    Calls Try.prog 29 #[.agg #[.int .i64 u, .int .i64 b, .int .i64 t, .slice A n c]] w (BoolRes w (headOk u b t l)) := by
  replace h := h.fit (by omega)
  have hhi : min hi w.heap.size ≤ w.heap.size := Nat.min_le_right _ _
  generalize min hi w.heap.size = hi at h hhi
  cases hB : btw b 0 2000 with
  | false =>
    have e0 : headOk u b t l = false := by simp [headOk, hB]
    rw [e0]
    have CB1 : ∀ W, Calls Try.prog 86 #[.int .i64 b, .int .i64 0, .int .i64 2000] W fun x w' => x = .returned (.bool false) ∧ Below W.heap.size W w' := fun W => (between_any b 0 2000 W).mono fun x w' ⟨h1, h2⟩ => ⟨by rw [h1, hB], by rw [← h2]; exact Below.refl _ _⟩
    have HB1 := Lib.hid CB1
    clear CB1
    clear hB e0
    go_enter Try.func29, Try.ntmps29
    go_wp2_with fail
    have v0 : (w.alloc (.cells #[.int .i64 u, .int .i64 b, .int .i64 t, .slice A n c] 49)).cell? ⟨w.heap.size, 0, none⟩ = some (.int .i64 u) := by simp
    have fv0 := fun d os => cell_regrown v0 d os
    have v1 : (w.alloc (.cells #[.int .i64 u, .int .i64 b, .int .i64 t, .slice A n c] 49)).cell? ⟨w.heap.size, 1, none⟩ = some (.int .i64 b) := by simp
    have fv1 := fun d os => cell_regrown v1 d os
    have v2 : (w.alloc (.cells #[.int .i64 u, .int .i64 b, .int .i64 t, .slice A n c] 49)).cell? ⟨w.heap.size, 2, none⟩ = some (.int .i64 t) := by simp
    have fv2 := fun d os => cell_regrown v2 d os
    have v3 : (w.alloc (.cells #[.int .i64 u, .int .i64 b, .int .i64 t, .slice A n c] 49)).cell? ⟨w.heap.size, 3, none⟩ = some (.slice A n c) := by simp
    have fv3 := fun d os => cell_regrown v3 d os
    have S0 := Lib.hid (h.below (B := w.heap.size) (w' := (w.alloc (.cells #[.int .i64 u, .int .i64 b, .int .i64 t, .slice A n c] 49))) (by (repeat' (first | with_reducible exact Below.refl _ _ | with_reducible assumption | with_reducible refine Below.drew ?_ | with_reducible refine Below.alloc ?_ ?_ _ | with_reducible refine Below.setCell ?_ ?_ _ | with_reducible refine Below.trans ?_ (Below.mono (by assumption) ?_) | ((try simp only [World.heap_size_alloc, World.heap_size_drew, World.heap_size_setCell]); omega)))) hhi)
    have hhi1 : hi ≤ (w.alloc (.cells #[.int .i64 u, .int .i64 b, .int .i64 t, .slice A n c] 49)).heap.size := by (try simp only [World.heap_size_alloc, World.heap_size_drew, World.heap_size_setCell]); omega
    have hbw : Below w.heap.size w (w.alloc (.cells #[.int .i64 u, .int .i64 b, .int .i64 t, .slice A n c] 49)) := by (repeat' (first | with_reducible exact Below.refl _ _ | with_reducible assumption | with_reducible refine Below.drew ?_ | with_reducible refine Below.alloc ?_ ?_ _ | with_reducible refine Below.setCell ?_ ?_ _ | with_reducible refine Below.trans ?_ (Below.mono (by assumption) ?_) | ((try simp only [World.heap_size_alloc, World.heap_size_drew, World.heap_size_setCell]); omega)))
    refine wp_region_quiet_below (by kernel_rfl) (by kernel_rfl) ?_; (repeat (first | go_big_quiet_step ((first | (go_at_call 86; with_reducible exact Calls.regrown_of (HB1.out _)))) | quiet_step ((first | (go_at_call 86; with_reducible exact Calls.regrown_of (HB1.out _)))))); refine wpQuiet_nil ?_; intro _ hw'; obtain ⟨⟨nq, osq⟩, hw''⟩ := hw'; subst hw''; have hq := below_regrown (w.alloc (.cells #[.int .i64 u, .int .i64 b, .int .i64 t, .slice A n c] 49)) nq osq; generalize Sort.grow (redrawn (w.alloc (.cells #[.int .i64 u, .int .i64 b, .int .i64 t, .slice A n c] 49)) nq) osq = w3 at *
    have hw3 : Below w.heap.size w w3 := hbw.trans (hq.mono (by (try simp only [World.heap_size_alloc, World.heap_size_drew, World.heap_size_setCell]); omega))
    go_wp2
    go_ret
    exact ⟨by simp, hw3⟩
  | true =>
    obtain ⟨hb0, hb1⟩ := btw_iff.1 hB
    cases hU : btw u 0 b with
    | false =>
      have e0 : headOk u b t l = false := by simp [headOk, hU]
      rw [e0]
      have CB1 : ∀ W, Calls Try.prog 86 #[.int .i64 b, .int .i64 0, .int .i64 2000] W fun x w' => x = .returned (.bool true) ∧ Below W.heap.size W w' := fun W => (between_any b 0 2000 W).mono fun x w' ⟨h1, h2⟩ => ⟨by rw [h1, hB], by rw [← h2]; exact Below.refl _ _⟩
      have HB1 := Lib.hid CB1
      clear CB1
      have CB2 : ∀ W, Calls Try.prog 86 #[.int .i64 u, .int .i64 0, .int .i64 b] W fun x w' => x = .returned (.bool false) ∧ Below W.heap.size W w' := fun W => (between_any u 0 b W).mono fun x w' ⟨h1, h2⟩ => ⟨by rw [h1, hU], by rw [← h2]; exact Below.refl _ _⟩
      have HB2 := Lib.hid CB2
      clear CB2
      clear hB hU e0
      go_enter Try.func29, Try.ntmps29
      go_wp2_with fail
      have v0 : (w.alloc (.cells #[.int .i64 u, .int .i64 b, .int .i64 t, .slice A n c] 49)).cell? ⟨w.heap.size, 0, none⟩ = some (.int .i64 u) := by simp
      have fv0 := fun d os => cell_regrown v0 d os
      have v1 : (w.alloc (.cells #[.int .i64 u, .int .i64 b, .int .i64 t, .slice A n c] 49)).cell? ⟨w.heap.size, 1, none⟩ = some (.int .i64 b) := by simp
      have fv1 := fun d os => cell_regrown v1 d os
      have v2 : (w.alloc (.cells #[.int .i64 u, .int .i64 b, .int .i64 t, .slice A n c] 49)).cell? ⟨w.heap.size, 2, none⟩ = some (.int .i64 t) := by simp
      have fv2 := fun d os => cell_regrown v2 d os
      have v3 : (w.alloc (.cells #[.int .i64 u, .int .i64 b, .int .i64 t, .slice A n c] 49)).cell? ⟨w.heap.size, 3, none⟩ = some (.slice A n c) := by simp
      have fv3 := fun d os => cell_regrown v3 d os
      have S0 := Lib.hid (h.below (B := w.heap.size) (w' := (w.alloc (.cells #[.int .i64 u, .int .i64 b, .int .i64 t, .slice A n c] 49))) (by (repeat' (first | with_reducible exact Below.refl _ _ | with_reducible assumption | with_reducible refine Below.drew ?_ | with_reducible refine Below.alloc ?_ ?_ _ | with_reducible refine Below.setCell ?_ ?_ _ | with_reducible refine Below.trans ?_ (Below.mono (by assumption) ?_) | ((try simp only [World.heap_size_alloc, World.heap_size_drew, World.heap_size_setCell]); omega)))) hhi)
      have hhi1 : hi ≤ (w.alloc (.cells #[.int .i64 u, .int .i64 b, .int .i64 t, .slice A n c] 49)).heap.size := by (try simp only [World.heap_size_alloc, World.heap_size_drew, World.heap_size_setCell]); omega
      have hbw : Below w.heap.size w (w.alloc (.cells #[.int .i64 u, .int .i64 b, .int .i64 t, .slice A n c] 49)) := by (repeat' (first | with_reducible exact Below.refl _ _ | with_reducible assumption | with_reducible refine Below.drew ?_ | with_reducible refine Below.alloc ?_ ?_ _ | with_reducible refine Below.setCell ?_ ?_ _ | with_reducible refine Below.trans ?_ (Below.mono (by assumption) ?_) | ((try simp only [World.heap_size_alloc, World.heap_size_drew, World.heap_size_setCell]); omega)))
      refine wp_region_quiet_below (by kernel_rfl) (by kernel_rfl) ?_; (repeat (first | go_big_quiet_step ((first | (go_at_call 86; with_reducible exact Calls.regrown_of (HB1.out _)) | (go_at_call 86; with_reducible exact Calls.regrown_of (HB2.out _)))) | quiet_step ((first | (go_at_call 86; with_reducible exact Calls.regrown_of (HB1.out _)) | (go_at_call 86; with_reducible exact Calls.regrown_of (HB2.out _)))))); refine wpQuiet_nil ?_; intro _ hw'; obtain ⟨⟨nq, osq⟩, hw''⟩ := hw'; subst hw''; have hq := below_regrown (w.alloc (.cells #[.int .i64 u, .int .i64 b, .int .i64 t, .slice A n c] 49)) nq osq; generalize Sort.grow (redrawn (w.alloc (.cells #[.int .i64 u, .int .i64 b, .int .i64 t, .slice A n c] 49)) nq) osq = w3 at *
      have hw3 : Below w.heap.size w w3 := hbw.trans (hq.mono (by (try simp only [World.heap_size_alloc, World.heap_size_drew, World.heap_size_setCell]); omega))
      go_wp2
      go_ret
      exact ⟨by simp, hw3⟩
    | true =>
      cases hT : btw t 0 1000000 with
      | false =>
        have e0 : headOk u b t l = false := by simp [headOk, hT]
        rw [e0]
        have CB1 : ∀ W, Calls Try.prog 86 #[.int .i64 b, .int .i64 0, .int .i64 2000] W fun x w' => x = .returned (.bool true) ∧ Below W.heap.size W w' := fun W => (between_any b 0 2000 W).mono fun x w' ⟨h1, h2⟩ => ⟨by rw [h1, hB], by rw [← h2]; exact Below.refl _ _⟩
        have HB1 := Lib.hid CB1
        clear CB1
        have CB2 : ∀ W, Calls Try.prog 86 #[.int .i64 u, .int .i64 0, .int .i64 b] W fun x w' => x = .returned (.bool true) ∧ Below W.heap.size W w' := fun W => (between_any u 0 b W).mono fun x w' ⟨h1, h2⟩ => ⟨by rw [h1, hU], by rw [← h2]; exact Below.refl _ _⟩
        have HB2 := Lib.hid CB2
        clear CB2
        have CT : ∀ W, Calls Try.prog 87 #[.int .i64 t] W fun x w' => x = .returned (.bool false) ∧ Below W.heap.size W w' := fun W => (timeOk_any t W).mono fun x w' ⟨h1, h2⟩ => ⟨by rw [h1, hT], by rw [← h2]; exact Below.refl _ _⟩
        have HT := Lib.hid CT
        clear CT
        clear hB hU hT e0
        go_enter Try.func29, Try.ntmps29
        go_wp2_with fail
        have v0 : (w.alloc (.cells #[.int .i64 u, .int .i64 b, .int .i64 t, .slice A n c] 49)).cell? ⟨w.heap.size, 0, none⟩ = some (.int .i64 u) := by simp
        have fv0 := fun d os => cell_regrown v0 d os
        have v1 : (w.alloc (.cells #[.int .i64 u, .int .i64 b, .int .i64 t, .slice A n c] 49)).cell? ⟨w.heap.size, 1, none⟩ = some (.int .i64 b) := by simp
        have fv1 := fun d os => cell_regrown v1 d os
        have v2 : (w.alloc (.cells #[.int .i64 u, .int .i64 b, .int .i64 t, .slice A n c] 49)).cell? ⟨w.heap.size, 2, none⟩ = some (.int .i64 t) := by simp
        have fv2 := fun d os => cell_regrown v2 d os
        have v3 : (w.alloc (.cells #[.int .i64 u, .int .i64 b, .int .i64 t, .slice A n c] 49)).cell? ⟨w.heap.size, 3, none⟩ = some (.slice A n c) := by simp
        have fv3 := fun d os => cell_regrown v3 d os
        have S0 := Lib.hid (h.below (B := w.heap.size) (w' := (w.alloc (.cells #[.int .i64 u, .int .i64 b, .int .i64 t, .slice A n c] 49))) (by (repeat' (first | with_reducible exact Below.refl _ _ | with_reducible assumption | with_reducible refine Below.drew ?_ | with_reducible refine Below.alloc ?_ ?_ _ | with_reducible refine Below.setCell ?_ ?_ _ | with_reducible refine Below.trans ?_ (Below.mono (by assumption) ?_) | ((try simp only [World.heap_size_alloc, World.heap_size_drew, World.heap_size_setCell]); omega)))) hhi)
        have hhi1 : hi ≤ (w.alloc (.cells #[.int .i64 u, .int .i64 b, .int .i64 t, .slice A n c] 49)).heap.size := by (try simp only [World.heap_size_alloc, World.heap_size_drew, World.heap_size_setCell]); omega
        have hbw : Below w.heap.size w (w.alloc (.cells #[.int .i64 u, .int .i64 b, .int .i64 t, .slice A n c] 49)) := by (repeat' (first | with_reducible exact Below.refl _ _ | with_reducible assumption | with_reducible refine Below.drew ?_ | with_reducible refine Below.alloc ?_ ?_ _ | with_reducible refine Below.setCell ?_ ?_ _ | with_reducible refine Below.trans ?_ (Below.mono (by assumption) ?_) | ((try simp only [World.heap_size_alloc, World.heap_size_drew, World.heap_size_setCell]); omega)))
        refine wp_region_quiet_below (by kernel_rfl) (by kernel_rfl) ?_; (repeat (first | go_big_quiet_step ((first | (go_at_call 86; with_reducible exact Calls.regrown_of (HB1.out _)) | (go_at_call 86; with_reducible exact Calls.regrown_of (HB2.out _)) | (go_at_call 87; with_reducible exact Calls.regrown_of (HT.out _)))) | quiet_step ((first | (go_at_call 86; with_reducible exact Calls.regrown_of (HB1.out _)) | (go_at_call 86; with_reducible exact Calls.regrown_of (HB2.out _)) | (go_at_call 87; with_reducible exact Calls.regrown_of (HT.out _)))))); refine wpQuiet_nil ?_; intro _ hw'; obtain ⟨⟨nq, osq⟩, hw''⟩ := hw'; subst hw''; have hq := below_regrown (w.alloc (.cells #[.int .i64 u, .int .i64 b, .int .i64 t, .slice A n c] 49)) nq osq; generalize Sort.grow (redrawn (w.alloc (.cells #[.int .i64 u, .int .i64 b, .int .i64 t, .slice A n c] 49)) nq) osq = w3 at *
        have hw3 : Below w.heap.size w w3 := hbw.trans (hq.mono (by (try simp only [World.heap_size_alloc, World.heap_size_drew, World.heap_size_setCell]); omega))
        go_wp2
        go_ret
        exact ⟨by simp, hw3⟩
      | true =>
        by_cases hZ : 0 < b ∨ t = 0
        · have HZ := Lib.hid hZ
          clear hZ
          by_cases hb9 : 0 < b
          · have hb8 : decide (0 < b) = true := by simpa using hb9
            have HB9 := Lib.hid hb9
            clear hb9
            cases hS : seenOk l with
            | false =>
              have e0 : headOk u b t l = false := by simp [headOk, hS]
              rw [e0]
              have CB1 : ∀ W, Calls Try.prog 86 #[.int .i64 b, .int .i64 0, .int .i64 2000] W fun x w' => x = .returned (.bool true) ∧ Below W.heap.size W w' := fun W => (between_any b 0 2000 W).mono fun x w' ⟨h1, h2⟩ => ⟨by rw [h1, hB], by rw [← h2]; exact Below.refl _ _⟩
              have HB1 := Lib.hid CB1
              clear CB1
              have CB2 : ∀ W, Calls Try.prog 86 #[.int .i64 u, .int .i64 0, .int .i64 b] W fun x w' => x = .returned (.bool true) ∧ Below W.heap.size W w' := fun W => (between_any u 0 b W).mono fun x w' ⟨h1, h2⟩ => ⟨by rw [h1, hU], by rw [← h2]; exact Below.refl _ _⟩
              have HB2 := Lib.hid CB2
              clear CB2
              have CT : ∀ W, Calls Try.prog 87 #[.int .i64 t] W fun x w' => x = .returned (.bool true) ∧ Below W.heap.size W w' := fun W => (timeOk_any t W).mono fun x w' ⟨h1, h2⟩ => ⟨by rw [h1, hT], by rw [← h2]; exact Below.refl _ _⟩
              have HT := Lib.hid CT
              clear CT
              have CO : ∀ W, Sl W lo hi 3 A n c (l.flatMap MarkD.ints) → Calls Try.prog 88 #[.slice A n c] W fun x w' => x = .returned (.bool false) ∧ Below W.heap.size W w' := fun W s => by
                have h7 := seenOk_any A n c lo hi l W s
                rw [hS] at h7
                exact h7
              have HO := Lib.hid CO
              clear CO
              clear hB hU hT hS e0
              go_enter Try.func29, Try.ntmps29
              go_wp2_with fail
              have v0 : (w.alloc (.cells #[.int .i64 u, .int .i64 b, .int .i64 t, .slice A n c] 49)).cell? ⟨w.heap.size, 0, none⟩ = some (.int .i64 u) := by simp
              have fv0 := fun d os => cell_regrown v0 d os
              have v1 : (w.alloc (.cells #[.int .i64 u, .int .i64 b, .int .i64 t, .slice A n c] 49)).cell? ⟨w.heap.size, 1, none⟩ = some (.int .i64 b) := by simp
              have fv1 := fun d os => cell_regrown v1 d os
              have v2 : (w.alloc (.cells #[.int .i64 u, .int .i64 b, .int .i64 t, .slice A n c] 49)).cell? ⟨w.heap.size, 2, none⟩ = some (.int .i64 t) := by simp
              have fv2 := fun d os => cell_regrown v2 d os
              have v3 : (w.alloc (.cells #[.int .i64 u, .int .i64 b, .int .i64 t, .slice A n c] 49)).cell? ⟨w.heap.size, 3, none⟩ = some (.slice A n c) := by simp
              have fv3 := fun d os => cell_regrown v3 d os
              have S0 := Lib.hid (h.below (B := w.heap.size) (w' := (w.alloc (.cells #[.int .i64 u, .int .i64 b, .int .i64 t, .slice A n c] 49))) (by (repeat' (first | with_reducible exact Below.refl _ _ | with_reducible assumption | with_reducible refine Below.drew ?_ | with_reducible refine Below.alloc ?_ ?_ _ | with_reducible refine Below.setCell ?_ ?_ _ | with_reducible refine Below.trans ?_ (Below.mono (by assumption) ?_) | ((try simp only [World.heap_size_alloc, World.heap_size_drew, World.heap_size_setCell]); omega)))) hhi)
              have hhi1 : hi ≤ (w.alloc (.cells #[.int .i64 u, .int .i64 b, .int .i64 t, .slice A n c] 49)).heap.size := by (try simp only [World.heap_size_alloc, World.heap_size_drew, World.heap_size_setCell]); omega
              have hbw : Below w.heap.size w (w.alloc (.cells #[.int .i64 u, .int .i64 b, .int .i64 t, .slice A n c] 49)) := by (repeat' (first | with_reducible exact Below.refl _ _ | with_reducible assumption | with_reducible refine Below.drew ?_ | with_reducible refine Below.alloc ?_ ?_ _ | with_reducible refine Below.setCell ?_ ?_ _ | with_reducible refine Below.trans ?_ (Below.mono (by assumption) ?_) | ((try simp only [World.heap_size_alloc, World.heap_size_drew, World.heap_size_setCell]); omega)))
              refine wp_region_quiet_below (by kernel_rfl) (by kernel_rfl) ?_; (repeat (first | go_big_quiet_step ((first | (go_at_call 86; with_reducible exact Calls.regrown_of (HB1.out _)) | (go_at_call 86; with_reducible exact Calls.regrown_of (HB2.out _)) | (go_at_call 87; with_reducible exact Calls.regrown_of (HT.out _)) | (go_at_call 88; with_reducible exact Calls.regrown_of (HO.out _ (S0.out.below (below_regrown _ _ _) hhi1))))) | quiet_step ((first | (go_at_call 86; with_reducible exact Calls.regrown_of (HB1.out _)) | (go_at_call 86; with_reducible exact Calls.regrown_of (HB2.out _)) | (go_at_call 87; with_reducible exact Calls.regrown_of (HT.out _)) | (go_at_call 88; with_reducible exact Calls.regrown_of (HO.out _ (S0.out.below (below_regrown _ _ _) hhi1))))))); refine wpQuiet_nil ?_; intro _ hw'; obtain ⟨⟨nq, osq⟩, hw''⟩ := hw'; subst hw''; have hq := below_regrown (w.alloc (.cells #[.int .i64 u, .int .i64 b, .int .i64 t, .slice A n c] 49)) nq osq; generalize Sort.grow (redrawn (w.alloc (.cells #[.int .i64 u, .int .i64 b, .int .i64 t, .slice A n c] 49)) nq) osq = w3 at *
              have hw3 : Below w.heap.size w w3 := hbw.trans (hq.mono (by (try simp only [World.heap_size_alloc, World.heap_size_drew, World.heap_size_setCell]); omega))
              go_wp2
              go_ret
              exact ⟨by simp, hw3⟩
            | true =>
              have e0 : headOk u b t l = (lastIdx l == b) := by
                have h9 : (decide (0 < b) || t == 0) = true := by simpa using HZ.out
                have h8 : lastSeen l = lastIdx l := by simp [lastSeen, hS]
                simp only [headOk, hB, hU, hT, h9, hS, h8, Bool.true_and]
              rw [e0]
              have CB1 : ∀ W, Calls Try.prog 86 #[.int .i64 b, .int .i64 0, .int .i64 2000] W fun x w' => x = .returned (.bool true) ∧ Below W.heap.size W w' := fun W => (between_any b 0 2000 W).mono fun x w' ⟨h1, h2⟩ => ⟨by rw [h1, hB], by rw [← h2]; exact Below.refl _ _⟩
              have HB1 := Lib.hid CB1
              clear CB1
              have CB2 : ∀ W, Calls Try.prog 86 #[.int .i64 u, .int .i64 0, .int .i64 b] W fun x w' => x = .returned (.bool true) ∧ Below W.heap.size W w' := fun W => (between_any u 0 b W).mono fun x w' ⟨h1, h2⟩ => ⟨by rw [h1, hU], by rw [← h2]; exact Below.refl _ _⟩
              have HB2 := Lib.hid CB2
              clear CB2
              have CT : ∀ W, Calls Try.prog 87 #[.int .i64 t] W fun x w' => x = .returned (.bool true) ∧ Below W.heap.size W w' := fun W => (timeOk_any t W).mono fun x w' ⟨h1, h2⟩ => ⟨by rw [h1, hT], by rw [← h2]; exact Below.refl _ _⟩
              have HT := Lib.hid CT
              clear CT
              have CO : ∀ W, Sl W lo hi 3 A n c (l.flatMap MarkD.ints) → Calls Try.prog 88 #[.slice A n c] W fun x w' => x = .returned (.bool true) ∧ Below W.heap.size W w' := fun W s => by
                have h7 := seenOk_any A n c lo hi l W s
                rw [hS] at h7
                exact h7
              have HO := Lib.hid CO
              clear CO
              have CL : ∀ W, Sl W lo hi 3 A n c (l.flatMap MarkD.ints) → Calls Try.prog 89 #[.slice A n c] W fun x w' => x = .returned (.int .i64 (lastIdx l)) ∧ Below W.heap.size W w' := fun W s => by
                have h7 := lastIdx_any A n c lo hi l W s
                exact h7
              have HL9 := Lib.hid CL
              clear CL
              generalize lastIdx l = x at HL9
              clear hB hU hT hS e0
              go_enter Try.func29, Try.ntmps29
              go_wp2_with fail
              have v0 : (w.alloc (.cells #[.int .i64 u, .int .i64 b, .int .i64 t, .slice A n c] 49)).cell? ⟨w.heap.size, 0, none⟩ = some (.int .i64 u) := by simp
              have fv0 := fun d os => cell_regrown v0 d os
              have v1 : (w.alloc (.cells #[.int .i64 u, .int .i64 b, .int .i64 t, .slice A n c] 49)).cell? ⟨w.heap.size, 1, none⟩ = some (.int .i64 b) := by simp
              have fv1 := fun d os => cell_regrown v1 d os
              have v2 : (w.alloc (.cells #[.int .i64 u, .int .i64 b, .int .i64 t, .slice A n c] 49)).cell? ⟨w.heap.size, 2, none⟩ = some (.int .i64 t) := by simp
              have fv2 := fun d os => cell_regrown v2 d os
              have v3 : (w.alloc (.cells #[.int .i64 u, .int .i64 b, .int .i64 t, .slice A n c] 49)).cell? ⟨w.heap.size, 3, none⟩ = some (.slice A n c) := by simp
              have fv3 := fun d os => cell_regrown v3 d os
              have S0 := Lib.hid (h.below (B := w.heap.size) (w' := (w.alloc (.cells #[.int .i64 u, .int .i64 b, .int .i64 t, .slice A n c] 49))) (by (repeat' (first | with_reducible exact Below.refl _ _ | with_reducible assumption | with_reducible refine Below.drew ?_ | with_reducible refine Below.alloc ?_ ?_ _ | with_reducible refine Below.setCell ?_ ?_ _ | with_reducible refine Below.trans ?_ (Below.mono (by assumption) ?_) | ((try simp only [World.heap_size_alloc, World.heap_size_drew, World.heap_size_setCell]); omega)))) hhi)
              have hhi1 : hi ≤ (w.alloc (.cells #[.int .i64 u, .int .i64 b, .int .i64 t, .slice A n c] 49)).heap.size := by (try simp only [World.heap_size_alloc, World.heap_size_drew, World.heap_size_setCell]); omega
              have hbw : Below w.heap.size w (w.alloc (.cells #[.int .i64 u, .int .i64 b, .int .i64 t, .slice A n c] 49)) := by (repeat' (first | with_reducible exact Below.refl _ _ | with_reducible assumption | with_reducible refine Below.drew ?_ | with_reducible refine Below.alloc ?_ ?_ _ | with_reducible refine Below.setCell ?_ ?_ _ | with_reducible refine Below.trans ?_ (Below.mono (by assumption) ?_) | ((try simp only [World.heap_size_alloc, World.heap_size_drew, World.heap_size_setCell]); omega)))
              refine wp_region_quiet_below (by kernel_rfl) (by kernel_rfl) ?_; (repeat (first | go_big_quiet_step ((first | (go_at_call 86; with_reducible exact Calls.regrown_of (HB1.out _)) | (go_at_call 86; with_reducible exact Calls.regrown_of (HB2.out _)) | (go_at_call 87; with_reducible exact Calls.regrown_of (HT.out _)) | (go_at_call 88; with_reducible exact Calls.regrown_of (HO.out _ (S0.out.below (below_regrown _ _ _) hhi1))) | (go_at_call 89; with_reducible exact Calls.regrown_of (HL9.out _ (S0.out.below (below_regrown _ _ _) hhi1))))) | quiet_step ((first | (go_at_call 86; with_reducible exact Calls.regrown_of (HB1.out _)) | (go_at_call 86; with_reducible exact Calls.regrown_of (HB2.out _)) | (go_at_call 87; with_reducible exact Calls.regrown_of (HT.out _)) | (go_at_call 88; with_reducible exact Calls.regrown_of (HO.out _ (S0.out.below (below_regrown _ _ _) hhi1))) | (go_at_call 89; with_reducible exact Calls.regrown_of (HL9.out _ (S0.out.below (below_regrown _ _ _) hhi1))))))); refine wpQuiet_nil ?_; intro _ hw'; obtain ⟨⟨nq, osq⟩, hw''⟩ := hw'; subst hw''; have hq := below_regrown (w.alloc (.cells #[.int .i64 u, .int .i64 b, .int .i64 t, .slice A n c] 49)) nq osq; generalize Sort.grow (redrawn (w.alloc (.cells #[.int .i64 u, .int .i64 b, .int .i64 t, .slice A n c] 49)) nq) osq = w3 at *
              have hw3 : Below w.heap.size w w3 := hbw.trans (hq.mono (by (try simp only [World.heap_size_alloc, World.heap_size_drew, World.heap_size_setCell]); omega))
              go_wp2
              go_ret
              exact ⟨by simp, hw3⟩
          · have hb8 : decide (0 < b) = false := by simpa using hb9
            have ht8 : (t == 0) = true := by
              rcases HZ.out with h9 | h9
              · exact absurd h9 hb9
              · simpa using h9
            have HB9 := Lib.hid hb9
            clear hb9
            cases hS : seenOk l with
            | false =>
              have e0 : headOk u b t l = false := by simp [headOk, hS]
              rw [e0]
              have CB1 : ∀ W, Calls Try.prog 86 #[.int .i64 b, .int .i64 0, .int .i64 2000] W fun x w' => x = .returned (.bool true) ∧ Below W.heap.size W w' := fun W => (between_any b 0 2000 W).mono fun x w' ⟨h1, h2⟩ => ⟨by rw [h1, hB], by rw [← h2]; exact Below.refl _ _⟩
              have HB1 := Lib.hid CB1
              clear CB1
              have CB2 : ∀ W, Calls Try.prog 86 #[.int .i64 u, .int .i64 0, .int .i64 b] W fun x w' => x = .returned (.bool true) ∧ Below W.heap.size W w' := fun W => (between_any u 0 b W).mono fun x w' ⟨h1, h2⟩ => ⟨by rw [h1, hU], by rw [← h2]; exact Below.refl _ _⟩
              have HB2 := Lib.hid CB2
              clear CB2
              have CT : ∀ W, Calls Try.prog 87 #[.int .i64 t] W fun x w' => x = .returned (.bool true) ∧ Below W.heap.size W w' := fun W => (timeOk_any t W).mono fun x w' ⟨h1, h2⟩ => ⟨by rw [h1, hT], by rw [← h2]; exact Below.refl _ _⟩
              have HT := Lib.hid CT
              clear CT
              have CO : ∀ W, Sl W lo hi 3 A n c (l.flatMap MarkD.ints) → Calls Try.prog 88 #[.slice A n c] W fun x w' => x = .returned (.bool false) ∧ Below W.heap.size W w' := fun W s => by
                have h7 := seenOk_any A n c lo hi l W s
                rw [hS] at h7
                exact h7
              have HO := Lib.hid CO
              clear CO
              clear hB hU hT hS e0
              go_enter Try.func29, Try.ntmps29
              go_wp2_with fail
              have v0 : (w.alloc (.cells #[.int .i64 u, .int .i64 b, .int .i64 t, .slice A n c] 49)).cell? ⟨w.heap.size, 0, none⟩ = some (.int .i64 u) := by simp
              have fv0 := fun d os => cell_regrown v0 d os
              have v1 : (w.alloc (.cells #[.int .i64 u, .int .i64 b, .int .i64 t, .slice A n c] 49)).cell? ⟨w.heap.size, 1, none⟩ = some (.int .i64 b) := by simp
              have fv1 := fun d os => cell_regrown v1 d os
              have v2 : (w.alloc (.cells #[.int .i64 u, .int .i64 b, .int .i64 t, .slice A n c] 49)).cell? ⟨w.heap.size, 2, none⟩ = some (.int .i64 t) := by simp
              have fv2 := fun d os => cell_regrown v2 d os
              have v3 : (w.alloc (.cells #[.int .i64 u, .int .i64 b, .int .i64 t, .slice A n c] 49)).cell? ⟨w.heap.size, 3, none⟩ = some (.slice A n c) := by simp
              have fv3 := fun d os => cell_regrown v3 d os
              have S0 := Lib.hid (h.below (B := w.heap.size) (w' := (w.alloc (.cells #[.int .i64 u, .int .i64 b, .int .i64 t, .slice A n c] 49))) (by (repeat' (first | with_reducible exact Below.refl _ _ | with_reducible assumption | with_reducible refine Below.drew ?_ | with_reducible refine Below.alloc ?_ ?_ _ | with_reducible refine Below.setCell ?_ ?_ _ | with_reducible refine Below.trans ?_ (Below.mono (by assumption) ?_) | ((try simp only [World.heap_size_alloc, World.heap_size_drew, World.heap_size_setCell]); omega)))) hhi)
              have hhi1 : hi ≤ (w.alloc (.cells #[.int .i64 u, .int .i64 b, .int .i64 t, .slice A n c] 49)).heap.size := by (try simp only [World.heap_size_alloc, World.heap_size_drew, World.heap_size_setCell]); omega
              have hbw : Below w.heap.size w (w.alloc (.cells #[.int .i64 u, .int .i64 b, .int .i64 t, .slice A n c] 49)) := by (repeat' (first | with_reducible exact Below.refl _ _ | with_reducible assumption | with_reducible refine Below.drew ?_ | with_reducible refine Below.alloc ?_ ?_ _ | with_reducible refine Below.setCell ?_ ?_ _ | with_reducible refine Below.trans ?_ (Below.mono (by assumption) ?_) | ((try simp only [World.heap_size_alloc, World.heap_size_drew, World.heap_size_setCell]); omega)))
              refine wp_region_quiet_below (by kernel_rfl) (by kernel_rfl) ?_; (repeat (first | go_big_quiet_step ((first | (go_at_call 86; with_reducible exact Calls.regrown_of (HB1.out _)) | (go_at_call 86; with_reducible exact Calls.regrown_of (HB2.out _)) | (go_at_call 87; with_reducible exact Calls.regrown_of (HT.out _)) | (go_at_call 88; with_reducible exact Calls.regrown_of (HO.out _ (S0.out.below (below_regrown _ _ _) hhi1))))) | quiet_step ((first | (go_at_call 86; with_reducible exact Calls.regrown_of (HB1.out _)) | (go_at_call 86; with_reducible exact Calls.regrown_of (HB2.out _)) | (go_at_call 87; with_reducible exact Calls.regrown_of (HT.out _)) | (go_at_call 88; with_reducible exact Calls.regrown_of (HO.out _ (S0.out.below (below_regrown _ _ _) hhi1))))))); refine wpQuiet_nil ?_; intro _ hw'; obtain ⟨⟨nq, osq⟩, hw''⟩ := hw'; subst hw''; have hq := below_regrown (w.alloc (.cells #[.int .i64 u, .int .i64 b, .int .i64 t, .slice A n c] 49)) nq osq; generalize Sort.grow (redrawn (w.alloc (.cells #[.int .i64 u, .int .i64 b, .int .i64 t, .slice A n c] 49)) nq) osq = w3 at *
              have hw3 : Below w.heap.size w w3 := hbw.trans (hq.mono (by (try simp only [World.heap_size_alloc, World.heap_size_drew, World.heap_size_setCell]); omega))
              go_wp2
              go_ret
              exact ⟨by simp, hw3⟩
            | true =>
              have e0 : headOk u b t l = (lastIdx l == b) := by
                have h9 : (decide (0 < b) || t == 0) = true := by simpa using HZ.out
                have h8 : lastSeen l = lastIdx l := by simp [lastSeen, hS]
                simp only [headOk, hB, hU, hT, h9, hS, h8, Bool.true_and]
              rw [e0]
              have CB1 : ∀ W, Calls Try.prog 86 #[.int .i64 b, .int .i64 0, .int .i64 2000] W fun x w' => x = .returned (.bool true) ∧ Below W.heap.size W w' := fun W => (between_any b 0 2000 W).mono fun x w' ⟨h1, h2⟩ => ⟨by rw [h1, hB], by rw [← h2]; exact Below.refl _ _⟩
              have HB1 := Lib.hid CB1
              clear CB1
              have CB2 : ∀ W, Calls Try.prog 86 #[.int .i64 u, .int .i64 0, .int .i64 b] W fun x w' => x = .returned (.bool true) ∧ Below W.heap.size W w' := fun W => (between_any u 0 b W).mono fun x w' ⟨h1, h2⟩ => ⟨by rw [h1, hU], by rw [← h2]; exact Below.refl _ _⟩
              have HB2 := Lib.hid CB2
              clear CB2
              have CT : ∀ W, Calls Try.prog 87 #[.int .i64 t] W fun x w' => x = .returned (.bool true) ∧ Below W.heap.size W w' := fun W => (timeOk_any t W).mono fun x w' ⟨h1, h2⟩ => ⟨by rw [h1, hT], by rw [← h2]; exact Below.refl _ _⟩
              have HT := Lib.hid CT
              clear CT
              have CO : ∀ W, Sl W lo hi 3 A n c (l.flatMap MarkD.ints) → Calls Try.prog 88 #[.slice A n c] W fun x w' => x = .returned (.bool true) ∧ Below W.heap.size W w' := fun W s => by
                have h7 := seenOk_any A n c lo hi l W s
                rw [hS] at h7
                exact h7
              have HO := Lib.hid CO
              clear CO
              have CL : ∀ W, Sl W lo hi 3 A n c (l.flatMap MarkD.ints) → Calls Try.prog 89 #[.slice A n c] W fun x w' => x = .returned (.int .i64 (lastIdx l)) ∧ Below W.heap.size W w' := fun W s => by
                have h7 := lastIdx_any A n c lo hi l W s
                exact h7
              have HL9 := Lib.hid CL
              clear CL
              generalize lastIdx l = x at HL9
              clear hB hU hT hS e0
              go_enter Try.func29, Try.ntmps29
              go_wp2_with fail
              have v0 : (w.alloc (.cells #[.int .i64 u, .int .i64 b, .int .i64 t, .slice A n c] 49)).cell? ⟨w.heap.size, 0, none⟩ = some (.int .i64 u) := by simp
              have fv0 := fun d os => cell_regrown v0 d os
              have v1 : (w.alloc (.cells #[.int .i64 u, .int .i64 b, .int .i64 t, .slice A n c] 49)).cell? ⟨w.heap.size, 1, none⟩ = some (.int .i64 b) := by simp
              have fv1 := fun d os => cell_regrown v1 d os
              have v2 : (w.alloc (.cells #[.int .i64 u, .int .i64 b, .int .i64 t, .slice A n c] 49)).cell? ⟨w.heap.size, 2, none⟩ = some (.int .i64 t) := by simp
              have fv2 := fun d os => cell_regrown v2 d os
              have v3 : (w.alloc (.cells #[.int .i64 u, .int .i64 b, .int .i64 t, .slice A n c] 49)).cell? ⟨w.heap.size, 3, none⟩ = some (.slice A n c) := by simp
              have fv3 := fun d os => cell_regrown v3 d os
              have S0 := Lib.hid (h.below (B := w.heap.size) (w' := (w.alloc (.cells #[.int .i64 u, .int .i64 b, .int .i64 t, .slice A n c] 49))) (by (repeat' (first | with_reducible exact Below.refl _ _ | with_reducible assumption | with_reducible refine Below.drew ?_ | with_reducible refine Below.alloc ?_ ?_ _ | with_reducible refine Below.setCell ?_ ?_ _ | with_reducible refine Below.trans ?_ (Below.mono (by assumption) ?_) | ((try simp only [World.heap_size_alloc, World.heap_size_drew, World.heap_size_setCell]); omega)))) hhi)
              have hhi1 : hi ≤ (w.alloc (.cells #[.int .i64 u, .int .i64 b, .int .i64 t, .slice A n c] 49)).heap.size := by (try simp only [World.heap_size_alloc, World.heap_size_drew, World.heap_size_setCell]); omega
              have hbw : Below w.heap.size w (w.alloc (.cells #[.int .i64 u, .int .i64 b, .int .i64 t, .slice A n c] 49)) := by (repeat' (first | with_reducible exact Below.refl _ _ | with_reducible assumption | with_reducible refine Below.drew ?_ | with_reducible refine Below.alloc ?_ ?_ _ | with_reducible refine Below.setCell ?_ ?_ _ | with_reducible refine Below.trans ?_ (Below.mono (by assumption) ?_) | ((try simp only [World.heap_size_alloc, World.heap_size_drew, World.heap_size_setCell]); omega)))
              refine wp_region_quiet_below (by kernel_rfl) (by kernel_rfl) ?_; (repeat (first | go_big_quiet_step ((first | (go_at_call 86; with_reducible exact Calls.regrown_of (HB1.out _)) | (go_at_call 86; with_reducible exact Calls.regrown_of (HB2.out _)) | (go_at_call 87; with_reducible exact Calls.regrown_of (HT.out _)) | (go_at_call 88; with_reducible exact Calls.regrown_of (HO.out _ (S0.out.below (below_regrown _ _ _) hhi1))) | (go_at_call 89; with_reducible exact Calls.regrown_of (HL9.out _ (S0.out.below (below_regrown _ _ _) hhi1))))) | quiet_step ((first | (go_at_call 86; with_reducible exact Calls.regrown_of (HB1.out _)) | (go_at_call 86; with_reducible exact Calls.regrown_of (HB2.out _)) | (go_at_call 87; with_reducible exact Calls.regrown_of (HT.out _)) | (go_at_call 88; with_reducible exact Calls.regrown_of (HO.out _ (S0.out.below (below_regrown _ _ _) hhi1))) | (go_at_call 89; with_reducible exact Calls.regrown_of (HL9.out _ (S0.out.below (below_regrown _ _ _) hhi1))))))); refine wpQuiet_nil ?_; intro _ hw'; obtain ⟨⟨nq, osq⟩, hw''⟩ := hw'; subst hw''; have hq := below_regrown (w.alloc (.cells #[.int .i64 u, .int .i64 b, .int .i64 t, .slice A n c] 49)) nq osq; generalize Sort.grow (redrawn (w.alloc (.cells #[.int .i64 u, .int .i64 b, .int .i64 t, .slice A n c] 49)) nq) osq = w3 at *
              have hw3 : Below w.heap.size w w3 := hbw.trans (hq.mono (by (try simp only [World.heap_size_alloc, World.heap_size_drew, World.heap_size_setCell]); omega))
              go_wp2
              go_ret
              exact ⟨by simp, hw3⟩
        · have hb8 : decide (0 < b) = false := by simp; omega
          have ht8 : (t == 0) = false := by simp; omega
          have e0 : headOk u b t l = false := by 
            have h9 : (decide (0 < b) || t == 0) = false := by rw [hb8, ht8]; rfl
            simp only [headOk, h9, Bool.false_and, Bool.and_false]
          rw [e0]
          have CB1 : ∀ W, Calls Try.prog 86 #[.int .i64 b, .int .i64 0, .int .i64 2000] W fun x w' => x = .returned (.bool true) ∧ Below W.heap.size W w' := fun W => (between_any b 0 2000 W).mono fun x w' ⟨h1, h2⟩ => ⟨by rw [h1, hB], by rw [← h2]; exact Below.refl _ _⟩
          have HB1 := Lib.hid CB1
          clear CB1
          have CB2 : ∀ W, Calls Try.prog 86 #[.int .i64 u, .int .i64 0, .int .i64 b] W fun x w' => x = .returned (.bool true) ∧ Below W.heap.size W w' := fun W => (between_any u 0 b W).mono fun x w' ⟨h1, h2⟩ => ⟨by rw [h1, hU], by rw [← h2]; exact Below.refl _ _⟩
          have HB2 := Lib.hid CB2
          clear CB2
          have CT : ∀ W, Calls Try.prog 87 #[.int .i64 t] W fun x w' => x = .returned (.bool true) ∧ Below W.heap.size W w' := fun W => (timeOk_any t W).mono fun x w' ⟨h1, h2⟩ => ⟨by rw [h1, hT], by rw [← h2]; exact Below.refl _ _⟩
          have HT := Lib.hid CT
          clear CT
          clear hB hU hT hZ e0
          go_enter Try.func29, Try.ntmps29
          go_wp2_with fail
          have v0 : (w.alloc (.cells #[.int .i64 u, .int .i64 b, .int .i64 t, .slice A n c] 49)).cell? ⟨w.heap.size, 0, none⟩ = some (.int .i64 u) := by simp
          have fv0 := fun d os => cell_regrown v0 d os
          have v1 : (w.alloc (.cells #[.int .i64 u, .int .i64 b, .int .i64 t, .slice A n c] 49)).cell? ⟨w.heap.size, 1, none⟩ = some (.int .i64 b) := by simp
          have fv1 := fun d os => cell_regrown v1 d os
          have v2 : (w.alloc (.cells #[.int .i64 u, .int .i64 b, .int .i64 t, .slice A n c] 49)).cell? ⟨w.heap.size, 2, none⟩ = some (.int .i64 t) := by simp
          have fv2 := fun d os => cell_regrown v2 d os
          have v3 : (w.alloc (.cells #[.int .i64 u, .int .i64 b, .int .i64 t, .slice A n c] 49)).cell? ⟨w.heap.size, 3, none⟩ = some (.slice A n c) := by simp
          have fv3 := fun d os => cell_regrown v3 d os
          have S0 := Lib.hid (h.below (B := w.heap.size) (w' := (w.alloc (.cells #[.int .i64 u, .int .i64 b, .int .i64 t, .slice A n c] 49))) (by (repeat' (first | with_reducible exact Below.refl _ _ | with_reducible assumption | with_reducible refine Below.drew ?_ | with_reducible refine Below.alloc ?_ ?_ _ | with_reducible refine Below.setCell ?_ ?_ _ | with_reducible refine Below.trans ?_ (Below.mono (by assumption) ?_) | ((try simp only [World.heap_size_alloc, World.heap_size_drew, World.heap_size_setCell]); omega)))) hhi)
          have hhi1 : hi ≤ (w.alloc (.cells #[.int .i64 u, .int .i64 b, .int .i64 t, .slice A n c] 49)).heap.size := by (try simp only [World.heap_size_alloc, World.heap_size_drew, World.heap_size_setCell]); omega
          have hbw : Below w.heap.size w (w.alloc (.cells #[.int .i64 u, .int .i64 b, .int .i64 t, .slice A n c] 49)) := by (repeat' (first | with_reducible exact Below.refl _ _ | with_reducible assumption | with_reducible refine Below.drew ?_ | with_reducible refine Below.alloc ?_ ?_ _ | with_reducible refine Below.setCell ?_ ?_ _ | with_reducible refine Below.trans ?_ (Below.mono (by assumption) ?_) | ((try simp only [World.heap_size_alloc, World.heap_size_drew, World.heap_size_setCell]); omega)))
          refine wp_region_quiet_below (by kernel_rfl) (by kernel_rfl) ?_; (repeat (first | go_big_quiet_step ((first | (go_at_call 86; with_reducible exact Calls.regrown_of (HB1.out _)) | (go_at_call 86; with_reducible exact Calls.regrown_of (HB2.out _)) | (go_at_call 87; with_reducible exact Calls.regrown_of (HT.out _)))) | quiet_step ((first | (go_at_call 86; with_reducible exact Calls.regrown_of (HB1.out _)) | (go_at_call 86; with_reducible exact Calls.regrown_of (HB2.out _)) | (go_at_call 87; with_reducible exact Calls.regrown_of (HT.out _)))))); refine wpQuiet_nil ?_; intro _ hw'; obtain ⟨⟨nq, osq⟩, hw''⟩ := hw'; subst hw''; have hq := below_regrown (w.alloc (.cells #[.int .i64 u, .int .i64 b, .int .i64 t, .slice A n c] 49)) nq osq; generalize Sort.grow (redrawn (w.alloc (.cells #[.int .i64 u, .int .i64 b, .int .i64 t, .slice A n c] 49)) nq) osq = w3 at *
          have hw3 : Below w.heap.size w w3 := hbw.trans (hq.mono (by (try simp only [World.heap_size_alloc, World.heap_size_drew, World.heap_size_setCell]); omega))
          go_wp2
          go_ret
          exact ⟨by simp, hw3⟩
end Go.Proofs.Ytgnilmdaegnaaaa
