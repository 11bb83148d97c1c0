/- Books: which entry fits. No conditions. -/
import Derived.Test.YtijefbmnhcecmaaBk6
set_option linter.unusedSimpArgs false
set_option linter.unusedVariables false
namespace Go.Proofs.Ytijefbmnhcecmaa
open Go.RowKit

def fitsM (b t : Int) (l : List EntryD) (e : EntryD) : Bool := entryOk e && (e.index == b + (l.length : Int) + 1 && (decide (lastTime t l ≤ e.time) && decide (l.length < 20)))
set_option maxRecDepth 100000 in
set_option maxHeartbeats 2000000 in
theorem fits_any (b t : Int) (A : Option Addr) (n c lo hi : Nat) (l : List EntryD) (e : EntryD) (w : World) (h : Sl w lo hi 9 A n c (l.flatMap EntryD.ints)) (h0 : 0 ≤ b) (h1 : b ≤ 2000) (hn : n ≤ 20) :
    Calls Try.prog 73 #[.agg #[.int .i64 b, .int .i64 t, .slice A n c], .agg #[.int .i64 e.index, .int .i64 e.time, .int .i64 e.client, .int .i64 e.seq, .int .i64 e.op.kind, .int .i64 e.op.a, .int .i64 e.op.b, .int .i64 e.op.c, .int .i64 e.op.d]] w fun x w' => x = .returned (.bool (fitsM b t l e)) ∧ Below w.heap.size w w' := by
  have HL := Lib.hid (h.count EntryD.ints_len (by omega) : l.length = n)
  replace h := h.fit (by omega)
  have hhi : min hi w.heap.size ≤ w.heap.size := Nat.min_le_right _ _
  generalize min hi w.heap.size = hi at h hhi
  have hnb : n ≤ 9223372036854775807 := by omega
  cases hok : entryOk e with
  | false =>
    have e0 : fitsM b t l e = false := by
      unfold fitsM
      rw [hok, Bool.false_and]
    rw [e0]
    clear e0
    have CE : ∀ W, Calls Try.prog 74 #[.agg #[.int .i64 e.index, .int .i64 e.time, .int .i64 e.client, .int .i64 e.seq, .int .i64 e.op.kind, .int .i64 e.op.a, .int .i64 e.op.b, .int .i64 e.op.c, .int .i64 e.op.d]] W fun x w' => x = .returned (.bool false) ∧ Below W.heap.size W w' := fun W => by
      have h7 := entryOk_any e.index e.time e.client e.seq e.op.kind e.op.a e.op.b e.op.c e.op.d W
      rw [show entryOk ⟨e.index, e.time, e.client, e.seq, ⟨e.op.kind, e.op.a, e.op.b, e.op.c, e.op.d⟩⟩ = false from hok] at h7
      exact h7
    have HE := Lib.hid CE
    clear CE
    clear hok
    go_enter Try.func73, Try.ntmps73
    go_wp2_with fail
    have v0 : ((w.alloc (.cells #[.int .i64 b, .int .i64 t, .slice A n c] 29)).alloc (.cells #[.int .i64 e.index, .int .i64 e.time, .int .i64 e.client, .int .i64 e.seq, .int .i64 e.op.kind, .int .i64 e.op.a, .int .i64 e.op.b, .int .i64 e.op.c, .int .i64 e.op.d] 37)).cell? ⟨w.heap.size, 0, none⟩ = some (.int .i64 b) := by simp
    have fv0 := fun d os => cell_regrown v0 d os
    have v1 : ((w.alloc (.cells #[.int .i64 b, .int .i64 t, .slice A n c] 29)).alloc (.cells #[.int .i64 e.index, .int .i64 e.time, .int .i64 e.client, .int .i64 e.seq, .int .i64 e.op.kind, .int .i64 e.op.a, .int .i64 e.op.b, .int .i64 e.op.c, .int .i64 e.op.d] 37)).cell? ⟨w.heap.size, 1, none⟩ = some (.int .i64 t) := by simp
    have fv1 := fun d os => cell_regrown v1 d os
    have v2 : ((w.alloc (.cells #[.int .i64 b, .int .i64 t, .slice A n c] 29)).alloc (.cells #[.int .i64 e.index, .int .i64 e.time, .int .i64 e.client, .int .i64 e.seq, .int .i64 e.op.kind, .int .i64 e.op.a, .int .i64 e.op.b, .int .i64 e.op.c, .int .i64 e.op.d] 37)).cell? ⟨w.heap.size, 2, none⟩ = some (.slice A n c) := by simp
    have fv2 := fun d os => cell_regrown v2 d os
    have u0 : ((w.alloc (.cells #[.int .i64 b, .int .i64 t, .slice A n c] 29)).alloc (.cells #[.int .i64 e.index, .int .i64 e.time, .int .i64 e.client, .int .i64 e.seq, .int .i64 e.op.kind, .int .i64 e.op.a, .int .i64 e.op.b, .int .i64 e.op.c, .int .i64 e.op.d] 37)).cell? ⟨w.heap.size + 1, 0, none⟩ = some (.int .i64 e.index) := by simp
    have fu0 := fun d os => cell_regrown u0 d os
    have u1 : ((w.alloc (.cells #[.int .i64 b, .int .i64 t, .slice A n c] 29)).alloc (.cells #[.int .i64 e.index, .int .i64 e.time, .int .i64 e.client, .int .i64 e.seq, .int .i64 e.op.kind, .int .i64 e.op.a, .int .i64 e.op.b, .int .i64 e.op.c, .int .i64 e.op.d] 37)).cell? ⟨w.heap.size + 1, 1, none⟩ = some (.int .i64 e.time) := by simp
    have fu1 := fun d os => cell_regrown u1 d os
    have u2 : ((w.alloc (.cells #[.int .i64 b, .int .i64 t, .slice A n c] 29)).alloc (.cells #[.int .i64 e.index, .int .i64 e.time, .int .i64 e.client, .int .i64 e.seq, .int .i64 e.op.kind, .int .i64 e.op.a, .int .i64 e.op.b, .int .i64 e.op.c, .int .i64 e.op.d] 37)).cell? ⟨w.heap.size + 1, 2, none⟩ = some (.int .i64 e.client) := by simp
    have fu2 := fun d os => cell_regrown u2 d os
    have u3 : ((w.alloc (.cells #[.int .i64 b, .int .i64 t, .slice A n c] 29)).alloc (.cells #[.int .i64 e.index, .int .i64 e.time, .int .i64 e.client, .int .i64 e.seq, .int .i64 e.op.kind, .int .i64 e.op.a, .int .i64 e.op.b, .int .i64 e.op.c, .int .i64 e.op.d] 37)).cell? ⟨w.heap.size + 1, 3, none⟩ = some (.int .i64 e.seq) := by simp
    have fu3 := fun d os => cell_regrown u3 d os
    have u4 : ((w.alloc (.cells #[.int .i64 b, .int .i64 t, .slice A n c] 29)).alloc (.cells #[.int .i64 e.index, .int .i64 e.time, .int .i64 e.client, .int .i64 e.seq, .int .i64 e.op.kind, .int .i64 e.op.a, .int .i64 e.op.b, .int .i64 e.op.c, .int .i64 e.op.d] 37)).cell? ⟨w.heap.size + 1, 4, none⟩ = some (.int .i64 e.op.kind) := by simp
    have fu4 := fun d os => cell_regrown u4 d os
    have u5 : ((w.alloc (.cells #[.int .i64 b, .int .i64 t, .slice A n c] 29)).alloc (.cells #[.int .i64 e.index, .int .i64 e.time, .int .i64 e.client, .int .i64 e.seq, .int .i64 e.op.kind, .int .i64 e.op.a, .int .i64 e.op.b, .int .i64 e.op.c, .int .i64 e.op.d] 37)).cell? ⟨w.heap.size + 1, 5, none⟩ = some (.int .i64 e.op.a) := by simp
    have fu5 := fun d os => cell_regrown u5 d os
    have u6 : ((w.alloc (.cells #[.int .i64 b, .int .i64 t, .slice A n c] 29)).alloc (.cells #[.int .i64 e.index, .int .i64 e.time, .int .i64 e.client, .int .i64 e.seq, .int .i64 e.op.kind, .int .i64 e.op.a, .int .i64 e.op.b, .int .i64 e.op.c, .int .i64 e.op.d] 37)).cell? ⟨w.heap.size + 1, 6, none⟩ = some (.int .i64 e.op.b) := by simp
    have fu6 := fun d os => cell_regrown u6 d os
    have u7 : ((w.alloc (.cells #[.int .i64 b, .int .i64 t, .slice A n c] 29)).alloc (.cells #[.int .i64 e.index, .int .i64 e.time, .int .i64 e.client, .int .i64 e.seq, .int .i64 e.op.kind, .int .i64 e.op.a, .int .i64 e.op.b, .int .i64 e.op.c, .int .i64 e.op.d] 37)).cell? ⟨w.heap.size + 1, 7, none⟩ = some (.int .i64 e.op.c) := by simp
    have fu7 := fun d os => cell_regrown u7 d os
    have u8 : ((w.alloc (.cells #[.int .i64 b, .int .i64 t, .slice A n c] 29)).alloc (.cells #[.int .i64 e.index, .int .i64 e.time, .int .i64 e.client, .int .i64 e.seq, .int .i64 e.op.kind, .int .i64 e.op.a, .int .i64 e.op.b, .int .i64 e.op.c, .int .i64 e.op.d] 37)).cell? ⟨w.heap.size + 1, 8, none⟩ = some (.int .i64 e.op.d) := by simp
    have fu8 := fun d os => cell_regrown u8 d os
    have hbw : Below w.heap.size w ((w.alloc (.cells #[.int .i64 b, .int .i64 t, .slice A n c] 29)).alloc (.cells #[.int .i64 e.index, .int .i64 e.time, .int .i64 e.client, .int .i64 e.seq, .int .i64 e.op.kind, .int .i64 e.op.a, .int .i64 e.op.b, .int .i64 e.op.c, .int .i64 e.op.d] 37)) := by (repeat' (first | with_reducible exact Below.refl _ _ | with_reducible assumption | with_reducible refine Below.drew ?_ | with_reducible refine Below.alloc ?_ ?_ _ | with_reducible refine Below.setCell ?_ ?_ _ | with_reducible refine Below.trans ?_ (Below.mono (by assumption) ?_) | ((try simp only [World.heap_size_alloc, World.heap_size_drew, World.heap_size_setCell]); omega)))
    refine wp_region_quiet_below (by kernel_rfl) (by kernel_rfl) ?_; (repeat (first | go_big_quiet_step ((first | (go_at_call 74; with_reducible exact Calls.regrown_of (HE.out _)))) | quiet_step ((first | (go_at_call 74; with_reducible exact Calls.regrown_of (HE.out _)))))); refine wpQuiet_nil ?_; intro _ hw'; obtain ⟨⟨nq, osq⟩, hw''⟩ := hw'; subst hw''; have hq := below_regrown ((w.alloc (.cells #[.int .i64 b, .int .i64 t, .slice A n c] 29)).alloc (.cells #[.int .i64 e.index, .int .i64 e.time, .int .i64 e.client, .int .i64 e.seq, .int .i64 e.op.kind, .int .i64 e.op.a, .int .i64 e.op.b, .int .i64 e.op.c, .int .i64 e.op.d] 37)) nq osq; generalize Sort.grow (redrawn ((w.alloc (.cells #[.int .i64 b, .int .i64 t, .slice A n c] 29)).alloc (.cells #[.int .i64 e.index, .int .i64 e.time, .int .i64 e.client, .int .i64 e.seq, .int .i64 e.op.kind, .int .i64 e.op.a, .int .i64 e.op.b, .int .i64 e.op.c, .int .i64 e.op.d] 37)) nq) osq = w3 at *
    have hw3 : Below w.heap.size w w3 := hbw.trans (hq.mono (by (try simp only [World.heap_size_alloc, World.heap_size_drew, World.heap_size_setCell]); omega))
    go_wp2
    go_ret
    exact ⟨by simp, hw3⟩
  | true =>
    by_cases hix : e.index = b + (n : Int) + 1
    · have dx : (e.index == b + (n : Int) + 1) = true := by simp [hix]
      by_cases ht : lastTime t l ≤ e.time
      · by_cases h20 : n < 20
        · have e0 : fitsM b t l e = true := by
            unfold fitsM
            rw [hok, HL.out, dx]; simp [ht, h20]
          rw [e0]
          clear e0
          have CE : ∀ W, Calls Try.prog 74 #[.agg #[.int .i64 e.index, .int .i64 e.time, .int .i64 e.client, .int .i64 e.seq, .int .i64 e.op.kind, .int .i64 e.op.a, .int .i64 e.op.b, .int .i64 e.op.c, .int .i64 e.op.d]] W fun x w' => x = .returned (.bool true) ∧ Below W.heap.size W w' := fun W => by
            have h7 := entryOk_any e.index e.time e.client e.seq e.op.kind e.op.a e.op.b e.op.c e.op.d W
            rw [show entryOk ⟨e.index, e.time, e.client, e.seq, ⟨e.op.kind, e.op.a, e.op.b, e.op.c, e.op.d⟩⟩ = true from hok] at h7
            exact h7
          have HE := Lib.hid CE
          clear CE
          have HLA := Lib.hid (fun W => lastOf_any b t A n c W h0 h1 hn)
          have HTA := Lib.hid (fun W s => timeOf1_any b t A n c lo hi l W s (by omega))
          have S0 := Lib.hid (h.below (B := w.heap.size) (w' := ((w.alloc (.cells #[.int .i64 b, .int .i64 t, .slice A n c] 29)).alloc (.cells #[.int .i64 e.index, .int .i64 e.time, .int .i64 e.client, .int .i64 e.seq, .int .i64 e.op.kind, .int .i64 e.op.a, .int .i64 e.op.b, .int .i64 e.op.c, .int .i64 e.op.d] 37))) (by (repeat' (first | with_reducible exact Below.refl _ _ | with_reducible assumption | with_reducible refine Below.drew ?_ | with_reducible refine Below.alloc ?_ ?_ _ | with_reducible refine Below.setCell ?_ ?_ _ | with_reducible refine Below.trans ?_ (Below.mono (by assumption) ?_) | ((try simp only [World.heap_size_alloc, World.heap_size_drew, World.heap_size_setCell]); omega)))) hhi)
          have hhi1 : hi ≤ ((w.alloc (.cells #[.int .i64 b, .int .i64 t, .slice A n c] 29)).alloc (.cells #[.int .i64 e.index, .int .i64 e.time, .int .i64 e.client, .int .i64 e.seq, .int .i64 e.op.kind, .int .i64 e.op.a, .int .i64 e.op.b, .int .i64 e.op.c, .int .i64 e.op.d] 37)).heap.size := by (try simp only [World.heap_size_alloc, World.heap_size_drew, World.heap_size_setCell]); omega
          have dt : decide (e.time ≥ lastTime t l) = true := by simpa using ht
          have dt2 : decide (lastTime t l ≤ e.time) = true := by simpa using ht
          have d20 : decide ((n : Int) < 20) = true := by simp; omega
          have HIX := Lib.hid hix
          clear hok hix ht
          generalize lastTime t l = lt at *
          have hw9 : IntKind.i64.wrap (b + (n : Int) + 1) = b + (n : Int) + 1 := IntWalk.i64_in _ (by omega)
          go_enter Try.func73, Try.ntmps73
          go_wp2_with fail
          have v0 : ((w.alloc (.cells #[.int .i64 b, .int .i64 t, .slice A n c] 29)).alloc (.cells #[.int .i64 e.index, .int .i64 e.time, .int .i64 e.client, .int .i64 e.seq, .int .i64 e.op.kind, .int .i64 e.op.a, .int .i64 e.op.b, .int .i64 e.op.c, .int .i64 e.op.d] 37)).cell? ⟨w.heap.size, 0, none⟩ = some (.int .i64 b) := by simp
          have fv0 := fun d os => cell_regrown v0 d os
          have v1 : ((w.alloc (.cells #[.int .i64 b, .int .i64 t, .slice A n c] 29)).alloc (.cells #[.int .i64 e.index, .int .i64 e.time, .int .i64 e.client, .int .i64 e.seq, .int .i64 e.op.kind, .int .i64 e.op.a, .int .i64 e.op.b, .int .i64 e.op.c, .int .i64 e.op.d] 37)).cell? ⟨w.heap.size, 1, none⟩ = some (.int .i64 t) := by simp
          have fv1 := fun d os => cell_regrown v1 d os
          have v2 : ((w.alloc (.cells #[.int .i64 b, .int .i64 t, .slice A n c] 29)).alloc (.cells #[.int .i64 e.index, .int .i64 e.time, .int .i64 e.client, .int .i64 e.seq, .int .i64 e.op.kind, .int .i64 e.op.a, .int .i64 e.op.b, .int .i64 e.op.c, .int .i64 e.op.d] 37)).cell? ⟨w.heap.size, 2, none⟩ = some (.slice A n c) := by simp
          have fv2 := fun d os => cell_regrown v2 d os
          have u0 : ((w.alloc (.cells #[.int .i64 b, .int .i64 t, .slice A n c] 29)).alloc (.cells #[.int .i64 e.index, .int .i64 e.time, .int .i64 e.client, .int .i64 e.seq, .int .i64 e.op.kind, .int .i64 e.op.a, .int .i64 e.op.b, .int .i64 e.op.c, .int .i64 e.op.d] 37)).cell? ⟨w.heap.size + 1, 0, none⟩ = some (.int .i64 e.index) := by simp
          have fu0 := fun d os => cell_regrown u0 d os
          have u1 : ((w.alloc (.cells #[.int .i64 b, .int .i64 t, .slice A n c] 29)).alloc (.cells #[.int .i64 e.index, .int .i64 e.time, .int .i64 e.client, .int .i64 e.seq, .int .i64 e.op.kind, .int .i64 e.op.a, .int .i64 e.op.b, .int .i64 e.op.c, .int .i64 e.op.d] 37)).cell? ⟨w.heap.size + 1, 1, none⟩ = some (.int .i64 e.time) := by simp
          have fu1 := fun d os => cell_regrown u1 d os
          have u2 : ((w.alloc (.cells #[.int .i64 b, .int .i64 t, .slice A n c] 29)).alloc (.cells #[.int .i64 e.index, .int .i64 e.time, .int .i64 e.client, .int .i64 e.seq, .int .i64 e.op.kind, .int .i64 e.op.a, .int .i64 e.op.b, .int .i64 e.op.c, .int .i64 e.op.d] 37)).cell? ⟨w.heap.size + 1, 2, none⟩ = some (.int .i64 e.client) := by simp
          have fu2 := fun d os => cell_regrown u2 d os
          have u3 : ((w.alloc (.cells #[.int .i64 b, .int .i64 t, .slice A n c] 29)).alloc (.cells #[.int .i64 e.index, .int .i64 e.time, .int .i64 e.client, .int .i64 e.seq, .int .i64 e.op.kind, .int .i64 e.op.a, .int .i64 e.op.b, .int .i64 e.op.c, .int .i64 e.op.d] 37)).cell? ⟨w.heap.size + 1, 3, none⟩ = some (.int .i64 e.seq) := by simp
          have fu3 := fun d os => cell_regrown u3 d os
          have u4 : ((w.alloc (.cells #[.int .i64 b, .int .i64 t, .slice A n c] 29)).alloc (.cells #[.int .i64 e.index, .int .i64 e.time, .int .i64 e.client, .int .i64 e.seq, .int .i64 e.op.kind, .int .i64 e.op.a, .int .i64 e.op.b, .int .i64 e.op.c, .int .i64 e.op.d] 37)).cell? ⟨w.heap.size + 1, 4, none⟩ = some (.int .i64 e.op.kind) := by simp
          have fu4 := fun d os => cell_regrown u4 d os
          have u5 : ((w.alloc (.cells #[.int .i64 b, .int .i64 t, .slice A n c] 29)).alloc (.cells #[.int .i64 e.index, .int .i64 e.time, .int .i64 e.client, .int .i64 e.seq, .int .i64 e.op.kind, .int .i64 e.op.a, .int .i64 e.op.b, .int .i64 e.op.c, .int .i64 e.op.d] 37)).cell? ⟨w.heap.size + 1, 5, none⟩ = some (.int .i64 e.op.a) := by simp
          have fu5 := fun d os => cell_regrown u5 d os
          have u6 : ((w.alloc (.cells #[.int .i64 b, .int .i64 t, .slice A n c] 29)).alloc (.cells #[.int .i64 e.index, .int .i64 e.time, .int .i64 e.client, .int .i64 e.seq, .int .i64 e.op.kind, .int .i64 e.op.a, .int .i64 e.op.b, .int .i64 e.op.c, .int .i64 e.op.d] 37)).cell? ⟨w.heap.size + 1, 6, none⟩ = some (.int .i64 e.op.b) := by simp
          have fu6 := fun d os => cell_regrown u6 d os
          have u7 : ((w.alloc (.cells #[.int .i64 b, .int .i64 t, .slice A n c] 29)).alloc (.cells #[.int .i64 e.index, .int .i64 e.time, .int .i64 e.client, .int .i64 e.seq, .int .i64 e.op.kind, .int .i64 e.op.a, .int .i64 e.op.b, .int .i64 e.op.c, .int .i64 e.op.d] 37)).cell? ⟨w.heap.size + 1, 7, none⟩ = some (.int .i64 e.op.c) := by simp
          have fu7 := fun d os => cell_regrown u7 d os
          have u8 : ((w.alloc (.cells #[.int .i64 b, .int .i64 t, .slice A n c] 29)).alloc (.cells #[.int .i64 e.index, .int .i64 e.time, .int .i64 e.client, .int .i64 e.seq, .int .i64 e.op.kind, .int .i64 e.op.a, .int .i64 e.op.b, .int .i64 e.op.c, .int .i64 e.op.d] 37)).cell? ⟨w.heap.size + 1, 8, none⟩ = some (.int .i64 e.op.d) := by simp
          have fu8 := fun d os => cell_regrown u8 d os
          have hbw : Below w.heap.size w ((w.alloc (.cells #[.int .i64 b, .int .i64 t, .slice A n c] 29)).alloc (.cells #[.int .i64 e.index, .int .i64 e.time, .int .i64 e.client, .int .i64 e.seq, .int .i64 e.op.kind, .int .i64 e.op.a, .int .i64 e.op.b, .int .i64 e.op.c, .int .i64 e.op.d] 37)) := by (repeat' (first | with_reducible exact Below.refl _ _ | with_reducible assumption | with_reducible refine Below.drew ?_ | with_reducible refine Below.alloc ?_ ?_ _ | with_reducible refine Below.setCell ?_ ?_ _ | with_reducible refine Below.trans ?_ (Below.mono (by assumption) ?_) | ((try simp only [World.heap_size_alloc, World.heap_size_drew, World.heap_size_setCell]); omega)))
          refine wp_region_quiet_below (by kernel_rfl) (by kernel_rfl) ?_; (repeat (first | go_big_quiet_step ((first | (go_at_call 74; with_reducible exact Calls.regrown_of (HE.out _)) | (go_at_call 63; with_reducible exact Calls.regrown_of (HLA.out _)) | (go_at_call 66; with_reducible exact Calls.regrown_of (HTA.out _ (S0.out.below (below_regrown _ _ _) hhi1))))) | quiet_step ((first | (go_at_call 74; with_reducible exact Calls.regrown_of (HE.out _)) | (go_at_call 63; with_reducible exact Calls.regrown_of (HLA.out _)) | (go_at_call 66; with_reducible exact Calls.regrown_of (HTA.out _ (S0.out.below (below_regrown _ _ _) hhi1))))))); refine wpQuiet_nil ?_; intro _ hw'; obtain ⟨⟨nq, osq⟩, hw''⟩ := hw'; subst hw''; have hq := below_regrown ((w.alloc (.cells #[.int .i64 b, .int .i64 t, .slice A n c] 29)).alloc (.cells #[.int .i64 e.index, .int .i64 e.time, .int .i64 e.client, .int .i64 e.seq, .int .i64 e.op.kind, .int .i64 e.op.a, .int .i64 e.op.b, .int .i64 e.op.c, .int .i64 e.op.d] 37)) nq osq; generalize Sort.grow (redrawn ((w.alloc (.cells #[.int .i64 b, .int .i64 t, .slice A n c] 29)).alloc (.cells #[.int .i64 e.index, .int .i64 e.time, .int .i64 e.client, .int .i64 e.seq, .int .i64 e.op.kind, .int .i64 e.op.a, .int .i64 e.op.b, .int .i64 e.op.c, .int .i64 e.op.d] 37)) nq) osq = w3 at *
          have hw3 : Below w.heap.size w w3 := hbw.trans (hq.mono (by (try simp only [World.heap_size_alloc, World.heap_size_drew, World.heap_size_setCell]); omega))
          go_wp2
          go_ret
          exact ⟨by simp, hw3⟩
        · have e0 : fitsM b t l e = false := by
            unfold fitsM
            rw [HL.out]; simp [h20]
          rw [e0]
          clear e0
          have CE : ∀ W, Calls Try.prog 74 #[.agg #[.int .i64 e.index, .int .i64 e.time, .int .i64 e.client, .int .i64 e.seq, .int .i64 e.op.kind, .int .i64 e.op.a, .int .i64 e.op.b, .int .i64 e.op.c, .int .i64 e.op.d]] W fun x w' => x = .returned (.bool true) ∧ Below W.heap.size W w' := fun W => by
            have h7 := entryOk_any e.index e.time e.client e.seq e.op.kind e.op.a e.op.b e.op.c e.op.d W
            rw [show entryOk ⟨e.index, e.time, e.client, e.seq, ⟨e.op.kind, e.op.a, e.op.b, e.op.c, e.op.d⟩⟩ = true from hok] at h7
            exact h7
          have HE := Lib.hid CE
          clear CE
          have HLA := Lib.hid (fun W => lastOf_any b t A n c W h0 h1 hn)
          have HTA := Lib.hid (fun W s => timeOf1_any b t A n c lo hi l W s (by omega))
          have S0 := Lib.hid (h.below (B := w.heap.size) (w' := ((w.alloc (.cells #[.int .i64 b, .int .i64 t, .slice A n c] 29)).alloc (.cells #[.int .i64 e.index, .int .i64 e.time, .int .i64 e.client, .int .i64 e.seq, .int .i64 e.op.kind, .int .i64 e.op.a, .int .i64 e.op.b, .int .i64 e.op.c, .int .i64 e.op.d] 37))) (by (repeat' (first | with_reducible exact Below.refl _ _ | with_reducible assumption | with_reducible refine Below.drew ?_ | with_reducible refine Below.alloc ?_ ?_ _ | with_reducible refine Below.setCell ?_ ?_ _ | with_reducible refine Below.trans ?_ (Below.mono (by assumption) ?_) | ((try simp only [World.heap_size_alloc, World.heap_size_drew, World.heap_size_setCell]); omega)))) hhi)
          have hhi1 : hi ≤ ((w.alloc (.cells #[.int .i64 b, .int .i64 t, .slice A n c] 29)).alloc (.cells #[.int .i64 e.index, .int .i64 e.time, .int .i64 e.client, .int .i64 e.seq, .int .i64 e.op.kind, .int .i64 e.op.a, .int .i64 e.op.b, .int .i64 e.op.c, .int .i64 e.op.d] 37)).heap.size := by (try simp only [World.heap_size_alloc, World.heap_size_drew, World.heap_size_setCell]); omega
          have dt : decide (e.time ≥ lastTime t l) = true := by simpa using ht
          have dt2 : decide (lastTime t l ≤ e.time) = true := by simpa using ht
          have d20 : decide ((n : Int) < 20) = false := by simp; omega
          have HIX := Lib.hid hix
          clear hok hix ht
          generalize lastTime t l = lt at *
          have hw9 : IntKind.i64.wrap (b + (n : Int) + 1) = b + (n : Int) + 1 := IntWalk.i64_in _ (by omega)
          go_enter Try.func73, Try.ntmps73
          go_wp2_with fail
          have v0 : ((w.alloc (.cells #[.int .i64 b, .int .i64 t, .slice A n c] 29)).alloc (.cells #[.int .i64 e.index, .int .i64 e.time, .int .i64 e.client, .int .i64 e.seq, .int .i64 e.op.kind, .int .i64 e.op.a, .int .i64 e.op.b, .int .i64 e.op.c, .int .i64 e.op.d] 37)).cell? ⟨w.heap.size, 0, none⟩ = some (.int .i64 b) := by simp
          have fv0 := fun d os => cell_regrown v0 d os
          have v1 : ((w.alloc (.cells #[.int .i64 b, .int .i64 t, .slice A n c] 29)).alloc (.cells #[.int .i64 e.index, .int .i64 e.time, .int .i64 e.client, .int .i64 e.seq, .int .i64 e.op.kind, .int .i64 e.op.a, .int .i64 e.op.b, .int .i64 e.op.c, .int .i64 e.op.d] 37)).cell? ⟨w.heap.size, 1, none⟩ = some (.int .i64 t) := by simp
          have fv1 := fun d os => cell_regrown v1 d os
          have v2 : ((w.alloc (.cells #[.int .i64 b, .int .i64 t, .slice A n c] 29)).alloc (.cells #[.int .i64 e.index, .int .i64 e.time, .int .i64 e.client, .int .i64 e.seq, .int .i64 e.op.kind, .int .i64 e.op.a, .int .i64 e.op.b, .int .i64 e.op.c, .int .i64 e.op.d] 37)).cell? ⟨w.heap.size, 2, none⟩ = some (.slice A n c) := by simp
          have fv2 := fun d os => cell_regrown v2 d os
          have u0 : ((w.alloc (.cells #[.int .i64 b, .int .i64 t, .slice A n c] 29)).alloc (.cells #[.int .i64 e.index, .int .i64 e.time, .int .i64 e.client, .int .i64 e.seq, .int .i64 e.op.kind, .int .i64 e.op.a, .int .i64 e.op.b, .int .i64 e.op.c, .int .i64 e.op.d] 37)).cell? ⟨w.heap.size + 1, 0, none⟩ = some (.int .i64 e.index) := by simp
          have fu0 := fun d os => cell_regrown u0 d os
          have u1 : ((w.alloc (.cells #[.int .i64 b, .int .i64 t, .slice A n c] 29)).alloc (.cells #[.int .i64 e.index, .int .i64 e.time, .int .i64 e.client, .int .i64 e.seq, .int .i64 e.op.kind, .int .i64 e.op.a, .int .i64 e.op.b, .int .i64 e.op.c, .int .i64 e.op.d] 37)).cell? ⟨w.heap.size + 1, 1, none⟩ = some (.int .i64 e.time) := by simp
          have fu1 := fun d os => cell_regrown u1 d os
          have u2 : ((w.alloc (.cells #[.int .i64 b, .int .i64 t, .slice A n c] 29)).alloc (.cells #[.int .i64 e.index, .int .i64 e.time, .int .i64 e.client, .int .i64 e.seq, .int .i64 e.op.kind, .int .i64 e.op.a, .int .i64 e.op.b, .int .i64 e.op.c, .int .i64 e.op.d] 37)).cell? ⟨w.heap.size + 1, 2, none⟩ = some (.int .i64 e.client) := by simp
          have fu2 := fun d os => cell_regrown u2 d os
          have u3 : ((w.alloc (.cells #[.int .i64 b, .int .i64 t, .slice A n c] 29)).alloc (.cells #[.int .i64 e.index, .int .i64 e.time, .int .i64 e.client, .int .i64 e.seq, .int .i64 e.op.kind, .int .i64 e.op.a, .int .i64 e.op.b, .int .i64 e.op.c, .int .i64 e.op.d] 37)).cell? ⟨w.heap.size + 1, 3, none⟩ = some (.int .i64 e.seq) := by simp
          have fu3 := fun d os => cell_regrown u3 d os
          have u4 : ((w.alloc (.cells #[.int .i64 b, .int .i64 t, .slice A n c] 29)).alloc (.cells #[.int .i64 e.index, .int .i64 e.time, .int .i64 e.client, .int .i64 e.seq, .int .i64 e.op.kind, .int .i64 e.op.a, .int .i64 e.op.b, .int .i64 e.op.c, .int .i64 e.op.d] 37)).cell? ⟨w.heap.size + 1, 4, none⟩ = some (.int .i64 e.op.kind) := by simp
          have fu4 := fun d os => cell_regrown u4 d os
          have u5 : ((w.alloc (.cells #[.int .i64 b, .int .i64 t, .slice A n c] 29)).alloc (.cells #[.int .i64 e.index, .int .i64 e.time, .int .i64 e.client, .int .i64 e.seq, .int .i64 e.op.kind, .int .i64 e.op.a, .int .i64 e.op.b, .int .i64 e.op.c, .int .i64 e.op.d] 37)).cell? ⟨w.heap.size + 1, 5, none⟩ = some (.int .i64 e.op.a) := by simp
          have fu5 := fun d os => cell_regrown u5 d os
          have u6 : ((w.alloc (.cells #[.int .i64 b, .int .i64 t, .slice A n c] 29)).alloc (.cells #[.int .i64 e.index, .int .i64 e.time, .int .i64 e.client, .int .i64 e.seq, .int .i64 e.op.kind, .int .i64 e.op.a, .int .i64 e.op.b, .int .i64 e.op.c, .int .i64 e.op.d] 37)).cell? ⟨w.heap.size + 1, 6, none⟩ = some (.int .i64 e.op.b) := by simp
          have fu6 := fun d os => cell_regrown u6 d os
          have u7 : ((w.alloc (.cells #[.int .i64 b, .int .i64 t, .slice A n c] 29)).alloc (.cells #[.int .i64 e.index, .int .i64 e.time, .int .i64 e.client, .int .i64 e.seq, .int .i64 e.op.kind, .int .i64 e.op.a, .int .i64 e.op.b, .int .i64 e.op.c, .int .i64 e.op.d] 37)).cell? ⟨w.heap.size + 1, 7, none⟩ = some (.int .i64 e.op.c) := by simp
          have fu7 := fun d os => cell_regrown u7 d os
          have u8 : ((w.alloc (.cells #[.int .i64 b, .int .i64 t, .slice A n c] 29)).alloc (.cells #[.int .i64 e.index, .int .i64 e.time, .int .i64 e.client, .int .i64 e.seq, .int .i64 e.op.kind, .int .i64 e.op.a, .int .i64 e.op.b, .int .i64 e.op.c, .int .i64 e.op.d] 37)).cell? ⟨w.heap.size + 1, 8, none⟩ = some (.int .i64 e.op.d) := by simp
          have fu8 := fun d os => cell_regrown u8 d os
          have hbw : Below w.heap.size w ((w.alloc (.cells #[.int .i64 b, .int .i64 t, .slice A n c] 29)).alloc (.cells #[.int .i64 e.index, .int .i64 e.time, .int .i64 e.client, .int .i64 e.seq, .int .i64 e.op.kind, .int .i64 e.op.a, .int .i64 e.op.b, .int .i64 e.op.c, .int .i64 e.op.d] 37)) := by (repeat' (first | with_reducible exact Below.refl _ _ | with_reducible assumption | with_reducible refine Below.drew ?_ | with_reducible refine Below.alloc ?_ ?_ _ | with_reducible refine Below.setCell ?_ ?_ _ | with_reducible refine Below.trans ?_ (Below.mono (by assumption) ?_) | ((try simp only [World.heap_size_alloc, World.heap_size_drew, World.heap_size_setCell]); omega)))
          refine wp_region_quiet_below (by kernel_rfl) (by kernel_rfl) ?_; (repeat (first | go_big_quiet_step ((first | (go_at_call 74; with_reducible exact Calls.regrown_of (HE.out _)) | (go_at_call 63; with_reducible exact Calls.regrown_of (HLA.out _)) | (go_at_call 66; with_reducible exact Calls.regrown_of (HTA.out _ (S0.out.below (below_regrown _ _ _) hhi1))))) | quiet_step ((first | (go_at_call 74; with_reducible exact Calls.regrown_of (HE.out _)) | (go_at_call 63; with_reducible exact Calls.regrown_of (HLA.out _)) | (go_at_call 66; with_reducible exact Calls.regrown_of (HTA.out _ (S0.out.below (below_regrown _ _ _) hhi1))))))); refine wpQuiet_nil ?_; intro _ hw'; obtain ⟨⟨nq, osq⟩, hw''⟩ := hw'; subst hw''; have hq := below_regrown ((w.alloc (.cells #[.int .i64 b, .int .i64 t, .slice A n c] 29)).alloc (.cells #[.int .i64 e.index, .int .i64 e.time, .int .i64 e.client, .int .i64 e.seq, .int .i64 e.op.kind, .int .i64 e.op.a, .int .i64 e.op.b, .int .i64 e.op.c, .int .i64 e.op.d] 37)) nq osq; generalize Sort.grow (redrawn ((w.alloc (.cells #[.int .i64 b, .int .i64 t, .slice A n c] 29)).alloc (.cells #[.int .i64 e.index, .int .i64 e.time, .int .i64 e.client, .int .i64 e.seq, .int .i64 e.op.kind, .int .i64 e.op.a, .int .i64 e.op.b, .int .i64 e.op.c, .int .i64 e.op.d] 37)) nq) osq = w3 at *
          have hw3 : Below w.heap.size w w3 := hbw.trans (hq.mono (by (try simp only [World.heap_size_alloc, World.heap_size_drew, World.heap_size_setCell]); omega))
          go_wp2
          go_ret
          exact ⟨by simp, hw3⟩
      · have e0 : fitsM b t l e = false := by
          unfold fitsM
          simp [ht]
        rw [e0]
        clear e0
        have CE : ∀ W, Calls Try.prog 74 #[.agg #[.int .i64 e.index, .int .i64 e.time, .int .i64 e.client, .int .i64 e.seq, .int .i64 e.op.kind, .int .i64 e.op.a, .int .i64 e.op.b, .int .i64 e.op.c, .int .i64 e.op.d]] W fun x w' => x = .returned (.bool true) ∧ Below W.heap.size W w' := fun W => by
          have h7 := entryOk_any e.index e.time e.client e.seq e.op.kind e.op.a e.op.b e.op.c e.op.d W
          rw [show entryOk ⟨e.index, e.time, e.client, e.seq, ⟨e.op.kind, e.op.a, e.op.b, e.op.c, e.op.d⟩⟩ = true from hok] at h7
          exact h7
        have HE := Lib.hid CE
        clear CE
        have HLA := Lib.hid (fun W => lastOf_any b t A n c W h0 h1 hn)
        have HTA := Lib.hid (fun W s => timeOf1_any b t A n c lo hi l W s (by omega))
        have S0 := Lib.hid (h.below (B := w.heap.size) (w' := ((w.alloc (.cells #[.int .i64 b, .int .i64 t, .slice A n c] 29)).alloc (.cells #[.int .i64 e.index, .int .i64 e.time, .int .i64 e.client, .int .i64 e.seq, .int .i64 e.op.kind, .int .i64 e.op.a, .int .i64 e.op.b, .int .i64 e.op.c, .int .i64 e.op.d] 37))) (by (repeat' (first | with_reducible exact Below.refl _ _ | with_reducible assumption | with_reducible refine Below.drew ?_ | with_reducible refine Below.alloc ?_ ?_ _ | with_reducible refine Below.setCell ?_ ?_ _ | with_reducible refine Below.trans ?_ (Below.mono (by assumption) ?_) | ((try simp only [World.heap_size_alloc, World.heap_size_drew, World.heap_size_setCell]); omega)))) hhi)
        have hhi1 : hi ≤ ((w.alloc (.cells #[.int .i64 b, .int .i64 t, .slice A n c] 29)).alloc (.cells #[.int .i64 e.index, .int .i64 e.time, .int .i64 e.client, .int .i64 e.seq, .int .i64 e.op.kind, .int .i64 e.op.a, .int .i64 e.op.b, .int .i64 e.op.c, .int .i64 e.op.d] 37)).heap.size := by (try simp only [World.heap_size_alloc, World.heap_size_drew, World.heap_size_setCell]); omega
        have dt : decide (e.time ≥ lastTime t l) = false := by simpa using ht
        have dt2 : decide (lastTime t l ≤ e.time) = false := by simpa using ht
        have HIX := Lib.hid hix
        clear hok hix ht
        generalize lastTime t l = lt at *
        have hw9 : IntKind.i64.wrap (b + (n : Int) + 1) = b + (n : Int) + 1 := IntWalk.i64_in _ (by omega)
        go_enter Try.func73, Try.ntmps73
        go_wp2_with fail
        have v0 : ((w.alloc (.cells #[.int .i64 b, .int .i64 t, .slice A n c] 29)).alloc (.cells #[.int .i64 e.index, .int .i64 e.time, .int .i64 e.client, .int .i64 e.seq, .int .i64 e.op.kind, .int .i64 e.op.a, .int .i64 e.op.b, .int .i64 e.op.c, .int .i64 e.op.d] 37)).cell? ⟨w.heap.size, 0, none⟩ = some (.int .i64 b) := by simp
        have fv0 := fun d os => cell_regrown v0 d os
        have v1 : ((w.alloc (.cells #[.int .i64 b, .int .i64 t, .slice A n c] 29)).alloc (.cells #[.int .i64 e.index, .int .i64 e.time, .int .i64 e.client, .int .i64 e.seq, .int .i64 e.op.kind, .int .i64 e.op.a, .int .i64 e.op.b, .int .i64 e.op.c, .int .i64 e.op.d] 37)).cell? ⟨w.heap.size, 1, none⟩ = some (.int .i64 t) := by simp
        have fv1 := fun d os => cell_regrown v1 d os
        have v2 : ((w.alloc (.cells #[.int .i64 b, .int .i64 t, .slice A n c] 29)).alloc (.cells #[.int .i64 e.index, .int .i64 e.time, .int .i64 e.client, .int .i64 e.seq, .int .i64 e.op.kind, .int .i64 e.op.a, .int .i64 e.op.b, .int .i64 e.op.c, .int .i64 e.op.d] 37)).cell? ⟨w.heap.size, 2, none⟩ = some (.slice A n c) := by simp
        have fv2 := fun d os => cell_regrown v2 d os
        have u0 : ((w.alloc (.cells #[.int .i64 b, .int .i64 t, .slice A n c] 29)).alloc (.cells #[.int .i64 e.index, .int .i64 e.time, .int .i64 e.client, .int .i64 e.seq, .int .i64 e.op.kind, .int .i64 e.op.a, .int .i64 e.op.b, .int .i64 e.op.c, .int .i64 e.op.d] 37)).cell? ⟨w.heap.size + 1, 0, none⟩ = some (.int .i64 e.index) := by simp
        have fu0 := fun d os => cell_regrown u0 d os
        have u1 : ((w.alloc (.cells #[.int .i64 b, .int .i64 t, .slice A n c] 29)).alloc (.cells #[.int .i64 e.index, .int .i64 e.time, .int .i64 e.client, .int .i64 e.seq, .int .i64 e.op.kind, .int .i64 e.op.a, .int .i64 e.op.b, .int .i64 e.op.c, .int .i64 e.op.d] 37)).cell? ⟨w.heap.size + 1, 1, none⟩ = some (.int .i64 e.time) := by simp
        have fu1 := fun d os => cell_regrown u1 d os
        have u2 : ((w.alloc (.cells #[.int .i64 b, .int .i64 t, .slice A n c] 29)).alloc (.cells #[.int .i64 e.index, .int .i64 e.time, .int .i64 e.client, .int .i64 e.seq, .int .i64 e.op.kind, .int .i64 e.op.a, .int .i64 e.op.b, .int .i64 e.op.c, .int .i64 e.op.d] 37)).cell? ⟨w.heap.size + 1, 2, none⟩ = some (.int .i64 e.client) := by simp
        have fu2 := fun d os => cell_regrown u2 d os
        have u3 : ((w.alloc (.cells #[.int .i64 b, .int .i64 t, .slice A n c] 29)).alloc (.cells #[.int .i64 e.index, .int .i64 e.time, .int .i64 e.client, .int .i64 e.seq, .int .i64 e.op.kind, .int .i64 e.op.a, .int .i64 e.op.b, .int .i64 e.op.c, .int .i64 e.op.d] 37)).cell? ⟨w.heap.size + 1, 3, none⟩ = some (.int .i64 e.seq) := by simp
        have fu3 := fun d os => cell_regrown u3 d os
        have u4 : ((w.alloc (.cells #[.int .i64 b, .int .i64 t, .slice A n c] 29)).alloc (.cells #[.int .i64 e.index, .int .i64 e.time, .int .i64 e.client, .int .i64 e.seq, .int .i64 e.op.kind, .int .i64 e.op.a, .int .i64 e.op.b, .int .i64 e.op.c, .int .i64 e.op.d] 37)).cell? ⟨w.heap.size + 1, 4, none⟩ = some (.int .i64 e.op.kind) := by simp
        have fu4 := fun d os => cell_regrown u4 d os
        have u5 : ((w.alloc (.cells #[.int .i64 b, .int .i64 t, .slice A n c] 29)).alloc (.cells #[.int .i64 e.index, .int .i64 e.time, .int .i64 e.client, .int .i64 e.seq, .int .i64 e.op.kind, .int .i64 e.op.a, .int .i64 e.op.b, .int .i64 e.op.c, .int .i64 e.op.d] 37)).cell? ⟨w.heap.size + 1, 5, none⟩ = some (.int .i64 e.op.a) := by simp
        have fu5 := fun d os => cell_regrown u5 d os
        have u6 : ((w.alloc (.cells #[.int .i64 b, .int .i64 t, .slice A n c] 29)).alloc (.cells #[.int .i64 e.index, .int .i64 e.time, .int .i64 e.client, .int .i64 e.seq, .int .i64 e.op.kind, .int .i64 e.op.a, .int .i64 e.op.b, .int .i64 e.op.c, .int .i64 e.op.d] 37)).cell? ⟨w.heap.size + 1, 6, none⟩ = some (.int .i64 e.op.b) := by simp
        have fu6 := fun d os => cell_regrown u6 d os
        have u7 : ((w.alloc (.cells #[.int .i64 b, .int .i64 t, .slice A n c] 29)).alloc (.cells #[.int .i64 e.index, .int .i64 e.time, .int .i64 e.client, .int .i64 e.seq, .int .i64 e.op.kind, .int .i64 e.op.a, .int .i64 e.op.b, .int .i64 e.op.c, .int .i64 e.op.d] 37)).cell? ⟨w.heap.size + 1, 7, none⟩ = some (.int .i64 e.op.c) := by simp
        have fu7 := fun d os => cell_regrown u7 d os
        have u8 : ((w.alloc (.cells #[.int .i64 b, .int .i64 t, .slice A n c] 29)).alloc (.cells #[.int .i64 e.index, .int .i64 e.time, .int .i64 e.client, .int .i64 e.seq, .int .i64 e.op.kind, .int .i64 e.op.a, .int .i64 e.op.b, .int .i64 e.op.c, .int .i64 e.op.d] 37)).cell? ⟨w.heap.size + 1, 8, none⟩ = some (.int .i64 e.op.d) := by simp
        have fu8 := fun d os => cell_regrown u8 d os
        have hbw : Below w.heap.size w ((w.alloc (.cells #[.int .i64 b, .int .i64 t, .slice A n c] 29)).alloc (.cells #[.int .i64 e.index, .int .i64 e.time, .int .i64 e.client, .int .i64 e.seq, .int .i64 e.op.kind, .int .i64 e.op.a, .int .i64 e.op.b, .int .i64 e.op.c, .int .i64 e.op.d] 37)) := by (repeat' (first | with_reducible exact Below.refl _ _ | with_reducible assumption | with_reducible refine Below.drew ?_ | with_reducible refine Below.alloc ?_ ?_ _ | with_reducible refine Below.setCell ?_ ?_ _ | with_reducible refine Below.trans ?_ (Below.mono (by assumption) ?_) | ((try simp only [World.heap_size_alloc, World.heap_size_drew, World.heap_size_setCell]); omega)))
        refine wp_region_quiet_below (by kernel_rfl) (by kernel_rfl) ?_; (repeat (first | go_big_quiet_step ((first | (go_at_call 74; with_reducible exact Calls.regrown_of (HE.out _)) | (go_at_call 63; with_reducible exact Calls.regrown_of (HLA.out _)) | (go_at_call 66; with_reducible exact Calls.regrown_of (HTA.out _ (S0.out.below (below_regrown _ _ _) hhi1))))) | quiet_step ((first | (go_at_call 74; with_reducible exact Calls.regrown_of (HE.out _)) | (go_at_call 63; with_reducible exact Calls.regrown_of (HLA.out _)) | (go_at_call 66; with_reducible exact Calls.regrown_of (HTA.out _ (S0.out.below (below_regrown _ _ _) hhi1))))))); refine wpQuiet_nil ?_; intro _ hw'; obtain ⟨⟨nq, osq⟩, hw''⟩ := hw'; subst hw''; have hq := below_regrown ((w.alloc (.cells #[.int .i64 b, .int .i64 t, .slice A n c] 29)).alloc (.cells #[.int .i64 e.index, .int .i64 e.time, .int .i64 e.client, .int .i64 e.seq, .int .i64 e.op.kind, .int .i64 e.op.a, .int .i64 e.op.b, .int .i64 e.op.c, .int .i64 e.op.d] 37)) nq osq; generalize Sort.grow (redrawn ((w.alloc (.cells #[.int .i64 b, .int .i64 t, .slice A n c] 29)).alloc (.cells #[.int .i64 e.index, .int .i64 e.time, .int .i64 e.client, .int .i64 e.seq, .int .i64 e.op.kind, .int .i64 e.op.a, .int .i64 e.op.b, .int .i64 e.op.c, .int .i64 e.op.d] 37)) nq) osq = w3 at *
        have hw3 : Below w.heap.size w w3 := hbw.trans (hq.mono (by (try simp only [World.heap_size_alloc, World.heap_size_drew, World.heap_size_setCell]); omega))
        go_wp2
        go_ret
        exact ⟨by simp, hw3⟩
    · have e0 : fitsM b t l e = false := by
        unfold fitsM
        rw [HL.out]; simp [hix]
      rw [e0]
      clear e0
      have CE : ∀ W, Calls Try.prog 74 #[.agg #[.int .i64 e.index, .int .i64 e.time, .int .i64 e.client, .int .i64 e.seq, .int .i64 e.op.kind, .int .i64 e.op.a, .int .i64 e.op.b, .int .i64 e.op.c, .int .i64 e.op.d]] W fun x w' => x = .returned (.bool true) ∧ Below W.heap.size W w' := fun W => by
        have h7 := entryOk_any e.index e.time e.client e.seq e.op.kind e.op.a e.op.b e.op.c e.op.d W
        rw [show entryOk ⟨e.index, e.time, e.client, e.seq, ⟨e.op.kind, e.op.a, e.op.b, e.op.c, e.op.d⟩⟩ = true from hok] at h7
        exact h7
      have HE := Lib.hid CE
      clear CE
      have HLA := Lib.hid (fun W => lastOf_any b t A n c W h0 h1 hn)
      have dx : (e.index == b + (n : Int) + 1) = false := by simpa using hix
      have HIX := Lib.hid hix
      clear hok hix
      have hw9 : IntKind.i64.wrap (b + (n : Int) + 1) = b + (n : Int) + 1 := IntWalk.i64_in _ (by omega)
      go_enter Try.func73, Try.ntmps73
      go_wp2_with fail
      have v0 : ((w.alloc (.cells #[.int .i64 b, .int .i64 t, .slice A n c] 29)).alloc (.cells #[.int .i64 e.index, .int .i64 e.time, .int .i64 e.client, .int .i64 e.seq, .int .i64 e.op.kind, .int .i64 e.op.a, .int .i64 e.op.b, .int .i64 e.op.c, .int .i64 e.op.d] 37)).cell? ⟨w.heap.size, 0, none⟩ = some (.int .i64 b) := by simp
      have fv0 := fun d os => cell_regrown v0 d os
      have v1 : ((w.alloc (.cells #[.int .i64 b, .int .i64 t, .slice A n c] 29)).alloc (.cells #[.int .i64 e.index, .int .i64 e.time, .int .i64 e.client, .int .i64 e.seq, .int .i64 e.op.kind, .int .i64 e.op.a, .int .i64 e.op.b, .int .i64 e.op.c, .int .i64 e.op.d] 37)).cell? ⟨w.heap.size, 1, none⟩ = some (.int .i64 t) := by simp
      have fv1 := fun d os => cell_regrown v1 d os
      have v2 : ((w.alloc (.cells #[.int .i64 b, .int .i64 t, .slice A n c] 29)).alloc (.cells #[.int .i64 e.index, .int .i64 e.time, .int .i64 e.client, .int .i64 e.seq, .int .i64 e.op.kind, .int .i64 e.op.a, .int .i64 e.op.b, .int .i64 e.op.c, .int .i64 e.op.d] 37)).cell? ⟨w.heap.size, 2, none⟩ = some (.slice A n c) := by simp
      have fv2 := fun d os => cell_regrown v2 d os
      have u0 : ((w.alloc (.cells #[.int .i64 b, .int .i64 t, .slice A n c] 29)).alloc (.cells #[.int .i64 e.index, .int .i64 e.time, .int .i64 e.client, .int .i64 e.seq, .int .i64 e.op.kind, .int .i64 e.op.a, .int .i64 e.op.b, .int .i64 e.op.c, .int .i64 e.op.d] 37)).cell? ⟨w.heap.size + 1, 0, none⟩ = some (.int .i64 e.index) := by simp
      have fu0 := fun d os => cell_regrown u0 d os
      have u1 : ((w.alloc (.cells #[.int .i64 b, .int .i64 t, .slice A n c] 29)).alloc (.cells #[.int .i64 e.index, .int .i64 e.time, .int .i64 e.client, .int .i64 e.seq, .int .i64 e.op.kind, .int .i64 e.op.a, .int .i64 e.op.b, .int .i64 e.op.c, .int .i64 e.op.d] 37)).cell? ⟨w.heap.size + 1, 1, none⟩ = some (.int .i64 e.time) := by simp
      have fu1 := fun d os => cell_regrown u1 d os
      have u2 : ((w.alloc (.cells #[.int .i64 b, .int .i64 t, .slice A n c] 29)).alloc (.cells #[.int .i64 e.index, .int .i64 e.time, .int .i64 e.client, .int .i64 e.seq, .int .i64 e.op.kind, .int .i64 e.op.a, .int .i64 e.op.b, .int .i64 e.op.c, .int .i64 e.op.d] 37)).cell? ⟨w.heap.size + 1, 2, none⟩ = some (.int .i64 e.client) := by simp
      have fu2 := fun d os => cell_regrown u2 d os
      have u3 : ((w.alloc (.cells #[.int .i64 b, .int .i64 t, .slice A n c] 29)).alloc (.cells #[.int .i64 e.index, .int .i64 e.time, .int .i64 e.client, .int .i64 e.seq, .int .i64 e.op.kind, .int .i64 e.op.a, .int .i64 e.op.b, .int .i64 e.op.c, .int .i64 e.op.d] 37)).cell? ⟨w.heap.size + 1, 3, none⟩ = some (.int .i64 e.seq) := by simp
      have fu3 := fun d os => cell_regrown u3 d os
      have u4 : ((w.alloc (.cells #[.int .i64 b, .int .i64 t, .slice A n c] 29)).alloc (.cells #[.int .i64 e.index, .int .i64 e.time, .int .i64 e.client, .int .i64 e.seq, .int .i64 e.op.kind, .int .i64 e.op.a, .int .i64 e.op.b, .int .i64 e.op.c, .int .i64 e.op.d] 37)).cell? ⟨w.heap.size + 1, 4, none⟩ = some (.int .i64 e.op.kind) := by simp
      have fu4 := fun d os => cell_regrown u4 d os
      have u5 : ((w.alloc (.cells #[.int .i64 b, .int .i64 t, .slice A n c] 29)).alloc (.cells #[.int .i64 e.index, .int .i64 e.time, .int .i64 e.client, .int .i64 e.seq, .int .i64 e.op.kind, .int .i64 e.op.a, .int .i64 e.op.b, .int .i64 e.op.c, .int .i64 e.op.d] 37)).cell? ⟨w.heap.size + 1, 5, none⟩ = some (.int .i64 e.op.a) := by simp
      have fu5 := fun d os => cell_regrown u5 d os
      have u6 : ((w.alloc (.cells #[.int .i64 b, .int .i64 t, .slice A n c] 29)).alloc (.cells #[.int .i64 e.index, .int .i64 e.time, .int .i64 e.client, .int .i64 e.seq, .int .i64 e.op.kind, .int .i64 e.op.a, .int .i64 e.op.b, .int .i64 e.op.c, .int .i64 e.op.d] 37)).cell? ⟨w.heap.size + 1, 6, none⟩ = some (.int .i64 e.op.b) := by simp
      have fu6 := fun d os => cell_regrown u6 d os
      have u7 : ((w.alloc (.cells #[.int .i64 b, .int .i64 t, .slice A n c] 29)).alloc (.cells #[.int .i64 e.index, .int .i64 e.time, .int .i64 e.client, .int .i64 e.seq, .int .i64 e.op.kind, .int .i64 e.op.a, .int .i64 e.op.b, .int .i64 e.op.c, .int .i64 e.op.d] 37)).cell? ⟨w.heap.size + 1, 7, none⟩ = some (.int .i64 e.op.c) := by simp
      have fu7 := fun d os => cell_regrown u7 d os
      have u8 : ((w.alloc (.cells #[.int .i64 b, .int .i64 t, .slice A n c] 29)).alloc (.cells #[.int .i64 e.index, .int .i64 e.time, .int .i64 e.client, .int .i64 e.seq, .int .i64 e.op.kind, .int .i64 e.op.a, .int .i64 e.op.b, .int .i64 e.op.c, .int .i64 e.op.d] 37)).cell? ⟨w.heap.size + 1, 8, none⟩ = some (.int .i64 e.op.d) := by simp
      have fu8 := fun d os => cell_regrown u8 d os
      have hbw : Below w.heap.size w ((w.alloc (.cells #[.int .i64 b, .int .i64 t, .slice A n c] 29)).alloc (.cells #[.int .i64 e.index, .int .i64 e.time, .int .i64 e.client, .int .i64 e.seq, .int .i64 e.op.kind, .int .i64 e.op.a, .int .i64 e.op.b, .int .i64 e.op.c, .int .i64 e.op.d] 37)) := by (repeat' (first | with_reducible exact Below.refl _ _ | with_reducible assumption | with_reducible refine Below.drew ?_ | with_reducible refine Below.alloc ?_ ?_ _ | with_reducible refine Below.setCell ?_ ?_ _ | with_reducible refine Below.trans ?_ (Below.mono (by assumption) ?_) | ((try simp only [World.heap_size_alloc, World.heap_size_drew, World.heap_size_setCell]); omega)))
      refine wp_region_quiet_below (by kernel_rfl) (by kernel_rfl) ?_; (repeat (first | go_big_quiet_step ((first | (go_at_call 74; with_reducible exact Calls.regrown_of (HE.out _)) | (go_at_call 63; with_reducible exact Calls.regrown_of (HLA.out _)))) | quiet_step ((first | (go_at_call 74; with_reducible exact Calls.regrown_of (HE.out _)) | (go_at_call 63; with_reducible exact Calls.regrown_of (HLA.out _)))))); refine wpQuiet_nil ?_; intro _ hw'; obtain ⟨⟨nq, osq⟩, hw''⟩ := hw'; subst hw''; have hq := below_regrown ((w.alloc (.cells #[.int .i64 b, .int .i64 t, .slice A n c] 29)).alloc (.cells #[.int .i64 e.index, .int .i64 e.time, .int .i64 e.client, .int .i64 e.seq, .int .i64 e.op.kind, .int .i64 e.op.a, .int .i64 e.op.b, .int .i64 e.op.c, .int .i64 e.op.d] 37)) nq osq; generalize Sort.grow (redrawn ((w.alloc (.cells #[.int .i64 b, .int .i64 t, .slice A n c] 29)).alloc (.cells #[.int .i64 e.index, .int .i64 e.time, .int .i64 e.client, .int .i64 e.seq, .int .i64 e.op.kind, .int .i64 e.op.a, .int .i64 e.op.b, .int .i64 e.op.c, .int .i64 e.op.d] 37)) nq) osq = w3 at *
      have hw3 : Below w.heap.size w w3 := hbw.trans (hq.mono (by (try simp only [World.heap_size_alloc, World.heap_size_drew, World.heap_size_setCell]); omega))
      go_wp2
      go_ret
      exact ⟨by simp, hw3⟩

end Go.Proofs.Ytijefbmnhcecmaa
