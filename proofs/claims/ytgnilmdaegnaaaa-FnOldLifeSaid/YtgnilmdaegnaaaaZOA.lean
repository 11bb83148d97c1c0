/- Books: the last index, the last time, what fits. No conditions. -/
import Derived.Test.YtgnilmdaegnaaaaZHelp
import Derived.Test.YtgnilmdaegnaaaaZEnts
import Derived.Lib.SmallJoins
import Derived.Deep.RegionHeld3
import Derived.Test.YtgnilmdaegnaaaaZScal
import Derived.Test.YtgnilmdaegnaaaaZTw6
import Derived.Test.YtgnilmdaegnaaaaZTw7
set_option linter.unusedSimpArgs false
set_option linter.unusedVariables false
namespace Go.Proofs.Ytgnilmdaegnaaaa
open Go.RowKit
def lastTime (t : Int) (l : List EntryD) : Int := ((l[l.length - 1]?).map (·.time)).getD t
set_option maxRecDepth 100000 in
set_option maxHeartbeats 400000 in
theorem lastOf_any (b t : Int) (A : Option Addr) (n c : Nat) (w : World) (h0 : 0 ≤ b) (h1 : b ≤ 2000) (hn : n ≤ 20) :
    Calls Try.prog 156 #[.agg #[.int .i64 b, .int .i64 t, .slice A n c]] w fun e w' => e = .returned (.int .i64 (b + (n : Int))) ∧ Below w.heap.size w w' := by
  go_enter Try.func156, Try.ntmps156
  go_wp2
  go_ret
  exact ⟨rfl, by (repeat' (first | with_reducible exact Below.refl _ _ | with_reducible assumption | with_reducible refine Below.drew ?_ | with_reducible refine Below.alloc ?_ ?_ _ | with_reducible refine Below.setCell ?_ ?_ _ | with_reducible refine Below.trans ?_ (Below.mono (by assumption) ?_) | ((try simp only [World.heap_size_alloc, World.heap_size_drew, World.heap_size_setCell]); omega)))⟩
set_option maxRecDepth 100000 in
set_option maxHeartbeats 1000000 in
theorem timeOf1_any (b t : Int) (A : Option Addr) (n c lo hi : Nat) (l : List EntryD) (w : World) (h : Sl w lo hi 9 A n c (l.flatMap EntryD.ints)) (hn : n ≤ 1000) :
    Calls Try.prog 179 #[.agg #[.int .i64 b, .int .i64 t, .slice A n c]] w fun e w' => e = .returned (.int .i64 (lastTime t l)) ∧ Below w.heap.size w w' := by
  have hl : l.length = n := h.count EntryD.ints_len (by omega)
  replace h := h.fit (by omega)
  rcases Nat.eq_zero_or_pos n with rfl | hpos
  · obtain rfl : l = [] := List.eq_nil_of_length_eq_zero hl
    rw [show lastTime t [] = t from rfl]
    clear h hl
    go_enter Try.func179, Try.ntmps179
    go_wp2
    go_ret
    exact ⟨rfl, by (repeat' (first | with_reducible exact Below.refl _ _ | with_reducible assumption | with_reducible refine Below.drew ?_ | with_reducible refine Below.alloc ?_ ?_ _ | with_reducible refine Below.setCell ?_ ?_ _ | with_reducible refine Below.trans ?_ (Below.mono (by assumption) ?_) | ((try simp only [World.heap_size_alloc, World.heap_size_drew, World.heap_size_setCell]); omega)))⟩
  · obtain ⟨q, rfl⟩ : ∃ q, n = q + 1 := ⟨n - 1, by omega⟩
    obtain ⟨g, off, e, rfl, _, hg, he, _, p1, _⟩ := h.entry (show q < q + 1 by omega)
    have hgw : g < w.heap.size := Nat.lt_of_lt_of_le hg (Nat.min_le_right _ _)
    have e0 : lastTime t l = e.time := by
      unfold lastTime
      rw [hl, Nat.add_sub_cancel, he]
      rfl
    rw [e0]
    have hq1 : ((q : Int) + 1 == 0) = false := by rw [beq_eq_false_iff_ne]; omega
    clear e0 he hl h
    go_enter Try.func179, Try.ntmps179
    go_wp2
    go_ret
    exact ⟨rfl, by (repeat' (first | with_reducible exact Below.refl _ _ | with_reducible assumption | with_reducible refine Below.drew ?_ | with_reducible refine Below.alloc ?_ ?_ _ | with_reducible refine Below.setCell ?_ ?_ _ | with_reducible refine Below.trans ?_ (Below.mono (by assumption) ?_) | ((try simp only [World.heap_size_alloc, World.heap_size_drew, World.heap_size_setCell]); omega)))⟩
def fitsM (b t : Int) (l : List EntryD) (e : EntryD) : Bool := entryOk e && (e.index == b + (l.length : Int) + 1 && (decide (lastTime t l ≤ e.time) && decide (l.length < 20)))
set_option maxRecDepth 100000 in
set_option maxHeartbeats 2000000 in
theorem fits_any (b t : Int) (A : Option Addr) (n c lo hi : Nat) (l : List EntryD) (e : EntryD) (w : World) (h : Sl w lo hi 9 A n c (l.flatMap EntryD.ints)) (h0 : 0 ≤ b) (h1 : b ≤ 2000) (hn : n ≤ 20) :
    Calls Try.prog 159 #[.agg #[.int .i64 b, .int .i64 t, .slice A n c], .agg #[.int .i64 e.index, .int .i64 e.time, .int .i64 e.client, .int .i64 e.seq, .int .i64 e.op.kind, .int .i64 e.op.a, .int .i64 e.op.b, .int .i64 e.op.c, .int .i64 e.op.d]] w fun x w' => x = .returned (.bool (fitsM b t l e)) ∧ Below w.heap.size w w' := by
  have HL := Lib.hid (h.count EntryD.ints_len (by omega) : l.length = n)
  replace h := h.fit (by omega)
  have hhi : min hi w.heap.size ≤ w.heap.size := Nat.min_le_right _ _
  generalize min hi w.heap.size = hi at h hhi
  have hnb : n ≤ 9223372036854775807 := by omega
  cases hok : entryOk e with
  | false =>
    have e0 : fitsM b t l e = false := by
      unfold fitsM
      rw [hok, Bool.false_and]
    rw [e0]
    clear e0
    have CE : ∀ W, Calls Try.prog 75 #[.agg #[.int .i64 e.index, .int .i64 e.time, .int .i64 e.client, .int .i64 e.seq, .int .i64 e.op.kind, .int .i64 e.op.a, .int .i64 e.op.b, .int .i64 e.op.c, .int .i64 e.op.d]] W fun x w' => x = .returned (.bool false) ∧ Below W.heap.size W w' := fun W => by
      have h7 := entryOk_any e.index e.time e.client e.seq e.op.kind e.op.a e.op.b e.op.c e.op.d W
      rw [show entryOk ⟨e.index, e.time, e.client, e.seq, ⟨e.op.kind, e.op.a, e.op.b, e.op.c, e.op.d⟩⟩ = false from hok] at h7
      exact h7
    have HE := Lib.hid CE
    clear CE
    clear hok
    go_enter Try.func159, Try.ntmps159
    go_wp2_with fail
    have v0 : ((w.alloc (.cells #[.int .i64 b, .int .i64 t, .slice A n c] 102)).alloc (.cells #[.int .i64 e.index, .int .i64 e.time, .int .i64 e.client, .int .i64 e.seq, .int .i64 e.op.kind, .int .i64 e.op.a, .int .i64 e.op.b, .int .i64 e.op.c, .int .i64 e.op.d] 32)).cell? ⟨w.heap.size, 0, none⟩ = some (.int .i64 b) := by simp
    have fv0 := fun d os => cell_regrown v0 d os
    have v1 : ((w.alloc (.cells #[.int .i64 b, .int .i64 t, .slice A n c] 102)).alloc (.cells #[.int .i64 e.index, .int .i64 e.time, .int .i64 e.client, .int .i64 e.seq, .int .i64 e.op.kind, .int .i64 e.op.a, .int .i64 e.op.b, .int .i64 e.op.c, .int .i64 e.op.d] 32)).cell? ⟨w.heap.size, 1, none⟩ = some (.int .i64 t) := by simp
    have fv1 := fun d os => cell_regrown v1 d os
    have v2 : ((w.alloc (.cells #[.int .i64 b, .int .i64 t, .slice A n c] 102)).alloc (.cells #[.int .i64 e.index, .int .i64 e.time, .int .i64 e.client, .int .i64 e.seq, .int .i64 e.op.kind, .int .i64 e.op.a, .int .i64 e.op.b, .int .i64 e.op.c, .int .i64 e.op.d] 32)).cell? ⟨w.heap.size, 2, none⟩ = some (.slice A n c) := by simp
    have fv2 := fun d os => cell_regrown v2 d os
    have u0 : ((w.alloc (.cells #[.int .i64 b, .int .i64 t, .slice A n c] 102)).alloc (.cells #[.int .i64 e.index, .int .i64 e.time, .int .i64 e.client, .int .i64 e.seq, .int .i64 e.op.kind, .int .i64 e.op.a, .int .i64 e.op.b, .int .i64 e.op.c, .int .i64 e.op.d] 32)).cell? ⟨w.heap.size + 1, 0, none⟩ = some (.int .i64 e.index) := by simp
    have fu0 := fun d os => cell_regrown u0 d os
    have u1 : ((w.alloc (.cells #[.int .i64 b, .int .i64 t, .slice A n c] 102)).alloc (.cells #[.int .i64 e.index, .int .i64 e.time, .int .i64 e.client, .int .i64 e.seq, .int .i64 e.op.kind, .int .i64 e.op.a, .int .i64 e.op.b, .int .i64 e.op.c, .int .i64 e.op.d] 32)).cell? ⟨w.heap.size + 1, 1, none⟩ = some (.int .i64 e.time) := by simp
    have fu1 := fun d os => cell_regrown u1 d os
    have u2 : ((w.alloc (.cells #[.int .i64 b, .int .i64 t, .slice A n c] 102)).alloc (.cells #[.int .i64 e.index, .int .i64 e.time, .int .i64 e.client, .int .i64 e.seq, .int .i64 e.op.kind, .int .i64 e.op.a, .int .i64 e.op.b, .int .i64 e.op.c, .int .i64 e.op.d] 32)).cell? ⟨w.heap.size + 1, 2, none⟩ = some (.int .i64 e.client) := by simp
    have fu2 := fun d os => cell_regrown u2 d os
    have u3 : ((w.alloc (.cells #[.int .i64 b, .int .i64 t, .slice A n c] 102)).alloc (.cells #[.int .i64 e.index, .int .i64 e.time, .int .i64 e.client, .int .i64 e.seq, .int .i64 e.op.kind, .int .i64 e.op.a, .int .i64 e.op.b, .int .i64 e.op.c, .int .i64 e.op.d] 32)).cell? ⟨w.heap.size + 1, 3, none⟩ = some (.int .i64 e.seq) := by simp
    have fu3 := fun d os => cell_regrown u3 d os
    have u4 : ((w.alloc (.cells #[.int .i64 b, .int .i64 t, .slice A n c] 102)).alloc (.cells #[.int .i64 e.index, .int .i64 e.time, .int .i64 e.client, .int .i64 e.seq, .int .i64 e.op.kind, .int .i64 e.op.a, .int .i64 e.op.b, .int .i64 e.op.c, .int .i64 e.op.d] 32)).cell? ⟨w.heap.size + 1, 4, none⟩ = some (.int .i64 e.op.kind) := by simp
    have fu4 := fun d os => cell_regrown u4 d os
    have u5 : ((w.alloc (.cells #[.int .i64 b, .int .i64 t, .slice A n c] 102)).alloc (.cells #[.int .i64 e.index, .int .i64 e.time, .int .i64 e.client, .int .i64 e.seq, .int .i64 e.op.kind, .int .i64 e.op.a, .int .i64 e.op.b, .int .i64 e.op.c, .int .i64 e.op.d] 32)).cell? ⟨w.heap.size + 1, 5, none⟩ = some (.int .i64 e.op.a) := by simp
    have fu5 := fun d os => cell_regrown u5 d os
    have u6 : ((w.alloc (.cells #[.int .i64 b, .int .i64 t, .slice A n c] 102)).alloc (.cells #[.int .i64 e.index, .int .i64 e.time, .int .i64 e.client, .int .i64 e.seq, .int .i64 e.op.kind, .int .i64 e.op.a, .int .i64 e.op.b, .int .i64 e.op.c, .int .i64 e.op.d] 32)).cell? ⟨w.heap.size + 1, 6, none⟩ = some (.int .i64 e.op.b) := by simp
    have fu6 := fun d os => cell_regrown u6 d os
    have u7 : ((w.alloc (.cells #[.int .i64 b, .int .i64 t, .slice A n c] 102)).alloc (.cells #[.int .i64 e.index, .int .i64 e.time, .int .i64 e.client, .int .i64 e.seq, .int .i64 e.op.kind, .int .i64 e.op.a, .int .i64 e.op.b, .int .i64 e.op.c, .int .i64 e.op.d] 32)).cell? ⟨w.heap.size + 1, 7, none⟩ = some (.int .i64 e.op.c) := by simp
    have fu7 := fun d os => cell_regrown u7 d os
    have u8 : ((w.alloc (.cells #[.int .i64 b, .int .i64 t, .slice A n c] 102)).alloc (.cells #[.int .i64 e.index, .int .i64 e.time, .int .i64 e.client, .int .i64 e.seq, .int .i64 e.op.kind, .int .i64 e.op.a, .int .i64 e.op.b, .int .i64 e.op.c, .int .i64 e.op.d] 32)).cell? ⟨w.heap.size + 1, 8, none⟩ = some (.int .i64 e.op.d) := by simp
    have fu8 := fun d os => cell_regrown u8 d os
    have hbw : Below w.heap.size w ((w.alloc (.cells #[.int .i64 b, .int .i64 t, .slice A n c] 102)).alloc (.cells #[.int .i64 e.index, .int .i64 e.time, .int .i64 e.client, .int .i64 e.seq, .int .i64 e.op.kind, .int .i64 e.op.a, .int .i64 e.op.b, .int .i64 e.op.c, .int .i64 e.op.d] 32)) := by (repeat' (first | with_reducible exact Below.refl _ _ | with_reducible assumption | with_reducible refine Below.drew ?_ | with_reducible refine Below.alloc ?_ ?_ _ | with_reducible refine Below.setCell ?_ ?_ _ | with_reducible refine Below.trans ?_ (Below.mono (by assumption) ?_) | ((try simp only [World.heap_size_alloc, World.heap_size_drew, World.heap_size_setCell]); omega)))
    refine wp_region_quiet_below (by kernel_rfl) (by kernel_rfl) ?_; (repeat (first | go_big_quiet_step ((first | (go_at_call 75; with_reducible exact Calls.regrown_of (HE.out _)))) | quiet_step ((first | (go_at_call 75; with_reducible exact Calls.regrown_of (HE.out _)))))); refine wpQuiet_nil ?_; intro _ hw'; obtain ⟨⟨nq, osq⟩, hw''⟩ := hw'; subst hw''; have hq := below_regrown ((w.alloc (.cells #[.int .i64 b, .int .i64 t, .slice A n c] 102)).alloc (.cells #[.int .i64 e.index, .int .i64 e.time, .int .i64 e.client, .int .i64 e.seq, .int .i64 e.op.kind, .int .i64 e.op.a, .int .i64 e.op.b, .int .i64 e.op.c, .int .i64 e.op.d] 32)) nq osq; generalize Sort.grow (redrawn ((w.alloc (.cells #[.int .i64 b, .int .i64 t, .slice A n c] 102)).alloc (.cells #[.int .i64 e.index, .int .i64 e.time, .int .i64 e.client, .int .i64 e.seq, .int .i64 e.op.kind, .int .i64 e.op.a, .int .i64 e.op.b, .int .i64 e.op.c, .int .i64 e.op.d] 32)) nq) osq = w3 at *
    have hw3 : Below w.heap.size w w3 := hbw.trans (hq.mono (by (try simp only [World.heap_size_alloc, World.heap_size_drew, World.heap_size_setCell]); omega))
    go_wp2
    go_ret
    exact ⟨by simp, hw3⟩
  | true =>
    by_cases hix : e.index = b + (n : Int) + 1
    · have dx : (e.index == b + (n : Int) + 1) = true := by simp [hix]
      by_cases ht : lastTime t l ≤ e.time
      · by_cases h20 : n < 20
        · have e0 : fitsM b t l e = true := by
            unfold fitsM
            rw [hok, HL.out, dx]; simp [ht, h20]
          rw [e0]
          clear e0
          have CE : ∀ W, Calls Try.prog 75 #[.agg #[.int .i64 e.index, .int .i64 e.time, .int .i64 e.client, .int .i64 e.seq, .int .i64 e.op.kind, .int .i64 e.op.a, .int .i64 e.op.b, .int .i64 e.op.c, .int .i64 e.op.d]] W fun x w' => x = .returned (.bool true) ∧ Below W.heap.size W w' := fun W => by
            have h7 := entryOk_any e.index e.time e.client e.seq e.op.kind e.op.a e.op.b e.op.c e.op.d W
            rw [show entryOk ⟨e.index, e.time, e.client, e.seq, ⟨e.op.kind, e.op.a, e.op.b, e.op.c, e.op.d⟩⟩ = true from hok] at h7
            exact h7
          have HE := Lib.hid CE
          clear CE
          have HLA := Lib.hid (fun W => lastOf_any b t A n c W h0 h1 hn)
          have HTA := Lib.hid (fun W s => timeOf1_any b t A n c lo hi l W s (by omega))
          have S0 := Lib.hid (h.below (B := w.heap.size) (w' := ((w.alloc (.cells #[.int .i64 b, .int .i64 t, .slice A n c] 102)).alloc (.cells #[.int .i64 e.index, .int .i64 e.time, .int .i64 e.client, .int .i64 e.seq, .int .i64 e.op.kind, .int .i64 e.op.a, .int .i64 e.op.b, .int .i64 e.op.c, .int .i64 e.op.d] 32))) (by (repeat' (first | with_reducible exact Below.refl _ _ | with_reducible assumption | with_reducible refine Below.drew ?_ | with_reducible refine Below.alloc ?_ ?_ _ | with_reducible refine Below.setCell ?_ ?_ _ | with_reducible refine Below.trans ?_ (Below.mono (by assumption) ?_) | ((try simp only [World.heap_size_alloc, World.heap_size_drew, World.heap_size_setCell]); omega)))) hhi)
          have hhi1 : hi ≤ ((w.alloc (.cells #[.int .i64 b, .int .i64 t, .slice A n c] 102)).alloc (.cells #[.int .i64 e.index, .int .i64 e.time, .int .i64 e.client, .int .i64 e.seq, .int .i64 e.op.kind, .int .i64 e.op.a, .int .i64 e.op.b, .int .i64 e.op.c, .int .i64 e.op.d] 32)).heap.size := by (try simp only [World.heap_size_alloc, World.heap_size_drew, World.heap_size_setCell]); omega
          have dt : decide (e.time ≥ lastTime t l) = true := by simpa using ht
          have dt2 : decide (lastTime t l ≤ e.time) = true := by simpa using ht
          have d20 : decide ((n : Int) < 20) = true := by simp; omega
          have HIX := Lib.hid hix
          clear hok hix ht
          generalize lastTime t l = lt at *
          have hw9 : IntKind.i64.wrap (b + (n : Int) + 1) = b + (n : Int) + 1 := IntWalk.i64_in _ (by omega)
          go_enter Try.func159, Try.ntmps159
          go_wp2_with fail
          have v0 : ((w.alloc (.cells #[.int .i64 b, .int .i64 t, .slice A n c] 102)).alloc (.cells #[.int .i64 e.index, .int .i64 e.time, .int .i64 e.client, .int .i64 e.seq, .int .i64 e.op.kind, .int .i64 e.op.a, .int .i64 e.op.b, .int .i64 e.op.c, .int .i64 e.op.d] 32)).cell? ⟨w.heap.size, 0, none⟩ = some (.int .i64 b) := by simp
          have fv0 := fun d os => cell_regrown v0 d os
          have v1 : ((w.alloc (.cells #[.int .i64 b, .int .i64 t, .slice A n c] 102)).alloc (.cells #[.int .i64 e.index, .int .i64 e.time, .int .i64 e.client, .int .i64 e.seq, .int .i64 e.op.kind, .int .i64 e.op.a, .int .i64 e.op.b, .int .i64 e.op.c, .int .i64 e.op.d] 32)).cell? ⟨w.heap.size, 1, none⟩ = some (.int .i64 t) := by simp
          have fv1 := fun d os => cell_regrown v1 d os
          have v2 : ((w.alloc (.cells #[.int .i64 b, .int .i64 t, .slice A n c] 102)).alloc (.cells #[.int .i64 e.index, .int .i64 e.time, .int .i64 e.client, .int .i64 e.seq, .int .i64 e.op.kind, .int .i64 e.op.a, .int .i64 e.op.b, .int .i64 e.op.c, .int .i64 e.op.d] 32)).cell? ⟨w.heap.size, 2, none⟩ = some (.slice A n c) := by simp
          have fv2 := fun d os => cell_regrown v2 d os
          have u0 : ((w.alloc (.cells #[.int .i64 b, .int .i64 t, .slice A n c] 102)).alloc (.cells #[.int .i64 e.index, .int .i64 e.time, .int .i64 e.client, .int .i64 e.seq, .int .i64 e.op.kind, .int .i64 e.op.a, .int .i64 e.op.b, .int .i64 e.op.c, .int .i64 e.op.d] 32)).cell? ⟨w.heap.size + 1, 0, none⟩ = some (.int .i64 e.index) := by simp
          have fu0 := fun d os => cell_regrown u0 d os
          have u1 : ((w.alloc (.cells #[.int .i64 b, .int .i64 t, .slice A n c] 102)).alloc (.cells #[.int .i64 e.index, .int .i64 e.time, .int .i64 e.client, .int .i64 e.seq, .int .i64 e.op.kind, .int .i64 e.op.a, .int .i64 e.op.b, .int .i64 e.op.c, .int .i64 e.op.d] 32)).cell? ⟨w.heap.size + 1, 1, none⟩ = some (.int .i64 e.time) := by simp
          have fu1 := fun d os => cell_regrown u1 d os
          have u2 : ((w.alloc (.cells #[.int .i64 b, .int .i64 t, .slice A n c] 102)).alloc (.cells #[.int .i64 e.index, .int .i64 e.time, .int .i64 e.client, .int .i64 e.seq, .int .i64 e.op.kind, .int .i64 e.op.a, .int .i64 e.op.b, .int .i64 e.op.c, .int .i64 e.op.d] 32)).cell? ⟨w.heap.size + 1, 2, none⟩ = some (.int .i64 e.client) := by simp
          have fu2 := fun d os => cell_regrown u2 d os
          have u3 : ((w.alloc (.cells #[.int .i64 b, .int .i64 t, .slice A n c] 102)).alloc (.cells #[.int .i64 e.index, .int .i64 e.time, .int .i64 e.client, .int .i64 e.seq, .int .i64 e.op.kind, .int .i64 e.op.a, .int .i64 e.op.b, .int .i64 e.op.c, .int .i64 e.op.d] 32)).cell? ⟨w.heap.size + 1, 3, none⟩ = some (.int .i64 e.seq) := by simp
          have fu3 := fun d os => cell_regrown u3 d os
          have u4 : ((w.alloc (.cells #[.int .i64 b, .int .i64 t, .slice A n c] 102)).alloc (.cells #[.int .i64 e.index, .int .i64 e.time, .int .i64 e.client, .int .i64 e.seq, .int .i64 e.op.kind, .int .i64 e.op.a, .int .i64 e.op.b, .int .i64 e.op.c, .int .i64 e.op.d] 32)).cell? ⟨w.heap.size + 1, 4, none⟩ = some (.int .i64 e.op.kind) := by simp
          have fu4 := fun d os => cell_regrown u4 d os
          have u5 : ((w.alloc (.cells #[.int .i64 b, .int .i64 t, .slice A n c] 102)).alloc (.cells #[.int .i64 e.index, .int .i64 e.time, .int .i64 e.client, .int .i64 e.seq, .int .i64 e.op.kind, .int .i64 e.op.a, .int .i64 e.op.b, .int .i64 e.op.c, .int .i64 e.op.d] 32)).cell? ⟨w.heap.size + 1, 5, none⟩ = some (.int .i64 e.op.a) := by simp
          have fu5 := fun d os => cell_regrown u5 d os
          have u6 : ((w.alloc (.cells #[.int .i64 b, .int .i64 t, .slice A n c] 102)).alloc (.cells #[.int .i64 e.index, .int .i64 e.time, .int .i64 e.client, .int .i64 e.seq, .int .i64 e.op.kind, .int .i64 e.op.a, .int .i64 e.op.b, .int .i64 e.op.c, .int .i64 e.op.d] 32)).cell? ⟨w.heap.size + 1, 6, none⟩ = some (.int .i64 e.op.b) := by simp
          have fu6 := fun d os => cell_regrown u6 d os
          have u7 : ((w.alloc (.cells #[.int .i64 b, .int .i64 t, .slice A n c] 102)).alloc (.cells #[.int .i64 e.index, .int .i64 e.time, .int .i64 e.client, .int .i64 e.seq, .int .i64 e.op.kind, .int .i64 e.op.a, .int .i64 e.op.b, .int .i64 e.op.c, .int .i64 e.op.d] 32)).cell? ⟨w.heap.size + 1, 7, none⟩ = some (.int .i64 e.op.c) := by simp
          have fu7 := fun d os => cell_regrown u7 d os
          have u8 : ((w.alloc (.cells #[.int .i64 b, .int .i64 t, .slice A n c] 102)).alloc (.cells #[.int .i64 e.index, .int .i64 e.time, .int .i64 e.client, .int .i64 e.seq, .int .i64 e.op.kind, .int .i64 e.op.a, .int .i64 e.op.b, .int .i64 e.op.c, .int .i64 e.op.d] 32)).cell? ⟨w.heap.size + 1, 8, none⟩ = some (.int .i64 e.op.d) := by simp
          have fu8 := fun d os => cell_regrown u8 d os
          have hbw : Below w.heap.size w ((w.alloc (.cells #[.int .i64 b, .int .i64 t, .slice A n c] 102)).alloc (.cells #[.int .i64 e.index, .int .i64 e.time, .int .i64 e.client, .int .i64 e.seq, .int .i64 e.op.kind, .int .i64 e.op.a, .int .i64 e.op.b, .int .i64 e.op.c, .int .i64 e.op.d] 32)) := by (repeat' (first | with_reducible exact Below.refl _ _ | with_reducible assumption | with_reducible refine Below.drew ?_ | with_reducible refine Below.alloc ?_ ?_ _ | with_reducible refine Below.setCell ?_ ?_ _ | with_reducible refine Below.trans ?_ (Below.mono (by assumption) ?_) | ((try simp only [World.heap_size_alloc, World.heap_size_drew, World.heap_size_setCell]); omega)))
          refine wp_region_quiet_below (by kernel_rfl) (by kernel_rfl) ?_; (repeat (first | go_big_quiet_step ((first | (go_at_call 75; with_reducible exact Calls.regrown_of (HE.out _)) | (go_at_call 156; with_reducible exact Calls.regrown_of (HLA.out _)) | (go_at_call 179; with_reducible exact Calls.regrown_of (HTA.out _ (S0.out.below (below_regrown _ _ _) hhi1))))) | quiet_step ((first | (go_at_call 75; with_reducible exact Calls.regrown_of (HE.out _)) | (go_at_call 156; with_reducible exact Calls.regrown_of (HLA.out _)) | (go_at_call 179; with_reducible exact Calls.regrown_of (HTA.out _ (S0.out.below (below_regrown _ _ _) hhi1))))))); refine wpQuiet_nil ?_; intro _ hw'; obtain ⟨⟨nq, osq⟩, hw''⟩ := hw'; subst hw''; have hq := below_regrown ((w.alloc (.cells #[.int .i64 b, .int .i64 t, .slice A n c] 102)).alloc (.cells #[.int .i64 e.index, .int .i64 e.time, .int .i64 e.client, .int .i64 e.seq, .int .i64 e.op.kind, .int .i64 e.op.a, .int .i64 e.op.b, .int .i64 e.op.c, .int .i64 e.op.d] 32)) nq osq; generalize Sort.grow (redrawn ((w.alloc (.cells #[.int .i64 b, .int .i64 t, .slice A n c] 102)).alloc (.cells #[.int .i64 e.index, .int .i64 e.time, .int .i64 e.client, .int .i64 e.seq, .int .i64 e.op.kind, .int .i64 e.op.a, .int .i64 e.op.b, .int .i64 e.op.c, .int .i64 e.op.d] 32)) nq) osq = w3 at *
          have hw3 : Below w.heap.size w w3 := hbw.trans (hq.mono (by (try simp only [World.heap_size_alloc, World.heap_size_drew, World.heap_size_setCell]); omega))
          go_wp2
          go_ret
          exact ⟨by simp, hw3⟩
        · have e0 : fitsM b t l e = false := by
            unfold fitsM
            rw [HL.out]; simp [h20]
          rw [e0]
          clear e0
          have CE : ∀ W, Calls Try.prog 75 #[.agg #[.int .i64 e.index, .int .i64 e.time, .int .i64 e.client, .int .i64 e.seq, .int .i64 e.op.kind, .int .i64 e.op.a, .int .i64 e.op.b, .int .i64 e.op.c, .int .i64 e.op.d]] W fun x w' => x = .returned (.bool true) ∧ Below W.heap.size W w' := fun W => by
            have h7 := entryOk_any e.index e.time e.client e.seq e.op.kind e.op.a e.op.b e.op.c e.op.d W
            rw [show entryOk ⟨e.index, e.time, e.client, e.seq, ⟨e.op.kind, e.op.a, e.op.b, e.op.c, e.op.d⟩⟩ = true from hok] at h7
            exact h7
          have HE := Lib.hid CE
          clear CE
          have HLA := Lib.hid (fun W => lastOf_any b t A n c W h0 h1 hn)
          have HTA := Lib.hid (fun W s => timeOf1_any b t A n c lo hi l W s (by omega))
          have S0 := Lib.hid (h.below (B := w.heap.size) (w' := ((w.alloc (.cells #[.int .i64 b, .int .i64 t, .slice A n c] 102)).alloc (.cells #[.int .i64 e.index, .int .i64 e.time, .int .i64 e.client, .int .i64 e.seq, .int .i64 e.op.kind, .int .i64 e.op.a, .int .i64 e.op.b, .int .i64 e.op.c, .int .i64 e.op.d] 32))) (by (repeat' (first | with_reducible exact Below.refl _ _ | with_reducible assumption | with_reducible refine Below.drew ?_ | with_reducible refine Below.alloc ?_ ?_ _ | with_reducible refine Below.setCell ?_ ?_ _ | with_reducible refine Below.trans ?_ (Below.mono (by assumption) ?_) | ((try simp only [World.heap_size_alloc, World.heap_size_drew, World.heap_size_setCell]); omega)))) hhi)
          have hhi1 : hi ≤ ((w.alloc (.cells #[.int .i64 b, .int .i64 t, .slice A n c] 102)).alloc (.cells #[.int .i64 e.index, .int .i64 e.time, .int .i64 e.client, .int .i64 e.seq, .int .i64 e.op.kind, .int .i64 e.op.a, .int .i64 e.op.b, .int .i64 e.op.c, .int .i64 e.op.d] 32)).heap.size := by (try simp only [World.heap_size_alloc, World.heap_size_drew, World.heap_size_setCell]); omega
          have dt : decide (e.time ≥ lastTime t l) = true := by simpa using ht
          have dt2 : decide (lastTime t l ≤ e.time) = true := by simpa using ht
          have d20 : decide ((n : Int) < 20) = false := by simp; omega
          have HIX := Lib.hid hix
          clear hok hix ht
          generalize lastTime t l = lt at *
          have hw9 : IntKind.i64.wrap (b + (n : Int) + 1) = b + (n : Int) + 1 := IntWalk.i64_in _ (by omega)
          go_enter Try.func159, Try.ntmps159
          go_wp2_with fail
          have v0 : ((w.alloc (.cells #[.int .i64 b, .int .i64 t, .slice A n c] 102)).alloc (.cells #[.int .i64 e.index, .int .i64 e.time, .int .i64 e.client, .int .i64 e.seq, .int .i64 e.op.kind, .int .i64 e.op.a, .int .i64 e.op.b, .int .i64 e.op.c, .int .i64 e.op.d] 32)).cell? ⟨w.heap.size, 0, none⟩ = some (.int .i64 b) := by simp
          have fv0 := fun d os => cell_regrown v0 d os
          have v1 : ((w.alloc (.cells #[.int .i64 b, .int .i64 t, .slice A n c] 102)).alloc (.cells #[.int .i64 e.index, .int .i64 e.time, .int .i64 e.client, .int .i64 e.seq, .int .i64 e.op.kind, .int .i64 e.op.a, .int .i64 e.op.b, .int .i64 e.op.c, .int .i64 e.op.d] 32)).cell? ⟨w.heap.size, 1, none⟩ = some (.int .i64 t) := by simp
          have fv1 := fun d os => cell_regrown v1 d os
          have v2 : ((w.alloc (.cells #[.int .i64 b, .int .i64 t, .slice A n c] 102)).alloc (.cells #[.int .i64 e.index, .int .i64 e.time, .int .i64 e.client, .int .i64 e.seq, .int .i64 e.op.kind, .int .i64 e.op.a, .int .i64 e.op.b, .int .i64 e.op.c, .int .i64 e.op.d] 32)).cell? ⟨w.heap.size, 2, none⟩ = some (.slice A n c) := by simp
          have fv2 := fun d os => cell_regrown v2 d os
          have u0 : ((w.alloc (.cells #[.int .i64 b, .int .i64 t, .slice A n c] 102)).alloc (.cells #[.int .i64 e.index, .int .i64 e.time, .int .i64 e.client, .int .i64 e.seq, .int .i64 e.op.kind, .int .i64 e.op.a, .int .i64 e.op.b, .int .i64 e.op.c, .int .i64 e.op.d] 32)).cell? ⟨w.heap.size + 1, 0, none⟩ = some (.int .i64 e.index) := by simp
          have fu0 := fun d os => cell_regrown u0 d os
          have u1 : ((w.alloc (.cells #[.int .i64 b, .int .i64 t, .slice A n c] 102)).alloc (.cells #[.int .i64 e.index, .int .i64 e.time, .int .i64 e.client, .int .i64 e.seq, .int .i64 e.op.kind, .int .i64 e.op.a, .int .i64 e.op.b, .int .i64 e.op.c, .int .i64 e.op.d] 32)).cell? ⟨w.heap.size + 1, 1, none⟩ = some (.int .i64 e.time) := by simp
          have fu1 := fun d os => cell_regrown u1 d os
          have u2 : ((w.alloc (.cells #[.int .i64 b, .int .i64 t, .slice A n c] 102)).alloc (.cells #[.int .i64 e.index, .int .i64 e.time, .int .i64 e.client, .int .i64 e.seq, .int .i64 e.op.kind, .int .i64 e.op.a, .int .i64 e.op.b, .int .i64 e.op.c, .int .i64 e.op.d] 32)).cell? ⟨w.heap.size + 1, 2, none⟩ = some (.int .i64 e.client) := by simp
          have fu2 := fun d os => cell_regrown u2 d os
          have u3 : ((w.alloc (.cells #[.int .i64 b, .int .i64 t, .slice A n c] 102)).alloc (.cells #[.int .i64 e.index, .int .i64 e.time, .int .i64 e.client, .int .i64 e.seq, .int .i64 e.op.kind, .int .i64 e.op.a, .int .i64 e.op.b, .int .i64 e.op.c, .int .i64 e.op.d] 32)).cell? ⟨w.heap.size + 1, 3, none⟩ = some (.int .i64 e.seq) := by simp
          have fu3 := fun d os => cell_regrown u3 d os
          have u4 : ((w.alloc (.cells #[.int .i64 b, .int .i64 t, .slice A n c] 102)).alloc (.cells #[.int .i64 e.index, .int .i64 e.time, .int .i64 e.client, .int .i64 e.seq, .int .i64 e.op.kind, .int .i64 e.op.a, .int .i64 e.op.b, .int .i64 e.op.c, .int .i64 e.op.d] 32)).cell? ⟨w.heap.size + 1, 4, none⟩ = some (.int .i64 e.op.kind) := by simp
          have fu4 := fun d os => cell_regrown u4 d os
          have u5 : ((w.alloc (.cells #[.int .i64 b, .int .i64 t, .slice A n c] 102)).alloc (.cells #[.int .i64 e.index, .int .i64 e.time, .int .i64 e.client, .int .i64 e.seq, .int .i64 e.op.kind, .int .i64 e.op.a, .int .i64 e.op.b, .int .i64 e.op.c, .int .i64 e.op.d] 32)).cell? ⟨w.heap.size + 1, 5, none⟩ = some (.int .i64 e.op.a) := by simp
          have fu5 := fun d os => cell_regrown u5 d os
          have u6 : ((w.alloc (.cells #[.int .i64 b, .int .i64 t, .slice A n c] 102)).alloc (.cells #[.int .i64 e.index, .int .i64 e.time, .int .i64 e.client, .int .i64 e.seq, .int .i64 e.op.kind, .int .i64 e.op.a, .int .i64 e.op.b, .int .i64 e.op.c, .int .i64 e.op.d] 32)).cell? ⟨w.heap.size + 1, 6, none⟩ = some (.int .i64 e.op.b) := by simp
          have fu6 := fun d os => cell_regrown u6 d os
          have u7 : ((w.alloc (.cells #[.int .i64 b, .int .i64 t, .slice A n c] 102)).alloc (.cells #[.int .i64 e.index, .int .i64 e.time, .int .i64 e.client, .int .i64 e.seq, .int .i64 e.op.kind, .int .i64 e.op.a, .int .i64 e.op.b, .int .i64 e.op.c, .int .i64 e.op.d] 32)).cell? ⟨w.heap.size + 1, 7, none⟩ = some (.int .i64 e.op.c) := by simp
          have fu7 := fun d os => cell_regrown u7 d os
          have u8 : ((w.alloc (.cells #[.int .i64 b, .int .i64 t, .slice A n c] 102)).alloc (.cells #[.int .i64 e.index, .int .i64 e.time, .int .i64 e.client, .int .i64 e.seq, .int .i64 e.op.kind, .int .i64 e.op.a, .int .i64 e.op.b, .int .i64 e.op.c, .int .i64 e.op.d] 32)).cell? ⟨w.heap.size + 1, 8, none⟩ = some (.int .i64 e.op.d) := by simp
          have fu8 := fun d os => cell_regrown u8 d os
          have hbw : Below w.heap.size w ((w.alloc (.cells #[.int .i64 b, .int .i64 t, .slice A n c] 102)).alloc (.cells #[.int .i64 e.index, .int .i64 e.time, .int .i64 e.client, .int .i64 e.seq, .int .i64 e.op.kind, .int .i64 e.op.a, .int .i64 e.op.b, .int .i64 e.op.c, .int .i64 e.op.d] 32)) := by (repeat' (first | with_reducible exact Below.refl _ _ | with_reducible assumption | with_reducible refine Below.drew ?_ | with_reducible refine Below.alloc ?_ ?_ _ | with_reducible refine Below.setCell ?_ ?_ _ | with_reducible refine Below.trans ?_ (Below.mono (by assumption) ?_) | ((try simp only [World.heap_size_alloc, World.heap_size_drew, World.heap_size_setCell]); omega)))
          refine wp_region_quiet_below (by kernel_rfl) (by kernel_rfl) ?_; (repeat (first | go_big_quiet_step ((first | (go_at_call 75; with_reducible exact Calls.regrown_of (HE.out _)) | (go_at_call 156; with_reducible exact Calls.regrown_of (HLA.out _)) | (go_at_call 179; with_reducible exact Calls.regrown_of (HTA.out _ (S0.out.below (below_regrown _ _ _) hhi1))))) | quiet_step ((first | (go_at_call 75; with_reducible exact Calls.regrown_of (HE.out _)) | (go_at_call 156; with_reducible exact Calls.regrown_of (HLA.out _)) | (go_at_call 179; with_reducible exact Calls.regrown_of (HTA.out _ (S0.out.below (below_regrown _ _ _) hhi1))))))); refine wpQuiet_nil ?_; intro _ hw'; obtain ⟨⟨nq, osq⟩, hw''⟩ := hw'; subst hw''; have hq := below_regrown ((w.alloc (.cells #[.int .i64 b, .int .i64 t, .slice A n c] 102)).alloc (.cells #[.int .i64 e.index, .int .i64 e.time, .int .i64 e.client, .int .i64 e.seq, .int .i64 e.op.kind, .int .i64 e.op.a, .int .i64 e.op.b, .int .i64 e.op.c, .int .i64 e.op.d] 32)) nq osq; generalize Sort.grow (redrawn ((w.alloc (.cells #[.int .i64 b, .int .i64 t, .slice A n c] 102)).alloc (.cells #[.int .i64 e.index, .int .i64 e.time, .int .i64 e.client, .int .i64 e.seq, .int .i64 e.op.kind, .int .i64 e.op.a, .int .i64 e.op.b, .int .i64 e.op.c, .int .i64 e.op.d] 32)) nq) osq = w3 at *
          have hw3 : Below w.heap.size w w3 := hbw.trans (hq.mono (by (try simp only [World.heap_size_alloc, World.heap_size_drew, World.heap_size_setCell]); omega))
          go_wp2
          go_ret
          exact ⟨by simp, hw3⟩
      · have e0 : fitsM b t l e = false := by
          unfold fitsM
          simp [ht]
        rw [e0]
        clear e0
        have CE : ∀ W, Calls Try.prog 75 #[.agg #[.int .i64 e.index, .int .i64 e.time, .int .i64 e.client, .int .i64 e.seq, .int .i64 e.op.kind, .int .i64 e.op.a, .int .i64 e.op.b, .int .i64 e.op.c, .int .i64 e.op.d]] W fun x w' => x = .returned (.bool true) ∧ Below W.heap.size W w' := fun W => by
          have h7 := entryOk_any e.index e.time e.client e.seq e.op.kind e.op.a e.op.b e.op.c e.op.d W
          rw [show entryOk ⟨e.index, e.time, e.client, e.seq, ⟨e.op.kind, e.op.a, e.op.b, e.op.c, e.op.d⟩⟩ = true from hok] at h7
          exact h7
        have HE := Lib.hid CE
        clear CE
        have HLA := Lib.hid (fun W => lastOf_any b t A n c W h0 h1 hn)
        have HTA := Lib.hid (fun W s => timeOf1_any b t A n c lo hi l W s (by omega))
        have S0 := Lib.hid (h.below (B := w.heap.size) (w' := ((w.alloc (.cells #[.int .i64 b, .int .i64 t, .slice A n c] 102)).alloc (.cells #[.int .i64 e.index, .int .i64 e.time, .int .i64 e.client, .int .i64 e.seq, .int .i64 e.op.kind, .int .i64 e.op.a, .int .i64 e.op.b, .int .i64 e.op.c, .int .i64 e.op.d] 32))) (by (repeat' (first | with_reducible exact Below.refl _ _ | with_reducible assumption | with_reducible refine Below.drew ?_ | with_reducible refine Below.alloc ?_ ?_ _ | with_reducible refine Below.setCell ?_ ?_ _ | with_reducible refine Below.trans ?_ (Below.mono (by assumption) ?_) | ((try simp only [World.heap_size_alloc, World.heap_size_drew, World.heap_size_setCell]); omega)))) hhi)
        have hhi1 : hi ≤ ((w.alloc (.cells #[.int .i64 b, .int .i64 t, .slice A n c] 102)).alloc (.cells #[.int .i64 e.index, .int .i64 e.time, .int .i64 e.client, .int .i64 e.seq, .int .i64 e.op.kind, .int .i64 e.op.a, .int .i64 e.op.b, .int .i64 e.op.c, .int .i64 e.op.d] 32)).heap.size := by (try simp only [World.heap_size_alloc, World.heap_size_drew, World.heap_size_setCell]); omega
        have dt : decide (e.time ≥ lastTime t l) = false := by simpa using ht
        have dt2 : decide (lastTime t l ≤ e.time) = false := by simpa using ht
        have HIX := Lib.hid hix
        clear hok hix ht
        generalize lastTime t l = lt at *
        have hw9 : IntKind.i64.wrap (b + (n : Int) + 1) = b + (n : Int) + 1 := IntWalk.i64_in _ (by omega)
        go_enter Try.func159, Try.ntmps159
        go_wp2_with fail
        have v0 : ((w.alloc (.cells #[.int .i64 b, .int .i64 t, .slice A n c] 102)).alloc (.cells #[.int .i64 e.index, .int .i64 e.time, .int .i64 e.client, .int .i64 e.seq, .int .i64 e.op.kind, .int .i64 e.op.a, .int .i64 e.op.b, .int .i64 e.op.c, .int .i64 e.op.d] 32)).cell? ⟨w.heap.size, 0, none⟩ = some (.int .i64 b) := by simp
        have fv0 := fun d os => cell_regrown v0 d os
        have v1 : ((w.alloc (.cells #[.int .i64 b, .int .i64 t, .slice A n c] 102)).alloc (.cells #[.int .i64 e.index, .int .i64 e.time, .int .i64 e.client, .int .i64 e.seq, .int .i64 e.op.kind, .int .i64 e.op.a, .int .i64 e.op.b, .int .i64 e.op.c, .int .i64 e.op.d] 32)).cell? ⟨w.heap.size, 1, none⟩ = some (.int .i64 t) := by simp
        have fv1 := fun d os => cell_regrown v1 d os
        have v2 : ((w.alloc (.cells #[.int .i64 b, .int .i64 t, .slice A n c] 102)).alloc (.cells #[.int .i64 e.index, .int .i64 e.time, .int .i64 e.client, .int .i64 e.seq, .int .i64 e.op.kind, .int .i64 e.op.a, .int .i64 e.op.b, .int .i64 e.op.c, .int .i64 e.op.d] 32)).cell? ⟨w.heap.size, 2, none⟩ = some (.slice A n c) := by simp
        have fv2 := fun d os => cell_regrown v2 d os
        have u0 : ((w.alloc (.cells #[.int .i64 b, .int .i64 t, .slice A n c] 102)).alloc (.cells #[.int .i64 e.index, .int .i64 e.time, .int .i64 e.client, .int .i64 e.seq, .int .i64 e.op.kind, .int .i64 e.op.a, .int .i64 e.op.b, .int .i64 e.op.c, .int .i64 e.op.d] 32)).cell? ⟨w.heap.size + 1, 0, none⟩ = some (.int .i64 e.index) := by simp
        have fu0 := fun d os => cell_regrown u0 d os
        have u1 : ((w.alloc (.cells #[.int .i64 b, .int .i64 t, .slice A n c] 102)).alloc (.cells #[.int .i64 e.index, .int .i64 e.time, .int .i64 e.client, .int .i64 e.seq, .int .i64 e.op.kind, .int .i64 e.op.a, .int .i64 e.op.b, .int .i64 e.op.c, .int .i64 e.op.d] 32)).cell? ⟨w.heap.size + 1, 1, none⟩ = some (.int .i64 e.time) := by simp
        have fu1 := fun d os => cell_regrown u1 d os
        have u2 : ((w.alloc (.cells #[.int .i64 b, .int .i64 t, .slice A n c] 102)).alloc (.cells #[.int .i64 e.index, .int .i64 e.time, .int .i64 e.client, .int .i64 e.seq, .int .i64 e.op.kind, .int .i64 e.op.a, .int .i64 e.op.b, .int .i64 e.op.c, .int .i64 e.op.d] 32)).cell? ⟨w.heap.size + 1, 2, none⟩ = some (.int .i64 e.client) := by simp
        have fu2 := fun d os => cell_regrown u2 d os
        have u3 : ((w.alloc (.cells #[.int .i64 b, .int .i64 t, .slice A n c] 102)).alloc (.cells #[.int .i64 e.index, .int .i64 e.time, .int .i64 e.client, .int .i64 e.seq, .int .i64 e.op.kind, .int .i64 e.op.a, .int .i64 e.op.b, .int .i64 e.op.c, .int .i64 e.op.d] 32)).cell? ⟨w.heap.size + 1, 3, none⟩ = some (.int .i64 e.seq) := by simp
        have fu3 := fun d os => cell_regrown u3 d os
        have u4 : ((w.alloc (.cells #[.int .i64 b, .int .i64 t, .slice A n c] 102)).alloc (.cells #[.int .i64 e.index, .int .i64 e.time, .int .i64 e.client, .int .i64 e.seq, .int .i64 e.op.kind, .int .i64 e.op.a, .int .i64 e.op.b, .int .i64 e.op.c, .int .i64 e.op.d] 32)).cell? ⟨w.heap.size + 1, 4, none⟩ = some (.int .i64 e.op.kind) := by simp
        have fu4 := fun d os => cell_regrown u4 d os
        have u5 : ((w.alloc (.cells #[.int .i64 b, .int .i64 t, .slice A n c] 102)).alloc (.cells #[.int .i64 e.index, .int .i64 e.time, .int .i64 e.client, .int .i64 e.seq, .int .i64 e.op.kind, .int .i64 e.op.a, .int .i64 e.op.b, .int .i64 e.op.c, .int .i64 e.op.d] 32)).cell? ⟨w.heap.size + 1, 5, none⟩ = some (.int .i64 e.op.a) := by simp
        have fu5 := fun d os => cell_regrown u5 d os
        have u6 : ((w.alloc (.cells #[.int .i64 b, .int .i64 t, .slice A n c] 102)).alloc (.cells #[.int .i64 e.index, .int .i64 e.time, .int .i64 e.client, .int .i64 e.seq, .int .i64 e.op.kind, .int .i64 e.op.a, .int .i64 e.op.b, .int .i64 e.op.c, .int .i64 e.op.d] 32)).cell? ⟨w.heap.size + 1, 6, none⟩ = some (.int .i64 e.op.b) := by simp
        have fu6 := fun d os => cell_regrown u6 d os
        have u7 : ((w.alloc (.cells #[.int .i64 b, .int .i64 t, .slice A n c] 102)).alloc (.cells #[.int .i64 e.index, .int .i64 e.time, .int .i64 e.client, .int .i64 e.seq, .int .i64 e.op.kind, .int .i64 e.op.a, .int .i64 e.op.b, .int .i64 e.op.c, .int .i64 e.op.d] 32)).cell? ⟨w.heap.size + 1, 7, none⟩ = some (.int .i64 e.op.c) := by simp
        have fu7 := fun d os => cell_regrown u7 d os
        have u8 : ((w.alloc (.cells #[.int .i64 b, .int .i64 t, .slice A n c] 102)).alloc (.cells #[.int .i64 e.index, .int .i64 e.time, .int .i64 e.client, .int .i64 e.seq, .int .i64 e.op.kind, .int .i64 e.op.a, .int .i64 e.op.b, .int .i64 e.op.c, .int .i64 e.op.d] 32)).cell? ⟨w.heap.size + 1, 8, none⟩ = some (.int .i64 e.op.d) := by simp
        have fu8 := fun d os => cell_regrown u8 d os
        have hbw : Below w.heap.size w ((w.alloc (.cells #[.int .i64 b, .int .i64 t, .slice A n c] 102)).alloc (.cells #[.int .i64 e.index, .int .i64 e.time, .int .i64 e.client, .int .i64 e.seq, .int .i64 e.op.kind, .int .i64 e.op.a, .int .i64 e.op.b, .int .i64 e.op.c, .int .i64 e.op.d] 32)) := by (repeat' (first | with_reducible exact Below.refl _ _ | with_reducible assumption | with_reducible refine Below.drew ?_ | with_reducible refine Below.alloc ?_ ?_ _ | with_reducible refine Below.setCell ?_ ?_ _ | with_reducible refine Below.trans ?_ (Below.mono (by assumption) ?_) | ((try simp only [World.heap_size_alloc, World.heap_size_drew, World.heap_size_setCell]); omega)))
        refine wp_region_quiet_below (by kernel_rfl) (by kernel_rfl) ?_; (repeat (first | go_big_quiet_step ((first | (go_at_call 75; with_reducible exact Calls.regrown_of (HE.out _)) | (go_at_call 156; with_reducible exact Calls.regrown_of (HLA.out _)) | (go_at_call 179; with_reducible exact Calls.regrown_of (HTA.out _ (S0.out.below (below_regrown _ _ _) hhi1))))) | quiet_step ((first | (go_at_call 75; with_reducible exact Calls.regrown_of (HE.out _)) | (go_at_call 156; with_reducible exact Calls.regrown_of (HLA.out _)) | (go_at_call 179; with_reducible exact Calls.regrown_of (HTA.out _ (S0.out.below (below_regrown _ _ _) hhi1))))))); refine wpQuiet_nil ?_; intro _ hw'; obtain ⟨⟨nq, osq⟩, hw''⟩ := hw'; subst hw''; have hq := below_regrown ((w.alloc (.cells #[.int .i64 b, .int .i64 t, .slice A n c] 102)).alloc (.cells #[.int .i64 e.index, .int .i64 e.time, .int .i64 e.client, .int .i64 e.seq, .int .i64 e.op.kind, .int .i64 e.op.a, .int .i64 e.op.b, .int .i64 e.op.c, .int .i64 e.op.d] 32)) nq osq; generalize Sort.grow (redrawn ((w.alloc (.cells #[.int .i64 b, .int .i64 t, .slice A n c] 102)).alloc (.cells #[.int .i64 e.index, .int .i64 e.time, .int .i64 e.client, .int .i64 e.seq, .int .i64 e.op.kind, .int .i64 e.op.a, .int .i64 e.op.b, .int .i64 e.op.c, .int .i64 e.op.d] 32)) nq) osq = w3 at *
        have hw3 : Below w.heap.size w w3 := hbw.trans (hq.mono (by (try simp only [World.heap_size_alloc, World.heap_size_drew, World.heap_size_setCell]); omega))
        go_wp2
        go_ret
        exact ⟨by simp, hw3⟩
    · have e0 : fitsM b t l e = false := by
        unfold fitsM
        rw [HL.out]; simp [hix]
      rw [e0]
      clear e0
      have CE : ∀ W, Calls Try.prog 75 #[.agg #[.int .i64 e.index, .int .i64 e.time, .int .i64 e.client, .int .i64 e.seq, .int .i64 e.op.kind, .int .i64 e.op.a, .int .i64 e.op.b, .int .i64 e.op.c, .int .i64 e.op.d]] W fun x w' => x = .returned (.bool true) ∧ Below W.heap.size W w' := fun W => by
        have h7 := entryOk_any e.index e.time e.client e.seq e.op.kind e.op.a e.op.b e.op.c e.op.d W
        rw [show entryOk ⟨e.index, e.time, e.client, e.seq, ⟨e.op.kind, e.op.a, e.op.b, e.op.c, e.op.d⟩⟩ = true from hok] at h7
        exact h7
      have HE := Lib.hid CE
      clear CE
      have HLA := Lib.hid (fun W => lastOf_any b t A n c W h0 h1 hn)
      have dx : (e.index == b + (n : Int) + 1) = false := by simpa using hix
      have HIX := Lib.hid hix
      clear hok hix
      have hw9 : IntKind.i64.wrap (b + (n : Int) + 1) = b + (n : Int) + 1 := IntWalk.i64_in _ (by omega)
      go_enter Try.func159, Try.ntmps159
      go_wp2_with fail
      have v0 : ((w.alloc (.cells #[.int .i64 b, .int .i64 t, .slice A n c] 102)).alloc (.cells #[.int .i64 e.index, .int .i64 e.time, .int .i64 e.client, .int .i64 e.seq, .int .i64 e.op.kind, .int .i64 e.op.a, .int .i64 e.op.b, .int .i64 e.op.c, .int .i64 e.op.d] 32)).cell? ⟨w.heap.size, 0, none⟩ = some (.int .i64 b) := by simp
      have fv0 := fun d os => cell_regrown v0 d os
      have v1 : ((w.alloc (.cells #[.int .i64 b, .int .i64 t, .slice A n c] 102)).alloc (.cells #[.int .i64 e.index, .int .i64 e.time, .int .i64 e.client, .int .i64 e.seq, .int .i64 e.op.kind, .int .i64 e.op.a, .int .i64 e.op.b, .int .i64 e.op.c, .int .i64 e.op.d] 32)).cell? ⟨w.heap.size, 1, none⟩ = some (.int .i64 t) := by simp
      have fv1 := fun d os => cell_regrown v1 d os
      have v2 : ((w.alloc (.cells #[.int .i64 b, .int .i64 t, .slice A n c] 102)).alloc (.cells #[.int .i64 e.index, .int .i64 e.time, .int .i64 e.client, .int .i64 e.seq, .int .i64 e.op.kind, .int .i64 e.op.a, .int .i64 e.op.b, .int .i64 e.op.c, .int .i64 e.op.d] 32)).cell? ⟨w.heap.size, 2, none⟩ = some (.slice A n c) := by simp
      have fv2 := fun d os => cell_regrown v2 d os
      have u0 : ((w.alloc (.cells #[.int .i64 b, .int .i64 t, .slice A n c] 102)).alloc (.cells #[.int .i64 e.index, .int .i64 e.time, .int .i64 e.client, .int .i64 e.seq, .int .i64 e.op.kind, .int .i64 e.op.a, .int .i64 e.op.b, .int .i64 e.op.c, .int .i64 e.op.d] 32)).cell? ⟨w.heap.size + 1, 0, none⟩ = some (.int .i64 e.index) := by simp
      have fu0 := fun d os => cell_regrown u0 d os
      have u1 : ((w.alloc (.cells #[.int .i64 b, .int .i64 t, .slice A n c] 102)).alloc (.cells #[.int .i64 e.index, .int .i64 e.time, .int .i64 e.client, .int .i64 e.seq, .int .i64 e.op.kind, .int .i64 e.op.a, .int .i64 e.op.b, .int .i64 e.op.c, .int .i64 e.op.d] 32)).cell? ⟨w.heap.size + 1, 1, none⟩ = some (.int .i64 e.time) := by simp
      have fu1 := fun d os => cell_regrown u1 d os
      have u2 : ((w.alloc (.cells #[.int .i64 b, .int .i64 t, .slice A n c] 102)).alloc (.cells #[.int .i64 e.index, .int .i64 e.time, .int .i64 e.client, .int .i64 e.seq, .int .i64 e.op.kind, .int .i64 e.op.a, .int .i64 e.op.b, .int .i64 e.op.c, .int .i64 e.op.d] 32)).cell? ⟨w.heap.size + 1, 2, none⟩ = some (.int .i64 e.client) := by simp
      have fu2 := fun d os => cell_regrown u2 d os
      have u3 : ((w.alloc (.cells #[.int .i64 b, .int .i64 t, .slice A n c] 102)).alloc (.cells #[.int .i64 e.index, .int .i64 e.time, .int .i64 e.client, .int .i64 e.seq, .int .i64 e.op.kind, .int .i64 e.op.a, .int .i64 e.op.b, .int .i64 e.op.c, .int .i64 e.op.d] 32)).cell? ⟨w.heap.size + 1, 3, none⟩ = some (.int .i64 e.seq) := by simp
      have fu3 := fun d os => cell_regrown u3 d os
      have u4 : ((w.alloc (.cells #[.int .i64 b, .int .i64 t, .slice A n c] 102)).alloc (.cells #[.int .i64 e.index, .int .i64 e.time, .int .i64 e.client, .int .i64 e.seq, .int .i64 e.op.kind, .int .i64 e.op.a, .int .i64 e.op.b, .int .i64 e.op.c, .int .i64 e.op.d] 32)).cell? ⟨w.heap.size + 1, 4, none⟩ = some (.int .i64 e.op.kind) := by simp
      have fu4 := fun d os => cell_regrown u4 d os
      have u5 : ((w.alloc (.cells #[.int .i64 b, .int .i64 t, .slice A n c] 102)).alloc (.cells #[.int .i64 e.index, .int .i64 e.time, .int .i64 e.client, .int .i64 e.seq, .int .i64 e.op.kind, .int .i64 e.op.a, .int .i64 e.op.b, .int .i64 e.op.c, .int .i64 e.op.d] 32)).cell? ⟨w.heap.size + 1, 5, none⟩ = some (.int .i64 e.op.a) := by simp
      have fu5 := fun d os => cell_regrown u5 d os
      have u6 : ((w.alloc (.cells #[.int .i64 b, .int .i64 t, .slice A n c] 102)).alloc (.cells #[.int .i64 e.index, .int .i64 e.time, .int .i64 e.client, .int .i64 e.seq, .int .i64 e.op.kind, .int .i64 e.op.a, .int .i64 e.op.b, .int .i64 e.op.c, .int .i64 e.op.d] 32)).cell? ⟨w.heap.size + 1, 6, none⟩ = some (.int .i64 e.op.b) := by simp
      have fu6 := fun d os => cell_regrown u6 d os
      have u7 : ((w.alloc (.cells #[.int .i64 b, .int .i64 t, .slice A n c] 102)).alloc (.cells #[.int .i64 e.index, .int .i64 e.time, .int .i64 e.client, .int .i64 e.seq, .int .i64 e.op.kind, .int .i64 e.op.a, .int .i64 e.op.b, .int .i64 e.op.c, .int .i64 e.op.d] 32)).cell? ⟨w.heap.size + 1, 7, none⟩ = some (.int .i64 e.op.c) := by simp
      have fu7 := fun d os => cell_regrown u7 d os
      have u8 : ((w.alloc (.cells #[.int .i64 b, .int .i64 t, .slice A n c] 102)).alloc (.cells #[.int .i64 e.index, .int .i64 e.time, .int .i64 e.client, .int .i64 e.seq, .int .i64 e.op.kind, .int .i64 e.op.a, .int .i64 e.op.b, .int .i64 e.op.c, .int .i64 e.op.d] 32)).cell? ⟨w.heap.size + 1, 8, none⟩ = some (.int .i64 e.op.d) := by simp
      have fu8 := fun d os => cell_regrown u8 d os
      have hbw : Below w.heap.size w ((w.alloc (.cells #[.int .i64 b, .int .i64 t, .slice A n c] 102)).alloc (.cells #[.int .i64 e.index, .int .i64 e.time, .int .i64 e.client, .int .i64 e.seq, .int .i64 e.op.kind, .int .i64 e.op.a, .int .i64 e.op.b, .int .i64 e.op.c, .int .i64 e.op.d] 32)) := by (repeat' (first | with_reducible exact Below.refl _ _ | with_reducible assumption | with_reducible refine Below.drew ?_ | with_reducible refine Below.alloc ?_ ?_ _ | with_reducible refine Below.setCell ?_ ?_ _ | with_reducible refine Below.trans ?_ (Below.mono (by assumption) ?_) | ((try simp only [World.heap_size_alloc, World.heap_size_drew, World.heap_size_setCell]); omega)))
      refine wp_region_quiet_below (by kernel_rfl) (by kernel_rfl) ?_; (repeat (first | go_big_quiet_step ((first | (go_at_call 75; with_reducible exact Calls.regrown_of (HE.out _)) | (go_at_call 156; with_reducible exact Calls.regrown_of (HLA.out _)))) | quiet_step ((first | (go_at_call 75; with_reducible exact Calls.regrown_of (HE.out _)) | (go_at_call 156; with_reducible exact Calls.regrown_of (HLA.out _)))))); refine wpQuiet_nil ?_; intro _ hw'; obtain ⟨⟨nq, osq⟩, hw''⟩ := hw'; subst hw''; have hq := below_regrown ((w.alloc (.cells #[.int .i64 b, .int .i64 t, .slice A n c] 102)).alloc (.cells #[.int .i64 e.index, .int .i64 e.time, .int .i64 e.client, .int .i64 e.seq, .int .i64 e.op.kind, .int .i64 e.op.a, .int .i64 e.op.b, .int .i64 e.op.c, .int .i64 e.op.d] 32)) nq osq; generalize Sort.grow (redrawn ((w.alloc (.cells #[.int .i64 b, .int .i64 t, .slice A n c] 102)).alloc (.cells #[.int .i64 e.index, .int .i64 e.time, .int .i64 e.client, .int .i64 e.seq, .int .i64 e.op.kind, .int .i64 e.op.a, .int .i64 e.op.b, .int .i64 e.op.c, .int .i64 e.op.d] 32)) nq) osq = w3 at *
      have hw3 : Below w.heap.size w w3 := hbw.trans (hq.mono (by (try simp only [World.heap_size_alloc, World.heap_size_drew, World.heap_size_setCell]); omega))
      go_wp2
      go_ret
      exact ⟨by simp, hw3⟩
end Go.Proofs.Ytgnilmdaegnaaaa
set_option linter.unusedSimpArgs false
set_option linter.unusedVariables false
namespace Go.Proofs.Ytgnilmdaegnaaaa
open Go.RowKit
def slotOf (x : Int) : Int := if btw x 1 2000 then 2 + x % 20 else -1
set_option maxRecDepth 100000 in
set_option maxHeartbeats 400000 in
theorem slotOf1_any (x : Int) (w : World) (h0 : 0 ≤ x) (h1 : x ≤ 1000000) : Calls Try.prog 71 #[.int .i64 x] w fun e w' => e = .returned (.int .i64 (2 + x % 20)) ∧ w = w' := by
  go_enter Try.func71, Try.ntmps71
  go_wp2
  go_ret
  exact ⟨rfl, rfl⟩
set_option maxRecDepth 100000 in
set_option maxHeartbeats 400000 in
theorem slotOf_any (x : Int) (w : World) : Calls Try.prog 15 #[.int .i64 x] w fun e w' => e = .returned (.int .i64 (slotOf x)) ∧ w = w' := by
  cases h : btw x 1 2000 with
  | false =>
    have e : slotOf x = -1 := by simp [slotOf, h]
    rw [e]
    clear e
    go_enter Try.func15, Try.ntmps15
    go_wp2_with (go_at_call 70; refine (indexOk_any _ _).mono ?_; rintro e w' ⟨rfl, rfl⟩)
    go_ret
    exact ⟨rfl, rfl⟩
  | true =>
    have e : slotOf x = 2 + x % 20 := by simp [slotOf, h]
    obtain ⟨h0, h1⟩ := btw_iff.1 h
    rw [e]
    clear e
    go_enter Try.func15, Try.ntmps15
    go_wp2_with (first | (go_at_call 70; refine (indexOk_any _ _).mono ?_; rintro e w' ⟨rfl, rfl⟩) | (go_at_call 71; refine (slotOf1_any _ _ (by omega) (by omega)).mono ?_; rintro e w' ⟨rfl, rfl⟩))
    go_ret
    exact ⟨rfl, rfl⟩
end Go.Proofs.Ytgnilmdaegnaaaa
set_option linter.unusedSimpArgs false
set_option linter.unusedVariables false
namespace Go.Proofs.Ytgnilmdaegnaaaa
open Go.RowKit
open Go.ChangeShapes Go.WideShapes Go.ChangeAt
set_option maxRecDepth 100000 in
set_option maxHeartbeats 4000000 in
theorem w9FatesN_any (A : Option Addr) (n c hi g many : Nat) (w : World) (hd : DiceAt w hi g A n c) (hm : many ≤ 1000) :
    Calls Try.prog 63 #[.pointer (some ⟨g, 0, none⟩), .int .i64 (many : Int)] w (fun e w' => ∃ (B : Option Addr) (q : Nat) (fs : List Int), e = .returned (.slice B many q) ∧ fs.length = many ∧ (∀ f ∈ fs, 0 ≤ f ∧ f < 3) ∧ Sl w' w.heap.size w'.heap.size 1 B many q fs ∧ DiceAt w' hi g A n c ∧ Upd g (g + 1) w w') := by
  have hg : g < w.heap.size := World.block_lt_of_cell? w _ hd.c0
  have O0 := Lib.hid (show Own (w.alloc (.cells #[] 2)) w.heap.size 2 1 (.slice (some ⟨w.heap.size, 0, none⟩) 0 0) 0 [] from Own.new w (base := w.heap.size) 2 1 [] (n := 0) rfl (Nat.le_refl _) (by omega))
  have hal : Below w.heap.size w (w.alloc (.cells #[] 2)) := (Below.refl _ _).alloc (Nat.le_refl _) _
  have D0 := Lib.hid (hd.below hal hg)
  have U0 := Lib.hid ((Upd.refl g (g + 1) w).alloc (.cells #[] 2))
  have hsz : w.heap.size + 1 ≤ (w.alloc (.cells #[] 2)).heap.size := by simp
  clear hal hd
  go_enter Try.func63, Try.ntmps63
  go_wp2_with fail
  generalize w.alloc (.cells #[] 2) = W0 at *
  go_loopw [1, 5] (fun m v wr => ∃ (j : Nat) (fs : List Int), j ≤ many ∧ m = .int .i64 (j : Int) ∧ Hid (j + fs.length = many) ∧ Hid (∀ f ∈ fs, 0 ≤ f ∧ f < 3) ∧ Hid (DiceAt wr hi g A n c) ∧ Hid (Upd g (g + 1) w wr) ∧ Hid (Own wr w.heap.size 2 1 v fs.length fs)) (fun m _ _ => (intOf m).toNat)
  case atStart => exact ⟨many, [], Nat.le_refl _, rfl, Lib.hid (by simp), Lib.hid (fun f hf => by cases hf), D0, U0, O0⟩
  case round =>
    obtain ⟨j, fs, hj, rfl, HJ, HF, D, U, O⟩ := hrel
    have yr := U.out.size
    have hd := D.out
    by_cases hj0 : 0 < j
    · have hj0' : (0 : Int) < (j : Int) := by omega
      obtain ⟨j', hj'⟩ : ∃ j', j = j' + 1 := ⟨j - 1, by omega⟩
      have hwj : IntKind.i64.wrap ((j : Int) - 1) = (j' : Int) := by
        rw [show (j : Int) - 1 = (j' : Int) by omega]
        exact IntWalk.i64_in _ (by omega)
      have HJ2 := Lib.hid hj'
      have hfl : fs.length ≤ 1000 := by have := HJ.out; omega
      obtain ⟨L, hL⟩ : ∃ L, L = fs.length := ⟨_, rfl⟩
      have HL := Lib.hid hL
      rw [← hL] at O hfl
      clear hj' hL
      go_wp2_with fail
      (with_reducible refine (below_any _ _ _ _ _ 3 _ (by omega) (by omega) hd).mono ?_); rintro _ w4 ⟨x, rfl, x0, x1, d4, u4⟩
      have y4 := u4.size
      have O4 := Lib.hid ((O.out.upd2 u4 (fun b hb => .inr (by have := (O.out.lt b hb).1; omega))).kept ((Below.refl _ _).alloc (Nat.le_refl _) (.cells #[.int .i64 x] 2)))
      have LT := Lib.hid O.out.lt
      have U4 := Lib.hid ((U.out.trans u4).alloc (.cells #[.int .i64 x] 2))
      have D4 := Lib.hid (d4.below (B := w.heap.size) ((Below.refl _ _).alloc (by omega) (.cells #[.int .i64 x] 2)) hg)
      have HX := Lib.hid (And.intro x0 x1)
      clear d4 u4 hd x0 x1
      go_wp2_with (at_builtin; go_loud (refine wpList_append_sl _ rfl (.tmp 11) (.tmp 14) 28 rfl w.heap.size 2 Try.underlying28 info64 rfl (by omega) _ L fs rfl O4.out _ 1 1 _ _ [x] rfl (src_one w4 2 x) (by omega) (by omega) (by (try simp only [World.heap_size_alloc, World.heap_size_drew, World.heap_size_setCell]); omega) ?_); intro v6 w6 o6 g6 a6)
      have hb6 : Below w.heap.size (w4.alloc (.cells #[.int .i64 x] 2)) w6 := grown_below g6 (by (try simp only [World.heap_size_alloc, World.heap_size_drew, World.heap_size_setCell]); omega) (fun b hb => (LT.out b hb).1)
      have O6 : Hid (Own w6 w.heap.size 2 1 v6 (fs ++ [x]).length (fs ++ [x])) := Lib.hid (by rw [List.length_append, List.length_singleton, ← HL.out]; exact o6)
      have U6 := Lib.hid (U4.out.after hb6 hb6.size)
      have D6 := Lib.hid (D4.out.below hb6 hg)
      clear hb6 g6 a6 o6
      go_wp2_with fail
      go_roundw
      case rel => exact ⟨j', fs ++ [x], by have := HJ2.out; omega, rfl, Lib.hid (by rw [List.length_append, List.length_singleton]; have := HJ.out; have := HJ2.out; omega), Lib.hid (fun f hf => by
        rcases List.mem_append.1 hf with h | h
        · exact HF.out f h
        · rw [List.mem_singleton.1 h]
          exact HX.out), D6, U6, O6⟩
      case measure => simp [intOf]; have := HJ2.out; omega
    · have hj00 : ¬ (0 : Int) < (j : Int) := by omega
      have hfl : fs.length = many := by have := HJ.out; omega
      have O2 := O.out
      rw [hfl] at O2
      have O3 := Lib.hid O2
      have HFL := Lib.hid hfl
      clear O2 hfl
      go_wp2_with fail
      go_ret
      obtain ⟨B, q, rfl, s⟩ := O3.out.sl
      exact ⟨B, q, rfl, fs, HFL.out, HF.out, s, D.out, U.out⟩
set_option maxRecDepth 100000 in
set_option maxHeartbeats 4000000 in
theorem keptEntry_any (A0 : Option Addr) (n0 c0 : Nat) (k0 : List (List Int)) (A1 : Option Addr) (n1 c1 : Nat) (v0 : List WriteD) (A2 : Option Addr) (n2 c2 : Nat) (k2 : List (List Int)) (A3 : Option Addr) (n3 c3 : Nat) (v2 : List WriteD) (lo hi : Nat) (w : World) (h0 : SlR w lo hi A0 n0 c0 k0) (h1 : SlW w lo hi A1 n1 c1 v0) (h2 : SlR w lo hi A2 n2 c2 k2) (h3 : SlW w lo hi A3 n3 c3 v2) (hhi : hi ≤ w.heap.size) (e : EntryD) (he : entryOk e = true) (hd : twoOk k0 v0 k2 v2 = true) (h22 : n0 = 22) (hn1 : n1 < 60) (hn3 : n3 < 60) :
    Calls Try.prog 120 #[.agg #[.slice A0 n0 c0, .slice A1 n1 c1, .slice A2 n2 c2, .slice A3 n3 c3], .agg #[.int .i64 e.index, .int .i64 e.time, .int .i64 e.client, .int .i64 e.seq, .int .i64 e.op.kind, .int .i64 e.op.a, .int .i64 e.op.b, .int .i64 e.op.c, .int .i64 e.op.d]] w (TwBRes w n0 k0 (n1 + 1) (v0 ++ [⟨slotOf e.index, slotRow e ++ [sumM (slotRow e)]⟩]) n2 k2 (n3 + 1) (v2 ++ [⟨slotOf e.index, slotRow e ++ [sumM (slotRow e)]⟩]) true) := by
  have hix : btw e.index 1 2000 = true := by
    simp only [entryOk, Bool.and_eq_true] at he
    exact he.1.1.1.1
  have hso : slotOf e.index = 2 + e.index % 20 := by simp [slotOf, hix]
  obtain ⟨hx1, hx2⟩ := btw_iff.1 hix
  have hq : btw (slotOf e.index) 0 ((n0 : Int) - 1) = true := by rw [hso]; exact btw_iff.2 ⟨by omega, by omega⟩
  obtain ⟨hr11, hro, -, -, -⟩ := slotRow_ok he
  have H0 := Lib.hid h0
  have H1 := Lib.hid h1
  have H2 := Lib.hid h2
  have H3 := Lib.hid h3
  have CSO : Hid (∀ W, Calls Try.prog 15 #[.int .i64 e.index] W fun e' w' => e' = .returned (.int .i64 (slotOf e.index)) ∧ W = w') := Lib.hid (fun W => slotOf_any e.index W)
  have CH : Hid (∀ W, Calls Try.prog 18 #[.agg #[.int .i64 e.index, .int .i64 e.time, .int .i64 e.client, .int .i64 e.seq, .int .i64 e.op.kind, .int .i64 e.op.a, .int .i64 e.op.b, .int .i64 e.op.c, .int .i64 e.op.d]] W (SlRes W 1 11 (slotRow e))) := Lib.hid (fun W => by
    have h7 := slotRow_any e.index e.time e.client e.seq e.op.kind e.op.a e.op.b e.op.c e.op.d W
    rw [show slotRow ⟨e.index, e.time, e.client, e.seq, ⟨e.op.kind, e.op.a, e.op.b, e.op.c, e.op.d⟩⟩ = slotRow e from rfl, hr11] at h7
    exact h7)
  generalize slotRow e = zr at *
  generalize slotOf e.index = sq at *
  have CK : Hid (∀ (W : World) (AR : Option Addr) (cr lor hir : Nat), Below w.heap.size w W → Sl W lor hir 1 AR 11 cr zr → hir ≤ W.heap.size → Calls Try.prog 115 #[.agg #[.slice A0 n0 c0, .slice A1 n1 c1, .slice A2 n2 c2, .slice A3 n3 c3], .int .i64 sq, .slice AR 11 cr] W (TwBRes W n0 k0 (n1 + 1) (v0 ++ [⟨sq, zr ++ [sumM zr]⟩]) n2 k2 (n3 + 1) (v2 ++ [⟨sq, zr ++ [sumM zr]⟩]) true)) := Lib.hid (fun W AR cr lor hir hW hr hhr => keptRow_any A0 n0 c0 k0 A1 n1 c1 v0 A2 n2 c2 k2 A3 n3 c3 v2 lo hi W (H0.out.below hW hhi) (H1.out.below hW hhi) (H2.out.below hW hhi) (H3.out.below hW hhi) (Nat.le_trans hhi hW.size) sq AR 11 cr lor hir zr hr hhr hro (by omega) hq hn1 hn3 hd h22 (by omega))
  have T1 : Hid (∀ W, Below (w.heap.size + 3) (((w.alloc (.cells #[.slice A0 n0 c0, .slice A1 n1 c1, .slice A2 n2 c2, .slice A3 n3 c3] 69)).alloc (.cells #[.int .i64 e.index, .int .i64 e.time, .int .i64 e.client, .int .i64 e.seq, .int .i64 e.op.kind, .int .i64 e.op.a, .int .i64 e.op.b, .int .i64 e.op.c, .int .i64 e.op.d] 32)).alloc (.cells #[.slice none 0 0, .slice none 0 0, .slice none 0 0, .slice none 0 0] 69)) W → (Box4 W w.heap.size (.slice A0 n0 c0) (.slice A1 n1 c1) (.slice A2 n2 c2) (.slice A3 n3 c3) ∧ Box4 W (w.heap.size + 2) (.slice none 0 0) (.slice none 0 0) (.slice none 0 0) (.slice none 0 0) ∧ (W.cell? ⟨w.heap.size + 1, 0, none⟩ = some (.int .i64 e.index) ∧ W.cell? ⟨w.heap.size + 1, 1, none⟩ = some (.int .i64 e.time) ∧ W.cell? ⟨w.heap.size + 1, 2, none⟩ = some (.int .i64 e.client) ∧ W.cell? ⟨w.heap.size + 1, 3, none⟩ = some (.int .i64 e.seq) ∧ W.cell? ⟨w.heap.size + 1, 4, none⟩ = some (.int .i64 e.op.kind) ∧ W.cell? ⟨w.heap.size + 1, 5, none⟩ = some (.int .i64 e.op.a) ∧ W.cell? ⟨w.heap.size + 1, 6, none⟩ = some (.int .i64 e.op.b) ∧ W.cell? ⟨w.heap.size + 1, 7, none⟩ = some (.int .i64 e.op.c) ∧ W.cell? ⟨w.heap.size + 1, 8, none⟩ = some (.int .i64 e.op.d)))) := Lib.hid (fun W hW => by
    have e1 : (w.alloc (.cells #[.slice A0 n0 c0, .slice A1 n1 c1, .slice A2 n2 c2, .slice A3 n3 c3] 69)).heap.size = w.heap.size + 1 := World.heap_size_alloc _ _
    have e2 : ((w.alloc (.cells #[.slice A0 n0 c0, .slice A1 n1 c1, .slice A2 n2 c2, .slice A3 n3 c3] 69)).alloc (.cells #[.int .i64 e.index, .int .i64 e.time, .int .i64 e.client, .int .i64 e.seq, .int .i64 e.op.kind, .int .i64 e.op.a, .int .i64 e.op.b, .int .i64 e.op.c, .int .i64 e.op.d] 32)).heap.size = w.heap.size + 2 := by simp only [World.heap_size_alloc]
    have z0 := ((Box4.new w (.slice A0 n0 c0) (.slice A1 n1 c1) (.slice A2 n2 c2) (.slice A3 n3 c3) 69).below ((Below.refl _ _).alloc (Nat.le_refl _) (.cells #[.int .i64 e.index, .int .i64 e.time, .int .i64 e.client, .int .i64 e.seq, .int .i64 e.op.kind, .int .i64 e.op.a, .int .i64 e.op.b, .int .i64 e.op.c, .int .i64 e.op.d] 32)) (by omega)).below ((Below.refl _ _).alloc (Nat.le_refl _) (.cells #[.slice none 0 0, .slice none 0 0, .slice none 0 0, .slice none 0 0] 69)) (by omega)
    have z2 := Box4.new ((w.alloc (.cells #[.slice A0 n0 c0, .slice A1 n1 c1, .slice A2 n2 c2, .slice A3 n3 c3] 69)).alloc (.cells #[.int .i64 e.index, .int .i64 e.time, .int .i64 e.client, .int .i64 e.seq, .int .i64 e.op.kind, .int .i64 e.op.a, .int .i64 e.op.b, .int .i64 e.op.c, .int .i64 e.op.d] 32)) (.slice none 0 0) (.slice none 0 0) (.slice none 0 0) (.slice none 0 0) 69
    rw [e2] at z2
    refine ⟨z0.below hW (by omega), z2.below hW (by omega), (hW.cell (p := ⟨w.heap.size + 1, 0, none⟩) (by simp only; omega)).trans (by simp [go_sem]), (hW.cell (p := ⟨w.heap.size + 1, 1, none⟩) (by simp only; omega)).trans (by simp [go_sem]), (hW.cell (p := ⟨w.heap.size + 1, 2, none⟩) (by simp only; omega)).trans (by simp [go_sem]), (hW.cell (p := ⟨w.heap.size + 1, 3, none⟩) (by simp only; omega)).trans (by simp [go_sem]), (hW.cell (p := ⟨w.heap.size + 1, 4, none⟩) (by simp only; omega)).trans (by simp [go_sem]), (hW.cell (p := ⟨w.heap.size + 1, 5, none⟩) (by simp only; omega)).trans (by simp [go_sem]), (hW.cell (p := ⟨w.heap.size + 1, 6, none⟩) (by simp only; omega)).trans (by simp [go_sem]), (hW.cell (p := ⟨w.heap.size + 1, 7, none⟩) (by simp only; omega)).trans (by simp [go_sem]), (hW.cell (p := ⟨w.heap.size + 1, 8, none⟩) (by simp only; omega)).trans (by simp [go_sem])⟩)
  have hs9 : (((w.alloc (.cells #[.slice A0 n0 c0, .slice A1 n1 c1, .slice A2 n2 c2, .slice A3 n3 c3] 69)).alloc (.cells #[.int .i64 e.index, .int .i64 e.time, .int .i64 e.client, .int .i64 e.seq, .int .i64 e.op.kind, .int .i64 e.op.a, .int .i64 e.op.b, .int .i64 e.op.c, .int .i64 e.op.d] 32)).alloc (.cells #[.slice none 0 0, .slice none 0 0, .slice none 0 0, .slice none 0 0] 69)).heap.size = w.heap.size + 3 := by simp only [World.heap_size_alloc]
  have hb9 : Below w.heap.size w (((w.alloc (.cells #[.slice A0 n0 c0, .slice A1 n1 c1, .slice A2 n2 c2, .slice A3 n3 c3] 69)).alloc (.cells #[.int .i64 e.index, .int .i64 e.time, .int .i64 e.client, .int .i64 e.seq, .int .i64 e.op.kind, .int .i64 e.op.a, .int .i64 e.op.b, .int .i64 e.op.c, .int .i64 e.op.d] 32)).alloc (.cells #[.slice none 0 0, .slice none 0 0, .slice none 0 0, .slice none 0 0] 69)) := by (repeat' (first | with_reducible exact Below.refl _ _ | with_reducible assumption | with_reducible refine Below.drew ?_ | with_reducible refine Below.alloc ?_ ?_ _ | with_reducible refine Below.setCell ?_ ?_ _ | with_reducible refine Below.trans ?_ (Below.mono (by assumption) ?_) | ((try simp only [World.heap_size_alloc, World.heap_size_drew, World.heap_size_setCell]); omega)))
  clear h0 h1 h2 h3 he h22 hq hix hso hx1 hx2
  go_enter Try.func120, Try.ntmps120
  go_upto_region 1 with fail
  generalize hW0 : (((w.alloc (.cells #[.slice A0 n0 c0, .slice A1 n1 c1, .slice A2 n2 c2, .slice A3 n3 c3] 69)).alloc (.cells #[.int .i64 e.index, .int .i64 e.time, .int .i64 e.client, .int .i64 e.seq, .int .i64 e.op.kind, .int .i64 e.op.a, .int .i64 e.op.b, .int .i64 e.op.c, .int .i64 e.op.d] 32)).alloc (.cells #[.slice none 0 0, .slice none 0 0, .slice none 0 0, .slice none 0 0] 69)) = W0 at *
  have hs9a := Nat.le_of_eq hs9
  have hs9b := Nat.le_of_eq hs9.symm
  clear hW0 hs9
  have HB9 := Lib.hid hb9
  obtain ⟨⟨a0, a1, a2, a3, -, -, -, -⟩, ⟨p0, p1, p2, p3, g0, g1, g2, g3⟩, en0, en1, en2, en3, en4, en5, en6, en7, en8⟩ := T1.out _ (Below.refl _ _)
  clear hb9
  go_region_law (first | (go_simp; go_at_call 15; (with_reducible refine (CSO.out _).mono ?_); rintro _ _ ⟨rfl, rfl⟩) | (go_simp; go_at_call 18; (with_reducible refine (CH.out _).mono ?_); rintro _ w1 ⟨AR, cr, rfl, sr, b1⟩; have hb1 : Below W0.heap.size W0 w1 := (by (repeat' (first | with_reducible exact Below.refl _ _ | with_reducible assumption | with_reducible refine Below.drew ?_ | with_reducible refine Below.alloc ?_ ?_ _ | with_reducible refine Below.setCell ?_ ?_ _ | with_reducible refine Below.trans ?_ (Below.mono (by assumption) ?_) | ((try simp only [World.heap_size_alloc, World.heap_size_drew, World.heap_size_setCell]); omega)))); have y1 := hb1.size; have SR := Lib.hid sr; clear a0 a1 a2 a3 p0 p1 p2 p3 g0 g1 g2 g3 en0 en1 en2 en3 en4 en5 en6 en7 en8; obtain ⟨⟨a0, a1, a2, a3, -, -, -, -⟩, ⟨p0, p1, p2, p3, g0, g1, g2, g3⟩, en0, en1, en2, en3, en4, en5, en6, en7, en8⟩ := T1.out _ (hb1.mono (by omega)); have HB1 := Lib.hid hb1; clear sr b1 hb1) | (go_simp; go_at_call 115; (with_reducible refine (CK.out _ _ _ _ _ (HB9.out.trans (HB1.out.mono (by omega))) SR.out (Nat.le_refl _)).mono ?_); rintro _ w4 ⟨X0, d0, X1, d1, X2, d2, X3, d3, rfl, t0, t1, t2, t3, b4⟩; have y4 := b4.size; have P4 : Below W0.heap.size W0 w4 := HB1.out.trans (b4.mono y1); clear a0 a1 a2 a3 p0 p1 p2 p3 g0 g1 g2 g3 en0 en1 en2 en3 en4 en5 en6 en7 en8; obtain ⟨-, ⟨p0, p1, p2, p3, g0, g1, g2, g3⟩, -⟩ := (T1.out _ (P4.mono (by omega))); have HBZ := Lib.hid (HB9.out.trans (P4.mono (by omega))); have SS0 := Lib.hid t0; have SS1 := Lib.hid t1; have SS2 := Lib.hid t2; have SS3 := Lib.hid t3; clear t0 t1 t2 t3 b4 P4))
  all_goals
    go_wp2_with fail
    refine bodyPost_ret (v := .tuple #[.agg #[.slice X0 n0 d0, .slice X1 (n1 + 1) d1, .slice X2 n2 d2, .slice X3 (n3 + 1) d3], .bool true]) (by simp [results, Try.results120, go_sem, p0, p1, p2, p3, g0, g1, g2, g3]) rfl ⟨X0, d0, X1, d1, X2, d2, X3, d3, rfl, SS0.out.at4 (b := w.heap.size + 2) (x := (.slice X0 n0 d0)) (y := (.slice X1 (n1 + 1) d1)) (z := (.slice X2 n2 d2)) (u := (.slice X3 (n3 + 1) d3)) (by omega) (by omega) (Nat.le_refl _), SS1.out.at4 (b := w.heap.size + 2) (x := (.slice X0 n0 d0)) (y := (.slice X1 (n1 + 1) d1)) (z := (.slice X2 n2 d2)) (u := (.slice X3 (n3 + 1) d3)) (by omega) (by omega) (Nat.le_refl _), SS2.out.at4 (b := w.heap.size + 2) (x := (.slice X0 n0 d0)) (y := (.slice X1 (n1 + 1) d1)) (z := (.slice X2 n2 d2)) (u := (.slice X3 (n3 + 1) d3)) (by omega) (by omega) (Nat.le_refl _), SS3.out.at4 (b := w.heap.size + 2) (x := (.slice X0 n0 d0)) (y := (.slice X1 (n1 + 1) d1)) (z := (.slice X2 n2 d2)) (u := (.slice X3 (n3 + 1) d3)) (by omega) (by omega) (Nat.le_refl _), HBZ.out.trans (below4 (by omega))⟩
end Go.Proofs.Ytgnilmdaegnaaaa
set_option linter.unusedSimpArgs false
set_option linter.unusedVariables false
namespace Go.Proofs.Ytgnilmdaegnaaaa
open Go.RowKit
theorem rowMark_at {l : List MarkD} {zs : List Int} (h : seenOk l = true) {j : Nat} (h1 : zs.getD (3 + 2 * j) 0 = (markAt l (2 + (j : Int))).seq) (h2 : zs.getD (4 + 2 * j) 0 = (markAt l (2 + (j : Int))).index) : rowMark zs j = (atClient l (2 + (j : Int))).toList := by
  unfold rowMark
  rw [h1, h2]
  unfold markAt
  cases e : atClient l (2 + (j : Int)) with
  | none => simp [zeroMark]
  | some m =>
    obtain ⟨hm, hc⟩ := atClient_mem e
    obtain ⟨-, hs, -⟩ := seenOk_markOk h hm
    have hne : ¬ (m.seq = 0) := by omega
    obtain ⟨mc, ms, mi⟩ := m
    simp only at hc hne
    subst hc
    simp [hne]
theorem rowHead_headRow {u b t : Int} {l : List MarkD} (h : headOk u b t l = true) : rowHead (headRow u b t l) = (u, b, t, l, true) := by
  have hs := headOk_seen h
  obtain ⟨hm, hp, -⟩ := seenOk_iff.1 hs
  have e : headRow u b t l = [u, b, t] ++ markRows l 4 ++ [u, u] := if_pos h
  have hl : l = [(2 : Int), 3, 4, 5].filterMap (atClient l) := (gather_keys [2, 3, 4, 5] (by decide) l hp (fun m hm9 => by
    have := (seenOk_markOk hs hm9).1
    simp only [List.mem_cons, List.not_mem_nil, or_false]
    omega)).symm
  have e0 := rowMark_at (zs := headRow u b t l) hs (j := 0) (by rw [e]; simp [markRows]) (by rw [e]; simp [markRows])
  have e1 := rowMark_at (zs := headRow u b t l) hs (j := 1) (by rw [e]; simp [markRows]) (by rw [e]; simp [markRows])
  have e2 := rowMark_at (zs := headRow u b t l) hs (j := 2) (by rw [e]; simp [markRows]) (by rw [e]; simp [markRows])
  have e3 := rowMark_at (zs := headRow u b t l) hs (j := 3) (by rw [e]; simp [markRows]) (by rw [e]; simp [markRows])
  have hrm : rowMarks (headRow u b t l) 4 = l := by
    simp only [rowMarks, e0, e1, e2, e3]
    conv => rhs; rw [hl]
    simp only [List.filterMap_cons, List.filterMap_nil]
    show [] ++ (atClient l 2).toList ++ (atClient l 3).toList ++ (atClient l 4).toList ++ (atClient l 5).toList = _
    cases atClient l 2 <;> cases atClient l 3 <;> cases atClient l 4 <;> cases atClient l 5 <;> rfl
  unfold rowHead
  rw [hrm]
  have g0 : (headRow u b t l).getD 0 0 = u := by rw [e]; rfl
  have g1 : (headRow u b t l).getD 1 0 = b := by rw [e]; rfl
  have g2 : (headRow u b t l).getD 2 0 = t := by rw [e]; rfl
  have g11 : (headRow u b t l).getD 11 0 = u := by rw [e]; simp [markRows]
  have g12 : (headRow u b t l).getD 12 0 = u := by rw [e]; simp [markRows]
  rw [g0, g1, g2, g11, g12]
  rw [if_pos ⟨(headRow_ok h).1, rfl, rfl, h⟩]
theorem unsOk_sum (zs : List Int) : unsOk (zs ++ [sumM zs]) = true := by
  simp [unsOk]
theorem unsM_sum (zs : List Int) : unsM (zs ++ [sumM zs]) = zs := by
  rw [unsM, if_pos (unsOk_sum zs)]
  simp
theorem rightM_same (zs : List Int) : rightM (zs ++ [sumM zs]) (zs ++ [sumM zs]) = [zs] := by
  simp only [rightM, unsOk_sum, unsM_sum, if_true, sameInts, decide_true]
theorem rowHead_zrow : rowHead zrow = (0, 0, 0, [], true) := rowHead_headRow headOk_zero
theorem rowHead_short {zs : List Int} (h : zs.length < 13) : (rowHead zs).2.2.2.2 = false := by
  rw [rowHead, if_neg (fun h9 => by have := h9.1; omega)]
theorem hstep_take1 {p : Int} {S H : HdS} {row : List Int} (h : rowHead row = H) (h1 : H.2.2.2.2 = true) (h2 : H.1 % 2 = p) (h3 : S.2.2.2.2 = false ∨ S.1 < H.1) : hstep p S row = H := by
  rw [hstep, h, if_pos ⟨h1, h2, h3⟩]
theorem newK_eq : newK = (List.replicate 22 []).set 0 (zrow ++ [sumM zrow]) := rfl
theorem zrow_ok : rowOk (zrow ++ [sumM zrow]) = true := rowOk_sum (headRow_ok headOk_zero).2.1 (by rw [show zrow.length = 13 from (headRow_ok headOk_zero).1]; omega)
theorem diskOk_set {k : List (List Int)} {r : List Int} (h : diskOk k [] = true) (hr : rowOk r = true) (j : Nat) : diskOk (k.set j r) [] = true := by
  obtain ⟨h1, h2, -, h4, -⟩ := diskOk_sizes h
  refine diskOk_of (by rw [List.length_set]; exact h1) (by rw [List.length_set]; exact h2) (by simp) (fun i x hx => ?_) (fun i x hx => by simp at hx)
  by_cases hij : j = i
  · subst hij
    by_cases hj : j < k.length
    · rw [List.getElem?_set_self hj] at hx
      injection hx with hx
      rw [← hx]
      exact hr
    · rw [List.getElem?_eq_none (by rw [List.length_set]; omega)] at hx
      cases hx
  · rw [List.getElem?_set_ne hij] at hx
    exact h4 i x hx
theorem diskOk_newK : diskOk newK [] = true := diskOk_set (by decide) zrow_ok 0
theorem twoOk_same {k k2 : List (List Int)} (h : diskOk k [] = true) (h2 : diskOk k2 [] = true) (hl : k.length = k2.length) : twoOk k [] k2 [] = true := by
  simp [twoOk, h, h2, hl]
theorem newK_len : newK.length = 22 := by rw [newK_eq]; simp
section
variable {u be te bl tl : Int} {se sl : List MarkD}
def sumRow (r : List Int) : List Int := r ++ [sumM r]
end
/-- A head in a box, its marks beside it. -/
structure HdAt (v : World) (lo hi b : Nat) (u be te : Int) (A : Option Addr) (c : Nat) (se : List MarkD) : Prop where
  box : Box4 v b (.int .i64 u) (.int .i64 be) (.int .i64 te) (.slice A se.length c)
  sl : Sl v lo hi 3 A se.length c (se.flatMap MarkD.ints)
  h1 : lo ≤ b
  h2 : b < hi
  h3 : hi ≤ v.heap.size
/-- Two disks in a box, their rows beside it. -/
structure TtAt (v : World) (lo hi b n1 : Nat) (k : List (List Int)) (vs : List WriteD) (A0 : Option Addr) (c0 : Nat) (A1 : Option Addr) (c1 : Nat) (A2 : Option Addr) (c2 : Nat) (A3 : Option Addr) (c3 : Nat) : Prop where
  box : Box4 v b (.slice A0 22 c0) (.slice A1 n1 c1) (.slice A2 22 c2) (.slice A3 n1 c3)
  s0 : SlR v lo hi A0 22 c0 k
  s1 : SlW v lo hi A1 n1 c1 vs
  s2 : SlR v lo hi A2 22 c2 k
  s3 : SlW v lo hi A3 n1 c3 vs
  h1 : lo ≤ b
  h2 : b < hi
  h3 : hi ≤ v.heap.size
section
variable {v v' : World} {lo hi b n1 : Nat} {u be te : Int} {A A0 A1 A2 A3 : Option Addr} {c c0 c1 c2 c3 : Nat} {se : List MarkD} {k : List (List Int)} {vs : List WriteD}
theorem HdAt.below {B : Nat} (h : HdAt v lo hi b u be te A c se) (hb : Below B v v') (hB : hi ≤ B) : HdAt v' lo hi b u be te A c se := by
  have h2 := h.h2
  exact ⟨h.box.below hb (by omega), h.sl.below hb hB, h.h1, h2, Nat.le_trans h.h3 hb.size⟩
theorem HdAt.upd {p q : Nat} (h : HdAt v lo hi b u be te A c se) (hu : Upd p q v v') (ho : q ≤ lo ∨ hi ≤ p) : HdAt v' lo hi b u be te A c se := by
  have h1 := h.h1
  have h2 := h.h2
  exact ⟨h.box.upd hu (by omega), h.sl.upd hu (by omega), h1, h2, Nat.le_trans h.h3 hu.size⟩
theorem TtAt.below {B : Nat} (h : TtAt v lo hi b n1 k vs A0 c0 A1 c1 A2 c2 A3 c3) (hb : Below B v v') (hB : hi ≤ B) : TtAt v' lo hi b n1 k vs A0 c0 A1 c1 A2 c2 A3 c3 := by
  have h2 := h.h2
  exact ⟨h.box.below hb (by omega), h.s0.below hb hB, h.s1.below hb hB, h.s2.below hb hB, h.s3.below hb hB, h.h1, h2, Nat.le_trans h.h3 hb.size⟩
theorem TtAt.upd {p q : Nat} (h : TtAt v lo hi b n1 k vs A0 c0 A1 c1 A2 c2 A3 c3) (hu : Upd p q v v') (ho : q ≤ lo ∨ hi ≤ p) : TtAt v' lo hi b n1 k vs A0 c0 A1 c1 A2 c2 A3 c3 := by
  have h1 := h.h1
  have h2 := h.h2
  exact ⟨h.box.upd hu (by omega), h.s0.upd hu (by omega), h.s1.upd hu (by omega), h.s2.upd hu (by omega), h.s3.upd hu (by omega), h1, h2, Nat.le_trans h.h3 hu.size⟩
end
end Go.Proofs.Ytgnilmdaegnaaaa
set_option linter.unusedSimpArgs false
set_option linter.unusedVariables false
namespace Go.Proofs.Ytgnilmdaegnaaaa
open Go.RowKit
open Go.ChangeShapes Go.WideShapes Go.ChangeAt
def wrE (e : EntryD) : WriteD := ⟨slotOf e.index, slotRow e ++ [sumM (slotRow e)]⟩
theorem wrE_ok {e : EntryD} (h : entryOk e = true) : wrOk 22 (wrE e) = true := by
  have hix : btw e.index 1 2000 = true := by
    simp only [entryOk, Bool.and_eq_true] at h
    exact h.1.1.1.1
  obtain ⟨h1, h2⟩ := btw_iff.1 hix
  obtain ⟨h11, hro, -⟩ := slotRow_ok h
  simp only [wrOk, wrE, Bool.and_eq_true]
  refine ⟨?_, rowOk_sum hro (by rw [h11]; omega)⟩
  rw [slotOf, if_pos hix]
  exact btw_iff.2 ⟨by omega, by omega⟩
theorem diskOk_app {k : List (List Int)} {v : List WriteD} (h : diskOk k [] = true) (hl : v.length ≤ 60) (hv : ∀ x ∈ v, wrOk k.length x = true) : diskOk k v = true := by
  obtain ⟨h1, h2, -, h4, -⟩ := diskOk_sizes h
  exact diskOk_of h1 h2 hl h4 (fun j r hr => hv r (List.mem_of_getElem? hr))
theorem diskOk_set0 {k : List (List Int)} {r : List Int} (h : diskOk k [] = true) (hr : rowOk r = true) (j : Nat) : diskOk (k.set j r) [] = true := by
  obtain ⟨h1, h2, -, h4, -⟩ := diskOk_sizes h
  refine diskOk_of (by rw [List.length_set]; exact h1) (by rw [List.length_set]; exact h2) (by simp) (fun i x hx => ?_) (fun i x hx => by simp at hx)
  rcases List.mem_or_eq_of_mem_set (List.mem_of_getElem? hx) with h9 | rfl
  · obtain ⟨i', hi', rfl⟩ := List.getElem_of_mem h9
    exact h4 i' _ (List.getElem?_eq_getElem hi')
  · exact hr
theorem diskOk_sync : ∀ (v : List WriteD) {k : List (List Int)} {n : Nat}, diskOk k [] = true → (∀ x ∈ v, wrOk n x = true) → diskOk (syncM k v) [] = true
  | [], _, _, h, _ => h
  | x :: v, k, n, h, hv => diskOk_sync v (k := k.set x.at_.toNat x.row) (diskOk_set0 h (wrOk_row (hv x List.mem_cons_self)) _) (fun y hy => hv y (List.mem_cons_of_mem _ hy))
def stK (k : List (List Int)) (W : List WriteD) (s i : Nat) : List (List Int) := if i ≤ s then k else syncM k (W.take s)
def stV (W : List WriteD) (s i : Nat) : List WriteD := if i ≤ s then W.take i else (W.take i).drop s
section
variable {k : List (List Int)} {W : List WriteD} {s i : Nat} {x : WriteD}
theorem stV_len (hi : i ≤ W.length) : (stV W s i).length ≤ i := by
  unfold stV
  split
  · rw [List.length_take]; omega
  · rw [List.length_drop, List.length_take]; omega
theorem stV_mem {y : WriteD} (h : y ∈ stV W s i) : y ∈ W := by
  unfold stV at h
  split at h
  · exact List.mem_of_mem_take h
  · exact List.mem_of_mem_take (List.mem_of_mem_drop h)
theorem st_at (h : W[i]? = some x) (hs : i = s) : stK k W s (i + 1) = syncM (stK k W s i) (stV W s i) ∧ stV W s (i + 1) = [x] := by
  subst hs
  unfold stK stV
  rw [if_pos (Nat.le_refl _), if_pos (Nat.le_refl _), if_neg (by omega), if_neg (by omega)]
  refine ⟨rfl, ?_⟩
  have hl : i < W.length := (List.getElem?_eq_some_iff.1 h).1
  rw [List.take_add_one, h]
  simp only [Option.toList_some]
  rw [List.drop_append_of_le_length (by rw [List.length_take]; omega), List.drop_eq_nil_of_le (by rw [List.length_take]; omega)]
  rfl
theorem st_next (h : W[i]? = some x) (hs : i ≠ s) : stK k W s (i + 1) = stK k W s i ∧ stV W s (i + 1) = stV W s i ++ [x] := by
  unfold stK stV
  have hl : i < W.length := (List.getElem?_eq_some_iff.1 h).1
  have e : W.take (i + 1) = W.take i ++ [x] := by rw [List.take_add_one, h]; rfl
  by_cases h1 : i ≤ s
  · rw [if_pos h1, if_pos h1, if_pos (by omega), if_pos (by omega)]
    exact ⟨rfl, e⟩
  · rw [if_neg h1, if_neg h1, if_neg (by omega), if_neg (by omega)]
    refine ⟨rfl, ?_⟩
    rw [e, List.drop_append_of_le_length (by rw [List.length_take]; omega)]
theorem stK_ok (h : diskOk k [] = true) (hk : k.length = 22) (hW : ∀ y ∈ W, wrOk 22 y = true) : diskOk (stK k W s i) [] = true ∧ (stK k W s i).length = 22 := by
  unfold stK
  split
  · exact ⟨h, hk⟩
  · exact ⟨diskOk_sync _ h (fun y hy => hW y (List.mem_of_mem_take hy)), by rw [syncM_len]; exact hk⟩
theorem st_two (h : diskOk k [] = true) (hk : k.length = 22) (hW : ∀ y ∈ W, wrOk 22 y = true) (hi : i ≤ W.length) (hl : W.length ≤ 50) : twoOk (stK k W s i) (stV W s i) (stK k W s i) (stV W s i) = true := by
  obtain ⟨h1, h2⟩ := stK_ok (s := s) (i := i) h hk hW
  have h3 := stV_len (s := s) hi
  have h4 : diskOk (stK k W s i) (stV W s i) = true := diskOk_app h1 (by omega) (fun y hy => by rw [h2]; exact hW y (stV_mem hy))
  simp [twoOk, h4]
end
/-- Two disks in a box of a caller: the rows lie apart from the box and from the block behind it. -/
def BtAt (v : World) (b z n1 : Nat) (k : List (List Int)) (vs : List WriteD) : Prop :=
  ∃ (X0 : Option Addr) (d0 : Nat) (X1 : Option Addr) (d1 : Nat) (X2 : Option Addr) (d2 : Nat) (X3 : Option Addr) (d3 : Nat) (lo hi : Nat), Box4 v b (.slice X0 22 d0) (.slice X1 n1 d1) (.slice X2 22 d2) (.slice X3 n1 d3) ∧ SlR v lo hi X0 22 d0 k ∧ SlW v lo hi X1 n1 d1 vs ∧ SlR v lo hi X2 22 d2 k ∧ SlW v lo hi X3 n1 d3 vs ∧ hi ≤ v.heap.size ∧ ((hi ≤ b ∧ z = 0) ∨ b + 2 ≤ lo)
set_option maxRecDepth 100000 in
set_option maxHeartbeats 8000000 in
theorem w9Kept_any (A0 : Option Addr) (c0 : Nat) (k : List (List Int)) (A1 : Option Addr) (c1 : Nat) (A2 : Option Addr) (c2 : Nat) (A3 : Option Addr) (c3 : Nat) (lo hi : Nat) (w : World) (h0 : SlR w lo hi A0 22 c0 k) (h1 : SlW w lo hi A1 0 c1 []) (h2 : SlR w lo hi A2 22 c2 k) (h3 : SlW w lo hi A3 0 c3 []) (hhi : hi ≤ w.heap.size) (hk : diskOk k [] = true) (B : Option Addr) (n q lol hil s : Nat) (l : List EntryD) (hl : Sl w lol hil 9 B n q (l.flatMap EntryD.ints)) (hhl : hil ≤ w.heap.size) (hn : n ≤ 50) (hs : s ≤ n) (hle : ∀ e ∈ l, entryOk e = true) :
    Calls Try.prog 65 #[.agg #[.slice A0 22 c0, .slice A1 0 c1, .slice A2 22 c2, .slice A3 0 c3], .slice B n q, .int .i64 (s : Int)] w (TwRes w 22 (syncM k ((l.map wrE).take s)) (n - s) ((l.map wrE).drop s) 22 (syncM k ((l.map wrE).take s)) (n - s) ((l.map wrE).drop s)) := by
  have hk22 : k.length = 22 := h0.len
  have hln : l.length = n := hl.count EntryD.ints_len (by omega)
  have hW : ∀ y ∈ l.map wrE, wrOk 22 y = true := fun y hy => by
    obtain ⟨e, he, rfl⟩ := List.mem_map.1 hy
    exact wrE_ok (hle e he)
  have hWl : (l.map wrE).length = n := by rw [List.length_map]; exact hln
  have ST := Lib.hid (fun (i : Nat) (hi : i ≤ n) => st_two (s := s) hk hk22 hW (i := i) (by omega) (by omega))
  have SK := Lib.hid (fun (i : Nat) => stK_ok (s := s) (i := i) hk hk22 hW)
  have SVL := Lib.hid (fun (i : Nat) (hi : i ≤ n) => stV_len (W := l.map wrE) (s := s) (i := i) (by omega))
  have SAT := Lib.hid (fun (i : Nat) (e : EntryD) (he : l[i]? = some e) (hs : i = s) => st_at (k := k) (W := l.map wrE) (s := s) (i := i) (x := wrE e) (by rw [List.getElem?_map, he]; rfl) hs)
  have SNX := Lib.hid (fun (i : Nat) (e : EntryD) (he : l[i]? = some e) (hs : i ≠ s) => st_next (k := k) (W := l.map wrE) (s := s) (i := i) (x := wrE e) (by rw [List.getElem?_map, he]; rfl) hs)
  have SEND : Hid (stK k (l.map wrE) s n = (if n ≤ s then k else syncM k ((l.map wrE).take s)) ∧ stV (l.map wrE) s n = (if n ≤ s then l.map wrE else (l.map wrE).drop s)) := Lib.hid (by
    have e9 : (l.map wrE).take n = l.map wrE := List.take_of_length_le (by omega)
    unfold stK stV
    rw [e9]
    exact ⟨rfl, rfl⟩)
  have SZ : Hid (stK k (l.map wrE) s 0 = k ∧ stV (l.map wrE) s 0 = []) := Lib.hid (by
    unfold stK stV
    rw [if_pos (Nat.zero_le _), if_pos (Nat.zero_le _)]
    exact ⟨rfl, rfl⟩)
  have HL := Lib.hid hl
  have HLE := Lib.hid hle
  have HWL := Lib.hid hWl
  have HB9a : Below w.heap.size w ((w.alloc (.cells #[.slice A0 22 c0, .slice A1 0 c1, .slice A2 22 c2, .slice A3 0 c3] 69)).alloc (.cells #[.slice none 0 0, .slice none 0 0, .slice none 0 0, .slice none 0 0] 69)) := by (repeat' (first | with_reducible exact Below.refl _ _ | with_reducible assumption | with_reducible refine Below.drew ?_ | with_reducible refine Below.alloc ?_ ?_ _ | with_reducible refine Below.setCell ?_ ?_ _ | with_reducible refine Below.trans ?_ (Below.mono (by assumption) ?_) | ((try simp only [World.heap_size_alloc, World.heap_size_drew, World.heap_size_setCell]); omega)))
  have hs9 : ((w.alloc (.cells #[.slice A0 22 c0, .slice A1 0 c1, .slice A2 22 c2, .slice A3 0 c3] 69)).alloc (.cells #[.slice none 0 0, .slice none 0 0, .slice none 0 0, .slice none 0 0] 69)).heap.size = w.heap.size + 2 := by simp only [World.heap_size_alloc]
  have bt0 : BtAt ((w.alloc (.cells #[.slice A0 22 c0, .slice A1 0 c1, .slice A2 22 c2, .slice A3 0 c3] 69)).alloc (.cells #[.slice none 0 0, .slice none 0 0, .slice none 0 0, .slice none 0 0] 69)) w.heap.size 0 (stV (l.map wrE) s 0).length (stK k (l.map wrE) s 0) (stV (l.map wrE) s 0) := by
    rw [SZ.out.1, SZ.out.2]
    refine ⟨A0, c0, A1, c1, A2, c2, A3, c3, lo, hi, (Box4.new w (.slice A0 22 c0) (.slice A1 0 c1) (.slice A2 22 c2) (.slice A3 0 c3) 69).below (B := w.heap.size + 1) ((Below.refl _ _).alloc (by simp) (.cells #[.slice none 0 0, .slice none 0 0, .slice none 0 0, .slice none 0 0] 69)) (by omega), h0.below HB9a hhi, h1.below HB9a hhi, h2.below HB9a hhi, h3.below HB9a hhi, by rw [hs9]; omega, .inl ⟨hhi, rfl⟩⟩
  have T1 : Hid (∀ W, Below (w.heap.size + 2) ((w.alloc (.cells #[.slice A0 22 c0, .slice A1 0 c1, .slice A2 22 c2, .slice A3 0 c3] 69)).alloc (.cells #[.slice none 0 0, .slice none 0 0, .slice none 0 0, .slice none 0 0] 69)) W → Box4 W (w.heap.size + 1) (.slice none 0 0) (.slice none 0 0) (.slice none 0 0) (.slice none 0 0)) := Lib.hid (fun W hW => by
    have h9 := Box4.new (w.alloc (.cells #[.slice A0 22 c0, .slice A1 0 c1, .slice A2 22 c2, .slice A3 0 c3] 69)) (.slice none 0 0) (.slice none 0 0) (.slice none 0 0) (.slice none 0 0) 69
    rw [World.heap_size_alloc] at h9
    exact h9.below hW (by omega))
  have tr0 := T1.out _ (Below.refl _ _)
  have hnI : n ≤ 9223372036854775807 := by omega
  have BT0 := Lib.hid bt0
  have TR0 := Lib.hid tr0
  have HB9 := Lib.hid HB9a
  clear h0 h1 h2 h3 hl hle hW hk hk22 hln bt0 tr0 T1 HB9a hWl
  generalize stK k (l.map wrE) s = SKf at *
  generalize stV (l.map wrE) s = SVf at *
  go_enter Try.func65, Try.ntmps65
  go_wp2_with fail
  generalize hW0 : ((w.alloc (.cells #[.slice A0 22 c0, .slice A1 0 c1, .slice A2 22 c2, .slice A3 0 c3] 69)).alloc (.cells #[.slice none 0 0, .slice none 0 0, .slice none 0 0, .slice none 0 0] 69)) = W0 at *
  have hs9a := Nat.le_of_eq hs9
  have hs9b := Nat.le_of_eq hs9.symm
  clear hW0 hs9
  go_loopw [7] (fun i wr => ∃ (j : Nat), j ≤ n ∧ i = .int .i64 j ∧ Hid (BtAt wr w.heap.size j (SVf j).length (SKf j) (SVf j)) ∧ Hid (Box4 wr (w.heap.size + 1) (.slice none 0 0) (.slice none 0 0) (.slice none 0 0) (.slice none 0 0)) ∧ Hid (Below w.heap.size w wr) ∧ w.heap.size + 2 ≤ wr.heap.size) (fun i _ => n - (intOf i).toNat)
  case atStart => exact ⟨0, Nat.zero_le _, rfl, BT0, TR0, HB9, by omega⟩
  case round =>
    obtain ⟨j, hj, rfl, BT, TR, HB, hyr⟩ := hrel
    obtain ⟨X0, d0, X1, d1, X2, d2, X3, d3, lo', hi', bx, s0, s1, s2, s3, hh', hap⟩ := BT.out
    obtain ⟨p0, p1, p2, p3, pf0, pf1, pf2, pf3⟩ := id bx
    have hvl := SVL.out j hj
    have htw := Lib.hid (ST.out j hj)
    have hskl := (SK.out j).2
    by_cases hlt : j < n
    · obtain ⟨g, off, e, rfl, _, hg, he, e0, e1, e2, e3, e4, e5, e6, e7, e8⟩ := (HL.out.below HB.out hhl).entry hlt
      have hgw : g < w.heap.size := by omega
      have HEO := Lib.hid (HLE.out e (List.mem_of_getElem? he))
      have HE := Lib.hid he
      have HEC : Hid (∀ W, Below w.heap.size wr W → (W.cell? ⟨g, off + j * 9, none⟩ = some (.int .i64 e.index) ∧ W.cell? ⟨g, off + j * 9 + 1, none⟩ = some (.int .i64 e.time) ∧ W.cell? ⟨g, off + j * 9 + 2, none⟩ = some (.int .i64 e.client) ∧ W.cell? ⟨g, off + j * 9 + 3, none⟩ = some (.int .i64 e.seq) ∧ W.cell? ⟨g, off + j * 9 + 4, none⟩ = some (.int .i64 e.op.kind) ∧ W.cell? ⟨g, off + j * 9 + 5, none⟩ = some (.int .i64 e.op.a) ∧ W.cell? ⟨g, off + j * 9 + 6, none⟩ = some (.int .i64 e.op.b) ∧ W.cell? ⟨g, off + j * 9 + 7, none⟩ = some (.int .i64 e.op.c) ∧ W.cell? ⟨g, off + j * 9 + 8, none⟩ = some (.int .i64 e.op.d))) := Lib.hid (fun W hW => ⟨(hW.cell (p := ⟨g, off + j * 9, none⟩) hgw).trans e0, (hW.cell (p := ⟨g, off + j * 9 + 1, none⟩) hgw).trans e1, (hW.cell (p := ⟨g, off + j * 9 + 2, none⟩) hgw).trans e2, (hW.cell (p := ⟨g, off + j * 9 + 3, none⟩) hgw).trans e3, (hW.cell (p := ⟨g, off + j * 9 + 4, none⟩) hgw).trans e4, (hW.cell (p := ⟨g, off + j * 9 + 5, none⟩) hgw).trans e5, (hW.cell (p := ⟨g, off + j * 9 + 6, none⟩) hgw).trans e6, (hW.cell (p := ⟨g, off + j * 9 + 7, none⟩) hgw).trans e7, (hW.cell (p := ⟨g, off + j * 9 + 8, none⟩) hgw).trans e8⟩)
      clear he
      by_cases hjs : j = s
      · subst hjs
        have CSY := Lib.hid (bothSynced_any X0 22 d0 (SKf j) X1 (SVf j).length d1 (SVf j) X2 22 d2 (SKf j) X3 (SVf j).length d3 (SVf j) lo' hi' wr s0 s1 s2 s3 hh' htw.out)
        obtain ⟨sa1, sa2⟩ := SAT.out j e HE.out rfl
        have SA1 := Lib.hid sa1
        have SA2 := Lib.hid sa2
        clear s0 s1 s2 s3 BT e0 e1 e2 e3 e4 e5 e6 e7 e8 sa1 sa2 htw
        go_wp2_with fail
        (with_reducible refine (CSY.out).mono ?_); rintro _ w2 ⟨Y0, f0, Y1, f1, Y2, f2, Y3, f3, rfl, t0, t1, t2, t3, b2⟩
        have y2 := b2.size
        have bx2 := bx.below b2 (by omega)
        have TR2 := Lib.hid ((TR.out.below b2 (by omega)).upd (up4 (b := w.heap.size) (x := .slice Y0 22 f0) (y := .slice Y1 0 f1) (z := .slice Y2 22 f2) (u := .slice Y3 0 f3)) (.inr (Nat.le_refl _)))
        have HB2 := Lib.hid ((HB.out.trans (b2.mono (by omega))).trans (below4 (w := w2) (b := w.heap.size) (x := .slice Y0 22 f0) (y := .slice Y1 0 f1) (z := .slice Y2 22 f2) (u := .slice Y3 0 f3) (Nat.le_refl _)))
        have EC2 := Lib.hid (HEC.out _ ((b2.mono (by omega)).trans (below4 (w := w2) (b := w.heap.size) (x := .slice Y0 22 f0) (y := .slice Y1 0 f1) (z := .slice Y2 22 f2) (u := .slice Y3 0 f3) (Nat.le_refl _))))
        have BN := Lib.hid (bx2.set (.slice Y0 22 f0) (.slice Y1 0 f1) (.slice Y2 22 f2) (.slice Y3 0 f3))
        have Z0 := Lib.hid (t0.upd (up4 (b := w.heap.size) (x := .slice Y0 22 f0) (y := .slice Y1 0 f1) (z := .slice Y2 22 f2) (u := .slice Y3 0 f3)) (.inr (by omega)))
        have Z1 := Lib.hid (t1.upd (up4 (b := w.heap.size) (x := .slice Y0 22 f0) (y := .slice Y1 0 f1) (z := .slice Y2 22 f2) (u := .slice Y3 0 f3)) (.inr (by omega)))
        have Z2 := Lib.hid (t2.upd (up4 (b := w.heap.size) (x := .slice Y0 22 f0) (y := .slice Y1 0 f1) (z := .slice Y2 22 f2) (u := .slice Y3 0 f3)) (.inr (by omega)))
        have Z3 := Lib.hid (t3.upd (up4 (b := w.heap.size) (x := .slice Y0 22 f0) (y := .slice Y1 0 f1) (z := .slice Y2 22 f2) (u := .slice Y3 0 f3)) (.inr (by omega)))
        have hwl : wr.heap.size ≤ ((((w2.setCell ⟨w.heap.size, 0, none⟩ (.slice Y0 22 f0)).setCell ⟨w.heap.size, 1, none⟩ (.slice Y1 0 f1)).setCell ⟨w.heap.size, 2, none⟩ (.slice Y2 22 f2)).setCell ⟨w.heap.size, 3, none⟩ (.slice Y3 0 f3)).heap.size := by rw [size4]; exact y2
        have hw2z : w2.heap.size ≤ ((((w2.setCell ⟨w.heap.size, 0, none⟩ (.slice Y0 22 f0)).setCell ⟨w.heap.size, 1, none⟩ (.slice Y1 0 f1)).setCell ⟨w.heap.size, 2, none⟩ (.slice Y2 22 f2)).setCell ⟨w.heap.size, 3, none⟩ (.slice Y3 0 f3)).heap.size := by rw [size4]; exact Nat.le_refl _
        have hkx : (syncM (SKf j) (SVf j)).length = 22 := by rw [syncM_len]; exact hskl
        have hkok : twoOk (syncM (SKf j) (SVf j)) [] (syncM (SKf j) (SVf j)) [] = true := by
          have := ST.out (j + 1) hlt
          rw [SA1.out] at this
          simp only [twoOk, Bool.and_eq_true, decide_true, and_true] at this
          have h9 := diskOk_sizes this.1
          have h8 : diskOk (syncM (SKf j) (SVf j)) [] = true := diskOk_of h9.1 h9.2.1 (by simp) h9.2.2.2.1 (fun i x hx => by simp at hx)
          exact twoOk_same h8 h8 rfl
        obtain ⟨p0, p1, p2, p3, pf0, pf1, pf2, pf3⟩ := bx2
        clear t0 t1 t2 t3 b2 CSY bx
        go_upto_region 6 with fail
        generalize hWq : ((((w2.setCell ⟨w.heap.size, 0, none⟩ (.slice Y0 22 f0)).setCell ⟨w.heap.size, 1, none⟩ (.slice Y1 0 f1)).setCell ⟨w.heap.size, 2, none⟩ (.slice Y2 22 f2)).setCell ⟨w.heap.size, 3, none⟩ (.slice Y3 0 f3)) = wq at *
        clear hWq p0 p1 p2 p3 pf0 pf1 pf2 pf3
        have KE : Hid (∀ W, Below wq.heap.size wq W → Calls Try.prog 120 #[.agg #[.slice Y0 22 f0, .slice Y1 0 f1, .slice Y2 22 f2, .slice Y3 0 f3], .agg #[.int .i64 e.index, .int .i64 e.time, .int .i64 e.client, .int .i64 e.seq, .int .i64 e.op.kind, .int .i64 e.op.a, .int .i64 e.op.b, .int .i64 e.op.c, .int .i64 e.op.d]] W (TwBRes W 22 (syncM (SKf j) (SVf j)) 1 [wrE e] 22 (syncM (SKf j) (SVf j)) 1 [wrE e] true)) := Lib.hid (fun W hW => keptEntry_any Y0 22 f0 _ Y1 0 f1 [] Y2 22 f2 _ Y3 0 f3 [] wr.heap.size w2.heap.size W (Z0.out.below hW hw2z) (Z1.out.below hW hw2z) (Z2.out.below hW hw2z) (Z3.out.below hW hw2z) (Nat.le_trans hw2z hW.size) e HEO.out hkok rfl (by omega) (by omega))
        have hq9 : wr.heap.size ≤ wq.heap.size := hwl
        have EN : (SVf (j + 1)).length = 1 := by rw [SA2.out]; rfl
        clear hkok hkx Z0 Z1 Z2 Z3 y2 hw2z hwl
        have HKS : Hid (∀ W, Below wq.heap.size wq W → (Box4 W w.heap.size (.slice Y0 22 f0) (.slice Y1 0 f1) (.slice Y2 22 f2) (.slice Y3 0 f3) ∧ (W.cell? ⟨g, off + j * 9, none⟩ = some (.int .i64 e.index) ∧ W.cell? ⟨g, off + j * 9 + 1, none⟩ = some (.int .i64 e.time) ∧ W.cell? ⟨g, off + j * 9 + 2, none⟩ = some (.int .i64 e.client) ∧ W.cell? ⟨g, off + j * 9 + 3, none⟩ = some (.int .i64 e.seq) ∧ W.cell? ⟨g, off + j * 9 + 4, none⟩ = some (.int .i64 e.op.kind) ∧ W.cell? ⟨g, off + j * 9 + 5, none⟩ = some (.int .i64 e.op.a) ∧ W.cell? ⟨g, off + j * 9 + 6, none⟩ = some (.int .i64 e.op.b) ∧ W.cell? ⟨g, off + j * 9 + 7, none⟩ = some (.int .i64 e.op.c) ∧ W.cell? ⟨g, off + j * 9 + 8, none⟩ = some (.int .i64 e.op.d)))) := Lib.hid (fun W hW => ⟨BN.out.below hW (by omega), by
          obtain ⟨e0, e1, e2, e3, e4, e5, e6, e7, e8⟩ := EC2.out
          exact ⟨(hW.cell (p := ⟨g, off + j * 9, none⟩) (show g < wq.heap.size by omega)).trans e0, (hW.cell (p := ⟨g, off + j * 9 + 1, none⟩) (show g < wq.heap.size by omega)).trans e1, (hW.cell (p := ⟨g, off + j * 9 + 2, none⟩) (show g < wq.heap.size by omega)).trans e2, (hW.cell (p := ⟨g, off + j * 9 + 3, none⟩) (show g < wq.heap.size by omega)).trans e3, (hW.cell (p := ⟨g, off + j * 9 + 4, none⟩) (show g < wq.heap.size by omega)).trans e4, (hW.cell (p := ⟨g, off + j * 9 + 5, none⟩) (show g < wq.heap.size by omega)).trans e5, (hW.cell (p := ⟨g, off + j * 9 + 6, none⟩) (show g < wq.heap.size by omega)).trans e6, (hW.cell (p := ⟨g, off + j * 9 + 7, none⟩) (show g < wq.heap.size by omega)).trans e7, (hW.cell (p := ⟨g, off + j * 9 + 8, none⟩) (show g < wq.heap.size by omega)).trans e8⟩⟩)
        obtain ⟨⟨p0, p1, p2, p3, pf0, pf1, pf2, pf3⟩, e0, e1, e2, e3, e4, e5, e6, e7, e8⟩ := HKS.out _ (Below.refl _ _)
        go_region_law (first | (go_simp; go_at_call 120; (with_reducible refine (KE.out _ (by (repeat' (first | with_reducible exact Below.refl _ _ | with_reducible assumption | with_reducible refine Below.drew ?_ | with_reducible refine Below.alloc ?_ ?_ _ | with_reducible refine Below.setCell ?_ ?_ _ | with_reducible refine Below.trans ?_ (Below.mono (by assumption) ?_) | ((try simp only [World.heap_size_alloc, World.heap_size_drew, World.heap_size_setCell]); omega))))).mono ?_); rintro _ w4 ⟨Q0, h0, Q1, h1, Q2, h2, Q3, h3, rfl, t0, t1, t2, t3, b4⟩; have hb4 : Below wq.heap.size wq w4 := (by (repeat' (first | with_reducible exact Below.refl _ _ | with_reducible assumption | with_reducible refine Below.drew ?_ | with_reducible refine Below.alloc ?_ ?_ _ | with_reducible refine Below.setCell ?_ ?_ _ | with_reducible refine Below.trans ?_ (Below.mono (by assumption) ?_) | ((try simp only [World.heap_size_alloc, World.heap_size_drew, World.heap_size_setCell]); omega)))); have y4 := hb4.size; (try simp only [World.heap_size_drew] at b4); clear p0 p1 p2 p3 pf0 pf1 pf2 pf3 e0 e1 e2 e3 e4 e5 e6 e7 e8; obtain ⟨⟨p0, p1, p2, p3, pf0, pf1, pf2, pf3⟩, e0, e1, e2, e3, e4, e5, e6, e7, e8⟩ := HKS.out _ hb4; have T0 := Lib.hid (t0.mono (lo' := wq.heap.size) (by (try simp only [World.heap_size_alloc, World.heap_size_drew, World.heap_size_setCell]); omega) (Nat.le_refl _)); have T1 := Lib.hid (t1.mono (lo' := wq.heap.size) (by (try simp only [World.heap_size_alloc, World.heap_size_drew, World.heap_size_setCell]); omega) (Nat.le_refl _)); have T2 := Lib.hid (t2.mono (lo' := wq.heap.size) (by (try simp only [World.heap_size_alloc, World.heap_size_drew, World.heap_size_setCell]); omega) (Nat.le_refl _)); have T3 := Lib.hid (t3.mono (lo' := wq.heap.size) (by (try simp only [World.heap_size_alloc, World.heap_size_drew, World.heap_size_setCell]); omega) (Nat.le_refl _)); have HB4 := Lib.hid hb4; clear t0 t1 t2 t3 b4 hb4))
        all_goals
          have BNX := Lib.hid ((HKS.out _ HB4.out).1.set (.slice Q0 22 h0) (.slice Q1 1 h1) (.slice Q2 22 h2) (.slice Q3 1 h3))
          have u4 : Upd w.heap.size (w.heap.size + 1) w4 ((((w4.setCell ⟨w.heap.size, 0, none⟩ (.slice Q0 22 h0)).setCell ⟨w.heap.size, 1, none⟩ (.slice Q1 1 h1)).setCell ⟨w.heap.size, 2, none⟩ (.slice Q2 22 h2)).setCell ⟨w.heap.size, 3, none⟩ (.slice Q3 1 h3)) := up4
          have TR4 := Lib.hid ((TR2.out.below HB4.out (by omega)).upd u4 (.inr (Nat.le_refl _)))
          have HB5 := Lib.hid ((HB2.out.trans (HB4.out.mono (by omega))).trans (below4 (w := w4) (b := w.heap.size) (x := .slice Q0 22 h0) (y := .slice Q1 1 h1) (z := .slice Q2 22 h2) (u := .slice Q3 1 h3) (Nat.le_refl _)))
          have hszq : ((((w4.setCell ⟨w.heap.size, 0, none⟩ (.slice Q0 22 h0)).setCell ⟨w.heap.size, 1, none⟩ (.slice Q1 1 h1)).setCell ⟨w.heap.size, 2, none⟩ (.slice Q2 22 h2)).setCell ⟨w.heap.size, 3, none⟩ (.slice Q3 1 h3)).heap.size = w4.heap.size := size4
          have BT4 : Hid (BtAt ((((w4.setCell ⟨w.heap.size, 0, none⟩ (.slice Q0 22 h0)).setCell ⟨w.heap.size, 1, none⟩ (.slice Q1 1 h1)).setCell ⟨w.heap.size, 2, none⟩ (.slice Q2 22 h2)).setCell ⟨w.heap.size, 3, none⟩ (.slice Q3 1 h3)) w.heap.size (j + 1) (SVf (j + 1)).length (SKf (j + 1)) (SVf (j + 1))) := Lib.hid (by
            rw [EN, SA1.out, SA2.out]
            exact ⟨Q0, h0, Q1, h1, Q2, h2, Q3, h3, wq.heap.size, w4.heap.size, BNX.out, T0.out.upd u4 (.inr (by omega)), T1.out.upd u4 (.inr (by omega)), T2.out.upd u4 (.inr (by omega)), T3.out.upd u4 (.inr (by omega)), by rw [size4]; exact Nat.le_refl _, .inr (by omega)⟩)
          clear p0 p1 p2 p3 pf0 pf1 pf2 pf3 e0 e1 e2 e3 e4 e5 e6 e7 e8
          go_wp2_with fail
          go_roundw
          case rel => exact ⟨j + 1, hlt, by go_num, BT4, TR4, HB5, by omega⟩
          case measure => simp [intOf]; omega
      · have hjsI : ¬ (j : Int) = (s : Int) := by omega
        obtain ⟨sa1, sa2⟩ := SNX.out j e HE.out hjs
        have SA1 := Lib.hid sa1
        have SA2 := Lib.hid sa2
        have KE : Hid (∀ W, Below wr.heap.size wr W → Calls Try.prog 120 #[.agg #[.slice X0 22 d0, .slice X1 (SVf j).length d1, .slice X2 22 d2, .slice X3 (SVf j).length d3], .agg #[.int .i64 e.index, .int .i64 e.time, .int .i64 e.client, .int .i64 e.seq, .int .i64 e.op.kind, .int .i64 e.op.a, .int .i64 e.op.b, .int .i64 e.op.c, .int .i64 e.op.d]] W (TwBRes W 22 (SKf j) ((SVf j).length + 1) (SVf j ++ [wrE e]) 22 (SKf j) ((SVf j).length + 1) (SVf j ++ [wrE e]) true)) := Lib.hid (fun W hW => keptEntry_any X0 22 d0 (SKf j) X1 _ d1 (SVf j) X2 22 d2 (SKf j) X3 _ d3 (SVf j) lo' hi' W (s0.below hW hh') (s1.below hW hh') (s2.below hW hh') (s3.below hW hh') (Nat.le_trans hh' hW.size) e HEO.out htw.out rfl (by omega) (by omega))
        have EC2 := Lib.hid (HEC.out wr (Below.refl _ _))
        have BN := Lib.hid bx
        have TR2 := TR
        have HB2 := HB
        have EN : (SVf (j + 1)).length = (SVf j).length + 1 := by rw [SA2.out, List.length_append]; rfl
        clear s0 s1 s2 s3 BT e0 e1 e2 e3 e4 e5 e6 e7 e8 sa1 sa2 htw hap hh'
        clear bx
        go_upto_region 6 with fail
        clear p0 p1 p2 p3 pf0 pf1 pf2 pf3
        have hq9 : wr.heap.size ≤ wr.heap.size := Nat.le_refl _
        have HKS : Hid (∀ W, Below wr.heap.size wr W → (Box4 W w.heap.size (.slice X0 22 d0) (.slice X1 (SVf j).length d1) (.slice X2 22 d2) (.slice X3 (SVf j).length d3) ∧ (W.cell? ⟨g, off + j * 9, none⟩ = some (.int .i64 e.index) ∧ W.cell? ⟨g, off + j * 9 + 1, none⟩ = some (.int .i64 e.time) ∧ W.cell? ⟨g, off + j * 9 + 2, none⟩ = some (.int .i64 e.client) ∧ W.cell? ⟨g, off + j * 9 + 3, none⟩ = some (.int .i64 e.seq) ∧ W.cell? ⟨g, off + j * 9 + 4, none⟩ = some (.int .i64 e.op.kind) ∧ W.cell? ⟨g, off + j * 9 + 5, none⟩ = some (.int .i64 e.op.a) ∧ W.cell? ⟨g, off + j * 9 + 6, none⟩ = some (.int .i64 e.op.b) ∧ W.cell? ⟨g, off + j * 9 + 7, none⟩ = some (.int .i64 e.op.c) ∧ W.cell? ⟨g, off + j * 9 + 8, none⟩ = some (.int .i64 e.op.d)))) := Lib.hid (fun W hW => ⟨BN.out.below hW (by omega), by
          obtain ⟨e0, e1, e2, e3, e4, e5, e6, e7, e8⟩ := EC2.out
          exact ⟨(hW.cell (p := ⟨g, off + j * 9, none⟩) (show g < wr.heap.size by omega)).trans e0, (hW.cell (p := ⟨g, off + j * 9 + 1, none⟩) (show g < wr.heap.size by omega)).trans e1, (hW.cell (p := ⟨g, off + j * 9 + 2, none⟩) (show g < wr.heap.size by omega)).trans e2, (hW.cell (p := ⟨g, off + j * 9 + 3, none⟩) (show g < wr.heap.size by omega)).trans e3, (hW.cell (p := ⟨g, off + j * 9 + 4, none⟩) (show g < wr.heap.size by omega)).trans e4, (hW.cell (p := ⟨g, off + j * 9 + 5, none⟩) (show g < wr.heap.size by omega)).trans e5, (hW.cell (p := ⟨g, off + j * 9 + 6, none⟩) (show g < wr.heap.size by omega)).trans e6, (hW.cell (p := ⟨g, off + j * 9 + 7, none⟩) (show g < wr.heap.size by omega)).trans e7, (hW.cell (p := ⟨g, off + j * 9 + 8, none⟩) (show g < wr.heap.size by omega)).trans e8⟩⟩)
        obtain ⟨⟨p0, p1, p2, p3, pf0, pf1, pf2, pf3⟩, e0, e1, e2, e3, e4, e5, e6, e7, e8⟩ := HKS.out _ (Below.refl _ _)
        go_region_law (first | (go_simp; go_at_call 120; (with_reducible refine (KE.out _ (by (repeat' (first | with_reducible exact Below.refl _ _ | with_reducible assumption | with_reducible refine Below.drew ?_ | with_reducible refine Below.alloc ?_ ?_ _ | with_reducible refine Below.setCell ?_ ?_ _ | with_reducible refine Below.trans ?_ (Below.mono (by assumption) ?_) | ((try simp only [World.heap_size_alloc, World.heap_size_drew, World.heap_size_setCell]); omega))))).mono ?_); rintro _ w4 ⟨Q0, h0, Q1, h1, Q2, h2, Q3, h3, rfl, t0, t1, t2, t3, b4⟩; have hb4 : Below wr.heap.size wr w4 := (by (repeat' (first | with_reducible exact Below.refl _ _ | with_reducible assumption | with_reducible refine Below.drew ?_ | with_reducible refine Below.alloc ?_ ?_ _ | with_reducible refine Below.setCell ?_ ?_ _ | with_reducible refine Below.trans ?_ (Below.mono (by assumption) ?_) | ((try simp only [World.heap_size_alloc, World.heap_size_drew, World.heap_size_setCell]); omega)))); have y4 := hb4.size; (try simp only [World.heap_size_drew] at b4); clear p0 p1 p2 p3 pf0 pf1 pf2 pf3 e0 e1 e2 e3 e4 e5 e6 e7 e8; obtain ⟨⟨p0, p1, p2, p3, pf0, pf1, pf2, pf3⟩, e0, e1, e2, e3, e4, e5, e6, e7, e8⟩ := HKS.out _ hb4; have T0 := Lib.hid (t0.mono (lo' := wr.heap.size) (by (try simp only [World.heap_size_alloc, World.heap_size_drew, World.heap_size_setCell]); omega) (Nat.le_refl _)); have T1 := Lib.hid (t1.mono (lo' := wr.heap.size) (by (try simp only [World.heap_size_alloc, World.heap_size_drew, World.heap_size_setCell]); omega) (Nat.le_refl _)); have T2 := Lib.hid (t2.mono (lo' := wr.heap.size) (by (try simp only [World.heap_size_alloc, World.heap_size_drew, World.heap_size_setCell]); omega) (Nat.le_refl _)); have T3 := Lib.hid (t3.mono (lo' := wr.heap.size) (by (try simp only [World.heap_size_alloc, World.heap_size_drew, World.heap_size_setCell]); omega) (Nat.le_refl _)); have HB4 := Lib.hid hb4; clear t0 t1 t2 t3 b4 hb4))
        all_goals
          have BNX := Lib.hid ((HKS.out _ HB4.out).1.set (.slice Q0 22 h0) (.slice Q1 ((SVf j).length + 1) h1) (.slice Q2 22 h2) (.slice Q3 ((SVf j).length + 1) h3))
          have u4 : Upd w.heap.size (w.heap.size + 1) w4 ((((w4.setCell ⟨w.heap.size, 0, none⟩ (.slice Q0 22 h0)).setCell ⟨w.heap.size, 1, none⟩ (.slice Q1 ((SVf j).length + 1) h1)).setCell ⟨w.heap.size, 2, none⟩ (.slice Q2 22 h2)).setCell ⟨w.heap.size, 3, none⟩ (.slice Q3 ((SVf j).length + 1) h3)) := up4
          have TR4 := Lib.hid ((TR2.out.below HB4.out (by omega)).upd u4 (.inr (Nat.le_refl _)))
          have HB5 := Lib.hid ((HB2.out.trans (HB4.out.mono (by omega))).trans (below4 (w := w4) (b := w.heap.size) (x := .slice Q0 22 h0) (y := .slice Q1 ((SVf j).length + 1) h1) (z := .slice Q2 22 h2) (u := .slice Q3 ((SVf j).length + 1) h3) (Nat.le_refl _)))
          have hszq : ((((w4.setCell ⟨w.heap.size, 0, none⟩ (.slice Q0 22 h0)).setCell ⟨w.heap.size, 1, none⟩ (.slice Q1 ((SVf j).length + 1) h1)).setCell ⟨w.heap.size, 2, none⟩ (.slice Q2 22 h2)).setCell ⟨w.heap.size, 3, none⟩ (.slice Q3 ((SVf j).length + 1) h3)).heap.size = w4.heap.size := size4
          have BT4 : Hid (BtAt ((((w4.setCell ⟨w.heap.size, 0, none⟩ (.slice Q0 22 h0)).setCell ⟨w.heap.size, 1, none⟩ (.slice Q1 ((SVf j).length + 1) h1)).setCell ⟨w.heap.size, 2, none⟩ (.slice Q2 22 h2)).setCell ⟨w.heap.size, 3, none⟩ (.slice Q3 ((SVf j).length + 1) h3)) w.heap.size (j + 1) (SVf (j + 1)).length (SKf (j + 1)) (SVf (j + 1))) := Lib.hid (by
            rw [EN, SA1.out, SA2.out]
            exact ⟨Q0, h0, Q1, h1, Q2, h2, Q3, h3, wr.heap.size, w4.heap.size, BNX.out, T0.out.upd u4 (.inr (by omega)), T1.out.upd u4 (.inr (by omega)), T2.out.upd u4 (.inr (by omega)), T3.out.upd u4 (.inr (by omega)), by rw [size4]; exact Nat.le_refl _, .inr (by omega)⟩)
          clear p0 p1 p2 p3 pf0 pf1 pf2 pf3 e0 e1 e2 e3 e4 e5 e6 e7 e8
          go_wp2_with fail
          go_roundw
          case rel => exact ⟨j + 1, hlt, by go_num, BT4, TR4, HB5, by omega⟩
          case measure => simp [intOf]; omega
    · have hjn : j = n := by omega
      have SE := SEND.out
      rw [← hjn] at SE
      by_cases hns : n ≤ s
      · have hsn : s = n := by omega
        have hgeI : (n : Int) ≤ (s : Int) := by omega
        have CSY := Lib.hid (bothSynced_any X0 22 d0 (SKf j) X1 (SVf j).length d1 (SVf j) X2 22 d2 (SKf j) X3 (SVf j).length d3 (SVf j) lo' hi' wr s0 s1 s2 s3 hh' htw.out)
        rw [if_pos (by omega), if_pos (by omega)] at SE
        have SE1 := Lib.hid SE.1
        have SE2 := Lib.hid SE.2
        have HJN := Lib.hid hjn
        have hltI : ¬ (j : Int) < (n : Int) := by omega
        have HSN := Lib.hid hsn
        clear s0 s1 s2 s3 BT htw hap hh' SE hjn hsn
        go_wp2_with fail
        (with_reducible refine (CSY.out).mono ?_); rintro _ w2 ⟨Y0, e0, Y1, e1, Y2, e2, Y3, e3, rfl, t0, t1, t2, t3, b2⟩
        have y2 := b2.size
        have bx2 := bx.below b2 (by omega)
        have tr2 := TR.out.below b2 (by omega)
        obtain ⟨p0, p1, p2, p3, pf0, pf1, pf2, pf3⟩ := id bx2
        have hb2 := HB.out.trans (b2.mono (by omega))
        have u4 : Upd w.heap.size (w.heap.size + 1) w2 ((((w2.setCell ⟨w.heap.size, 0, none⟩ (.slice Y0 22 e0)).setCell ⟨w.heap.size, 1, none⟩ (.slice Y1 0 e1)).setCell ⟨w.heap.size, 2, none⟩ (.slice Y2 22 e2)).setCell ⟨w.heap.size, 3, none⟩ (.slice Y3 0 e3)) := up4
        have bx3 := bx2.set (.slice Y0 22 e0) (.slice Y1 0 e1) (.slice Y2 22 e2) (.slice Y3 0 e3)
        have tr3 := tr2.upd u4 (.inr (Nat.le_refl _))
        have hszz : ((((w2.setCell ⟨w.heap.size, 0, none⟩ (.slice Y0 22 e0)).setCell ⟨w.heap.size, 1, none⟩ (.slice Y1 0 e1)).setCell ⟨w.heap.size, 2, none⟩ (.slice Y2 22 e2)).setCell ⟨w.heap.size, 3, none⟩ (.slice Y3 0 e3)).heap.size = w2.heap.size := size4
        have HBZ := Lib.hid (hb2.trans (below4 (w := w2) (b := w.heap.size) (x := .slice Y0 22 e0) (y := .slice Y1 0 e1) (z := .slice Y2 22 e2) (u := .slice Y3 0 e3) (Nat.le_refl _)))
        have hK : Hid (syncM (SKf j) (SVf j) = syncM k ((l.map wrE).take s)) := Lib.hid (by rw [SE1.out, SE2.out, HSN.out, List.take_of_length_le (by rw [HWL.out]; exact Nat.le_refl _)])
        have hV : Hid ((l.map wrE).drop s = [] ∧ n - s = 0) := Lib.hid ⟨List.drop_eq_nil_of_le (by rw [HWL.out, HSN.out]; exact Nat.le_refl _), by rw [HSN.out]; omega⟩
        have SS0 := Lib.hid ((t0.upd u4 (.inr (by omega))).mono (lo' := w.heap.size + 2) (by omega) (Nat.le_refl _))
        have SS1 := Lib.hid ((t1.upd u4 (.inr (by omega))).mono (lo' := w.heap.size + 2) (by omega) (Nat.le_refl _))
        have SS2 := Lib.hid ((t2.upd u4 (.inr (by omega))).mono (lo' := w.heap.size + 2) (by omega) (Nat.le_refl _))
        have SS3 := Lib.hid ((t3.upd u4 (.inr (by omega))).mono (lo' := w.heap.size + 2) (by omega) (Nat.le_refl _))
        clear t0 t1 t2 t3 b2 bx bx2 tr2 hb2 u4
        go_upto_region 9 with fail
        clear p0 p1 p2 p3 pf0 pf1 pf2 pf3
        obtain ⟨x0, x1, x2, x3, -, -, -, -⟩ := bx3
        obtain ⟨p0, p1, p2, p3, g0, g1, g2, g3⟩ := tr3
        generalize ((((w2.setCell ⟨w.heap.size, 0, none⟩ (.slice Y0 22 e0)).setCell ⟨w.heap.size, 1, none⟩ (.slice Y1 0 e1)).setCell ⟨w.heap.size, 2, none⟩ (.slice Y2 22 e2)).setCell ⟨w.heap.size, 3, none⟩ (.slice Y3 0 e3)) = w4 at *
        have u9 : Upd (w.heap.size + 1) (w.heap.size + 2) w4 ((((w4.setCell ⟨w.heap.size + 1, 0, none⟩ (.slice Y0 22 e0)).setCell ⟨w.heap.size + 1, 1, none⟩ (.slice Y1 0 e1)).setCell ⟨w.heap.size + 1, 2, none⟩ (.slice Y2 22 e2)).setCell ⟨w.heap.size + 1, 3, none⟩ (.slice Y3 0 e3)) := up4
        go_wp2_with fail
        refine bodyPost_ret (v := .agg #[.slice Y0 22 e0, .slice Y1 0 e1, .slice Y2 22 e2, .slice Y3 0 e3]) (by simp [results, Try.results65, go_sem, p0, p1, p2, p3, g0, g1, g2, g3]) rfl (by rw [hV.out.1, hV.out.2, ← hK.out]; exact ⟨Y0, e0, Y1, e1, Y2, e2, Y3, e3, rfl, (SS0.out.upd u9 (.inr (by omega))).mono (by omega) (by rw [size4]; omega), (SS1.out.upd u9 (.inr (by omega))).mono (by omega) (by rw [size4]; omega), (SS2.out.upd u9 (.inr (by omega))).mono (by omega) (by rw [size4]; omega), (SS3.out.upd u9 (.inr (by omega))).mono (by omega) (by rw [size4]; omega), HBZ.out.trans (below4 (by omega))⟩)
      · have hgeI : ¬ (n : Int) ≤ (s : Int) := by omega
        rw [if_neg (by omega), if_neg (by omega)] at SE
        have htk : Hid (syncM k ((l.map wrE).take s) = SKf j ∧ (l.map wrE).drop s = SVf j ∧ n - s = (SVf j).length) := Lib.hid ⟨SE.1.symm, SE.2.symm, by rw [SE.2, List.length_drop, HWL.out]⟩
        have SS0 := Lib.hid s0
        have SS1 := Lib.hid s1
        have SS2 := Lib.hid s2
        have SS3 := Lib.hid s3
        have hltI : ¬ (j : Int) < (n : Int) := by omega
        have hlo2 : w.heap.size + 2 ≤ lo' := by omega
        clear s0 s1 s2 s3 BT htw SE hjn
        go_upto_region 9 with fail
        clear p0 p1 p2 p3 pf0 pf1 pf2 pf3
        obtain ⟨x0, x1, x2, x3, -, -, -, -⟩ := bx
        obtain ⟨p0, p1, p2, p3, g0, g1, g2, g3⟩ := TR.out
        have u9 : Upd (w.heap.size + 1) (w.heap.size + 2) wr ((((wr.setCell ⟨w.heap.size + 1, 0, none⟩ (.slice X0 22 d0)).setCell ⟨w.heap.size + 1, 1, none⟩ (.slice X1 (SVf j).length d1)).setCell ⟨w.heap.size + 1, 2, none⟩ (.slice X2 22 d2)).setCell ⟨w.heap.size + 1, 3, none⟩ (.slice X3 (SVf j).length d3)) := up4
        go_wp2_with fail
        refine bodyPost_ret (v := .agg #[.slice X0 22 d0, .slice X1 (SVf j).length d1, .slice X2 22 d2, .slice X3 (SVf j).length d3]) (by simp [results, Try.results65, go_sem, p0, p1, p2, p3, g0, g1, g2, g3]) rfl (by rw [htk.out.1, htk.out.2.1, htk.out.2.2]; exact ⟨X0, d0, X1, d1, X2, d2, X3, d3, rfl, (SS0.out.upd u9 (.inr (by omega))).mono (by omega) (by rw [size4]; omega), (SS1.out.upd u9 (.inr (by omega))).mono (by omega) (by rw [size4]; omega), (SS2.out.upd u9 (.inr (by omega))).mono (by omega) (by rw [size4]; omega), (SS3.out.upd u9 (.inr (by omega))).mono (by omega) (by rw [size4]; omega), HB.out.trans (below4 (by omega))⟩)
end Go.Proofs.Ytgnilmdaegnaaaa
set_option linter.unusedSimpArgs false
set_option linter.unusedVariables false
namespace Go.Proofs.Ytgnilmdaegnaaaa
open Go.RowKit
open Go.ChangeShapes Go.WideShapes Go.ChangeAt
def readM (idx b t : Int) (l : List EntryD) (seen : List MarkD) (row : List Int) : EntryD × Bool := if (rowSlot row).2 = true ∧ (rowSlot row).1.index = idx ∧ fitsM b t l (rowSlot row).1 = true then ((rowSlot row).1, (marked seen (rowSlot row).1).2) else (entryNone, false)
/-- An entry in a box. -/
def Box9 (v : World) (g : Nat) (e : EntryD) : Prop := (v.cell? ⟨g, 0, none⟩ = some (.int .i64 e.index) ∧ v.cell? ⟨g, 1, none⟩ = some (.int .i64 e.time) ∧ v.cell? ⟨g, 2, none⟩ = some (.int .i64 e.client) ∧ v.cell? ⟨g, 3, none⟩ = some (.int .i64 e.seq) ∧ v.cell? ⟨g, 4, none⟩ = some (.int .i64 e.op.kind) ∧ v.cell? ⟨g, 5, none⟩ = some (.int .i64 e.op.a) ∧ v.cell? ⟨g, 6, none⟩ = some (.int .i64 e.op.b) ∧ v.cell? ⟨g, 7, none⟩ = some (.int .i64 e.op.c) ∧ v.cell? ⟨g, 8, none⟩ = some (.int .i64 e.op.d)) ∧ (v.frozen? ⟨g, 0, none⟩ = false ∧ v.frozen? ⟨g, 1, none⟩ = false ∧ v.frozen? ⟨g, 2, none⟩ = false ∧ v.frozen? ⟨g, 3, none⟩ = false ∧ v.frozen? ⟨g, 4, none⟩ = false ∧ v.frozen? ⟨g, 5, none⟩ = false ∧ v.frozen? ⟨g, 6, none⟩ = false ∧ v.frozen? ⟨g, 7, none⟩ = false ∧ v.frozen? ⟨g, 8, none⟩ = false)
theorem Box9.new (w : World) (e : EntryD) (E : Nat) : Box9 (w.alloc (.cells #[.int .i64 e.index, .int .i64 e.time, .int .i64 e.client, .int .i64 e.seq, .int .i64 e.op.kind, .int .i64 e.op.a, .int .i64 e.op.b, .int .i64 e.op.c, .int .i64 e.op.d] E)) w.heap.size e := by
  refine ⟨⟨by simp, by simp, by simp, by simp, by simp, by simp, by simp, by simp, by simp⟩, ⟨by simp, by simp, by simp, by simp, by simp, by simp, by simp, by simp, by simp⟩⟩
theorem Box9.below {v v' : World} {g B : Nat} {e : EntryD} (h : Box9 v g e) (hb : Below B v v') (hB : g < B) : Box9 v' g e := by
  obtain ⟨⟨h0, h1, h2, h3, h4, h5, h6, h7, h8⟩, k0, k1, k2, k3, k4, k5, k6, k7, k8⟩ := h
  exact ⟨⟨(hb.cell (p := ⟨g, 0, none⟩) hB).trans h0, (hb.cell (p := ⟨g, 1, none⟩) hB).trans h1, (hb.cell (p := ⟨g, 2, none⟩) hB).trans h2, (hb.cell (p := ⟨g, 3, none⟩) hB).trans h3, (hb.cell (p := ⟨g, 4, none⟩) hB).trans h4, (hb.cell (p := ⟨g, 5, none⟩) hB).trans h5, (hb.cell (p := ⟨g, 6, none⟩) hB).trans h6, (hb.cell (p := ⟨g, 7, none⟩) hB).trans h7, (hb.cell (p := ⟨g, 8, none⟩) hB).trans h8⟩, (hb.frozen (p := ⟨g, 0, none⟩) hB).trans k0, (hb.frozen (p := ⟨g, 1, none⟩) hB).trans k1, (hb.frozen (p := ⟨g, 2, none⟩) hB).trans k2, (hb.frozen (p := ⟨g, 3, none⟩) hB).trans k3, (hb.frozen (p := ⟨g, 4, none⟩) hB).trans k4, (hb.frozen (p := ⟨g, 5, none⟩) hB).trans k5, (hb.frozen (p := ⟨g, 6, none⟩) hB).trans k6, (hb.frozen (p := ⟨g, 7, none⟩) hB).trans k7, (hb.frozen (p := ⟨g, 8, none⟩) hB).trans k8⟩
theorem below9 {w : World} {B b : Nat} (hB : B ≤ b) {x0 x1 x2 x3 x4 x5 x6 x7 x8 : Value} : Below B w (((((((((w.setCell ⟨b, 0, none⟩ x0).setCell ⟨b, 1, none⟩ x1).setCell ⟨b, 2, none⟩ x2).setCell ⟨b, 3, none⟩ x3).setCell ⟨b, 4, none⟩ x4).setCell ⟨b, 5, none⟩ x5).setCell ⟨b, 6, none⟩ x6).setCell ⟨b, 7, none⟩ x7).setCell ⟨b, 8, none⟩ x8) := (((((((((Below.refl _ _).setCell (p := ⟨b, 0, none⟩) hB _).setCell (p := ⟨b, 1, none⟩) hB _).setCell (p := ⟨b, 2, none⟩) hB _).setCell (p := ⟨b, 3, none⟩) hB _).setCell (p := ⟨b, 4, none⟩) hB _).setCell (p := ⟨b, 5, none⟩) hB _).setCell (p := ⟨b, 6, none⟩) hB _).setCell (p := ⟨b, 7, none⟩) hB _).setCell (p := ⟨b, 8, none⟩) hB _
set_option maxRecDepth 100000 in
set_option maxHeartbeats 4000000 in
theorem bookInFn_any (A : Option Addr) (n c lo hi : Nat) (zs : List Int) (gi gb gs : Nat) (idx b t : Int) (B : Option Addr) (m q lol hil : Nat) (l : List EntryD) (S : Option Addr) (sn sc los his : Nat) (seen : List MarkD) (w : World) (h : Sl w lo hi 1 A n c zs) (hh : hi ≤ w.heap.size)
    (ci : w.cell? ⟨gi, 0, none⟩ = some (.int .i64 idx)) (cb0 : w.cell? ⟨gb, 0, none⟩ = some (.int .i64 b)) (cb1 : w.cell? ⟨gb, 1, none⟩ = some (.int .i64 t)) (cb2 : w.cell? ⟨gb, 2, none⟩ = some (.slice B m q)) (cs : w.cell? ⟨gs, 0, none⟩ = some (.slice S sn sc))
    (hl : Sl w lol hil 9 B m q (l.flatMap EntryD.ints)) (hhl : hil ≤ w.heap.size) (hs : Sl w los his 3 S sn sc (seen.flatMap MarkD.ints)) (hhs : his ≤ w.heap.size) (h0 : 0 ≤ b) (h1 : b ≤ 2000) (hm : m ≤ 20) :
    Calls Try.prog 158 #[.slice A n c, .pointer (some ⟨gi, 0, none⟩), .pointer (some ⟨gb, 0, none⟩), .pointer (some ⟨gs, 0, none⟩)] w (EntryBRes w (readM idx b t l seen zs)) := by
  have li := World.block_lt_of_cell? w _ ci
  have lb := World.block_lt_of_cell? w _ cb0
  have ls := World.block_lt_of_cell? w _ cs
  simp only at li lb ls
  have HR := Lib.hid (show readM idx b t l seen zs = if (rowSlot zs).2 = true ∧ (rowSlot zs).1.index = idx ∧ fitsM b t l (rowSlot zs).1 = true then ((rowSlot zs).1, (marked seen (rowSlot zs).1).2) else (entryNone, false) from rfl)
  have CR : Hid (∀ W, Below w.heap.size w W → Calls Try.prog 24 #[.slice A n c] W (EntryBRes W (rowSlot zs))) := Lib.hid (fun W hW => rowSlot_any A n c lo hi zs W (h.below hW hh))
  generalize readM idx b t l seen zs = R at *
  generalize rowSlot zs = rs at *
  obtain ⟨E, ok⟩ := rs
  simp only at HR CR
  have CAP : Hid (∀ W, Below w.heap.size w W → (W.cell? ⟨gi, 0, none⟩ = some (.int .i64 idx) ∧ W.cell? ⟨gb, 0, none⟩ = some (.int .i64 b) ∧ W.cell? ⟨gb, 1, none⟩ = some (.int .i64 t) ∧ W.cell? ⟨gb, 2, none⟩ = some (.slice B m q) ∧ W.cell? ⟨gs, 0, none⟩ = some (.slice S sn sc))) := Lib.hid (fun W hW => ⟨(hW.cell (p := ⟨gi, 0, none⟩) li).trans ci, (hW.cell (p := ⟨gb, 0, none⟩) lb).trans cb0, (hW.cell (p := ⟨gb, 1, none⟩) lb).trans cb1, (hW.cell (p := ⟨gb, 2, none⟩) lb).trans cb2, (hW.cell (p := ⟨gs, 0, none⟩) ls).trans cs⟩)
  have CF : Hid (∀ W, Below w.heap.size w W → Calls Try.prog 159 #[.agg #[.int .i64 b, .int .i64 t, .slice B m q], .agg #[.int .i64 E.index, .int .i64 E.time, .int .i64 E.client, .int .i64 E.seq, .int .i64 E.op.kind, .int .i64 E.op.a, .int .i64 E.op.b, .int .i64 E.op.c, .int .i64 E.op.d]] W (fun x w' => x = .returned (.bool (fitsM b t l E)) ∧ Below W.heap.size W w')) := Lib.hid (fun W hW => fits_any b t B m q lol hil l E W (hl.below hW hhl) h0 h1 hm)
  have CM : Hid (∀ W, Below w.heap.size w W → Calls Try.prog 160 #[.slice S sn sc, .agg #[.int .i64 E.index, .int .i64 E.time, .int .i64 E.client, .int .i64 E.seq, .int .i64 E.op.kind, .int .i64 E.op.a, .int .i64 E.op.b, .int .i64 E.op.c, .int .i64 E.op.d]] W (SlBRes W 3 (marked seen E).1.length ((marked seen E).1.flatMap MarkD.ints, (marked seen E).2))) := Lib.hid (fun W hW => marked_any S sn sc los his seen E W (hs.below hW hhs))
  generalize hft : fitsM b t l E = ft at *
  generalize marked seen E = mk at *
  clear hft
  have hal : Below w.heap.size w (w.alloc (.cells #[.int .i64 0, .int .i64 0, .int .i64 0, .int .i64 0, .int .i64 0, .int .i64 0, .int .i64 0, .int .i64 0, .int .i64 0] 32)) := (Below.refl _ _).alloc (Nat.le_refl _) _
  have hsz : (w.alloc (.cells #[.int .i64 0, .int .i64 0, .int .i64 0, .int .i64 0, .int .i64 0, .int .i64 0, .int .i64 0, .int .i64 0, .int .i64 0] 32)).heap.size = w.heap.size + 1 := World.heap_size_alloc _ _
  have KR := Lib.hid (show Box9 (w.alloc (.cells #[.int .i64 0, .int .i64 0, .int .i64 0, .int .i64 0, .int .i64 0, .int .i64 0, .int .i64 0, .int .i64 0, .int .i64 0] 32)) w.heap.size entryNone from Box9.new w entryNone 32)
  have HAL := Lib.hid hal
  clear h ci cb0 cb1 cb2 cs hl hs
  go_enter Try.func158, Try.ntmps158
  go_wp2_with fail
  generalize hW0 : w.alloc (.cells #[.int .i64 0, .int .i64 0, .int .i64 0, .int .i64 0, .int .i64 0, .int .i64 0, .int .i64 0, .int .i64 0, .int .i64 0] 32) = W0 at *
  have hsza := Nat.le_of_eq hsz
  have hszb := Nat.le_of_eq hsz.symm
  clear hW0 hsz
  (with_reducible refine (CR.out _ hal).mono ?_); rintro _ w1 ⟨rfl, b1⟩
  have y1 := b1.size
  have hal2 : Below w1.heap.size w1 (w1.alloc (.cells #[.int .i64 E.index, .int .i64 E.time, .int .i64 E.client, .int .i64 E.seq, .int .i64 E.op.kind, .int .i64 E.op.a, .int .i64 E.op.b, .int .i64 E.op.c, .int .i64 E.op.d] 32)) := (Below.refl _ _).alloc (Nat.le_refl _) _
  have hsz2 : (w1.alloc (.cells #[.int .i64 E.index, .int .i64 E.time, .int .i64 E.client, .int .i64 E.seq, .int .i64 E.op.kind, .int .i64 E.op.a, .int .i64 E.op.b, .int .i64 E.op.c, .int .i64 E.op.d] 32)).heap.size = w1.heap.size + 1 := World.heap_size_alloc _ _
  have K7 := Lib.hid (Box9.new w1 E 32)
  have P2 := Lib.hid (b1.trans (hal2.mono y1))
  clear b1 hal hal2
  go_upto_region 2 with fail
  generalize hW2 : w1.alloc (.cells #[.int .i64 E.index, .int .i64 E.time, .int .i64 E.client, .int .i64 E.seq, .int .i64 E.op.kind, .int .i64 E.op.a, .int .i64 E.op.b, .int .i64 E.op.c, .int .i64 E.op.d] 32) = W2 at *
  have hsz2a := Nat.le_of_eq hsz2
  have hsz2b := Nat.le_of_eq hsz2.symm
  clear hW2 hsz2
  have BW : Hid (Below w.heap.size w W2) := Lib.hid (HAL.out.trans (P2.out.mono (by omega)))
  have ALL : Hid (∀ W, Below W2.heap.size W2 W → (Box9 W w.heap.size entryNone ∧ Box9 W w1.heap.size E ∧ Below w.heap.size w W)) := Lib.hid (fun W hW => ⟨(KR.out.below P2.out (by omega)).below hW (by omega), K7.out.below hW (by omega), BW.out.trans (hW.mono (by omega))⟩)
  cases ok with
  | false =>
    rw [if_neg (by simp)] at HR
    have HR2 := HR.out
    subst HR2
    obtain ⟨⟨⟨r0, r1, r2, r3, r4, r5, r6, r7, r8⟩, rf0, rf1, rf2, rf3, rf4, rf5, rf6, rf7, rf8⟩, -, -⟩ := ALL.out _ (Below.refl _ _)
    clear HR
    go_wp2_with fail
    refine bodyPost_ret (v := .tuple #[.agg #[.int .i64 0, .int .i64 0, .int .i64 0, .int .i64 0, .int .i64 0, .int .i64 0, .int .i64 0, .int .i64 0, .int .i64 0], .bool false]) (by simp [results, Try.results158, go_sem, r0, r1, r2, r3, r4, r5, r6, r7, r8, rf0, rf1, rf2, rf3, rf4, rf5, rf6, rf7, rf8]) rfl ⟨rfl, ?_⟩
    exact BW.out.trans (below9 (Nat.le_refl _))
  | true =>
    obtain ⟨i0, v0, v1, v2, s0⟩ := CAP.out _ BW.out
    obtain ⟨⟨⟨r0, r1, r2, r3, r4, r5, r6, r7, r8⟩, rf0, rf1, rf2, rf3, rf4, rf5, rf6, rf7, rf8⟩, ⟨⟨x0, x1, x2, x3, x4, x5, x6, x7, x8⟩, -⟩, -⟩ := ALL.out _ (Below.refl _ _)
    by_cases hix : E.index = idx
    · have hixb : (E.index == idx) = true := by simpa using hix
      have HIX := Lib.hid hix
      have hne : (E.index != idx) = false := by simp [hix]
      subst hix
      clear hixb hne
      go_wp2_with fail
      (with_reducible refine (CF.out _ BW.out).mono ?_); rintro _ w3 ⟨rfl, b3⟩
      have y3 := b3.size
      have B3 := Lib.hid b3
      clear i0 v0 v1 v2 s0 r0 r1 r2 r3 r4 r5 r6 r7 r8 rf0 rf1 rf2 rf3 rf4 rf5 rf6 rf7 rf8 x0 x1 x2 x3 x4 x5 x6 x7 x8 b3
      obtain ⟨⟨⟨r0, r1, r2, r3, r4, r5, r6, r7, r8⟩, rf0, rf1, rf2, rf3, rf4, rf5, rf6, rf7, rf8⟩, ⟨⟨x0, x1, x2, x3, x4, x5, x6, x7, x8⟩, -⟩, hb3⟩ := ALL.out _ B3.out
      obtain ⟨i0, v0, v1, v2, s0⟩ := CAP.out _ hb3
      cases ft with
      | false =>
        rw [if_neg (by simp)] at HR
        have HR2 := HR.out
        subst HR2
        clear HR
        go_wp2_with fail
        refine bodyPost_ret (v := .tuple #[.agg #[.int .i64 0, .int .i64 0, .int .i64 0, .int .i64 0, .int .i64 0, .int .i64 0, .int .i64 0, .int .i64 0, .int .i64 0], .bool false]) (by simp [results, Try.results158, go_sem, r0, r1, r2, r3, r4, r5, r6, r7, r8, rf0, rf1, rf2, rf3, rf4, rf5, rf6, rf7, rf8]) rfl ⟨rfl, ?_⟩
        exact hb3.trans (below9 (Nat.le_refl _))
      | true =>
        rw [if_pos (by simp)] at HR
        have HR2 := HR.out
        subst HR2
        clear HR
        go_wp2_with fail
        (with_reducible refine (CM.out _ hb3).mono ?_); rintro _ w4 ⟨Am, cm, rfl, -, b4⟩
        clear i0 v0 v1 v2 s0 r0 r1 r2 r3 r4 r5 r6 r7 r8 rf0 rf1 rf2 rf3 rf4 rf5 rf6 rf7 rf8 x0 x1 x2 x3 x4 x5 x6 x7 x8
        obtain ⟨⟨⟨r0, r1, r2, r3, r4, r5, r6, r7, r8⟩, rf0, rf1, rf2, rf3, rf4, rf5, rf6, rf7, rf8⟩, ⟨⟨x0, x1, x2, x3, x4, x5, x6, x7, x8⟩, -⟩, hb4⟩ := ALL.out _ (B3.out.trans (b4.mono y3))
        clear b4 hb3
        go_wp2_with fail
        refine bodyPost_ret (v := .tuple #[.agg #[.int .i64 E.index, .int .i64 E.time, .int .i64 E.client, .int .i64 E.seq, .int .i64 E.op.kind, .int .i64 E.op.a, .int .i64 E.op.b, .int .i64 E.op.c, .int .i64 E.op.d], .bool mk.2]) (by simp [results, Try.results158, go_sem, r0, r1, r2, r3, r4, r5, r6, r7, r8, rf0, rf1, rf2, rf3, rf4, rf5, rf6, rf7, rf8]) rfl ⟨rfl, ?_⟩
        exact hb4.trans (below9 (Nat.le_refl _))
    · rw [if_neg (fun h => hix h.2.1)] at HR
      have HR2 := HR.out
      subst HR2
      clear HR
      go_wp2_with fail
      refine bodyPost_ret (v := .tuple #[.agg #[.int .i64 0, .int .i64 0, .int .i64 0, .int .i64 0, .int .i64 0, .int .i64 0, .int .i64 0, .int .i64 0, .int .i64 0], .bool false]) (by simp [results, Try.results158, go_sem, r0, r1, r2, r3, r4, r5, r6, r7, r8, rf0, rf1, rf2, rf3, rf4, rf5, rf6, rf7, rf8]) rfl ⟨rfl, ?_⟩
      exact BW.out.trans (below9 (Nat.le_refl _))
end Go.Proofs.Ytgnilmdaegnaaaa
set_option linter.unusedSimpArgs false
set_option linter.unusedVariables false
namespace Go.Proofs.Ytgnilmdaegnaaaa
open Go.RowKit
open Go.ChangeShapes Go.WideShapes Go.ChangeAt
def firstM (R : List Int → EntryD × Bool) : List (List Int) → EntryD × Bool
  | [] => (entryNone, false)
  | r :: l => if (R r).2 then R r else firstM R l
theorem firstM_hit {R : List Int → EntryD × Bool} : ∀ {l : List (List Int)} {j : Nat} {r : List Int}, l[j]? = some r → (R r).2 = true → (∀ (i : Nat) x, i < j → l[i]? = some x → (R x).2 = false) → firstM R l = R r
  | [], _, _, h, _, _ => by simp at h
  | a :: l, 0, r, h, hr, _ => by
    simp only [List.getElem?_cons_zero, Option.some.injEq] at h
    rw [firstM, h, if_pos hr]
  | a :: l, j + 1, r, h, hr, hb => by
    rw [firstM, if_neg (by rw [hb 0 a (by omega) rfl]; simp)]
    exact firstM_hit (j := j) (by simpa using h) hr (fun i x hi hx => hb (i + 1) x (by omega) (by simpa using hx))
theorem firstM_miss {R : List Int → EntryD × Bool} : ∀ {l : List (List Int)}, (∀ (i : Nat) x, l[i]? = some x → (R x).2 = false) → firstM R l = (entryNone, false)
  | [], _ => rfl
  | a :: l, hb => by
    rw [firstM, if_neg (by rw [hb 0 a rfl]; simp)]
    exact firstM_miss (fun i x hx => hb (i + 1) x (by simpa using hx))
theorem Box9.upd {v v' : World} {g lo hi : Nat} {e : EntryD} (h : Box9 v g e) (hu : Upd lo hi v v') (ho : g < lo ∨ hi ≤ g) : Box9 v' g e := by
  have hg : g < v.heap.size := World.block_lt_of_cell? v _ h.1.1
  have hb := hu.block g hg ho
  obtain ⟨⟨h0, h1, h2, h3, h4, h5, h6, h7, h8⟩, k0, k1, k2, k3, k4, k5, k6, k7, k8⟩ := h
  exact ⟨⟨(World.cell?_of_block (w := v) (a := ⟨g, 0, none⟩) hb).trans h0, (World.cell?_of_block (w := v) (a := ⟨g, 1, none⟩) hb).trans h1, (World.cell?_of_block (w := v) (a := ⟨g, 2, none⟩) hb).trans h2, (World.cell?_of_block (w := v) (a := ⟨g, 3, none⟩) hb).trans h3, (World.cell?_of_block (w := v) (a := ⟨g, 4, none⟩) hb).trans h4, (World.cell?_of_block (w := v) (a := ⟨g, 5, none⟩) hb).trans h5, (World.cell?_of_block (w := v) (a := ⟨g, 6, none⟩) hb).trans h6, (World.cell?_of_block (w := v) (a := ⟨g, 7, none⟩) hb).trans h7, (World.cell?_of_block (w := v) (a := ⟨g, 8, none⟩) hb).trans h8⟩, (World.frozen?_of_block (w := v) (a := ⟨g, 0, none⟩) hb).trans k0, (World.frozen?_of_block (w := v) (a := ⟨g, 1, none⟩) hb).trans k1, (World.frozen?_of_block (w := v) (a := ⟨g, 2, none⟩) hb).trans k2, (World.frozen?_of_block (w := v) (a := ⟨g, 3, none⟩) hb).trans k3, (World.frozen?_of_block (w := v) (a := ⟨g, 4, none⟩) hb).trans k4, (World.frozen?_of_block (w := v) (a := ⟨g, 5, none⟩) hb).trans k5, (World.frozen?_of_block (w := v) (a := ⟨g, 6, none⟩) hb).trans k6, (World.frozen?_of_block (w := v) (a := ⟨g, 7, none⟩) hb).trans k7, (World.frozen?_of_block (w := v) (a := ⟨g, 8, none⟩) hb).trans k8⟩
set_option maxRecDepth 100000 in
set_option maxHeartbeats 8000000 in
theorem firstIn_any (A0 : Option Addr) (n0 c0 : Nat) (k0 : List (List Int)) (A1 : Option Addr) (c1 : Nat) (A2 : Option Addr) (n2 c2 : Nat) (k2 : List (List Int)) (A3 : Option Addr) (c3 : Nat) (lo hi : Nat) (w : World) (h0 : SlR w lo hi A0 n0 c0 k0) (h2 : SlR w lo hi A2 n2 c2 k2) (hhi : hi ≤ w.heap.size) (hc1 : c1 ≤ 9223372036854775807) (hc3 : c3 ≤ 9223372036854775807) (hd : twoOk k0 [] k2 [] = true) (q : Nat) (ra rb : List Int) (hra : k0[q]? = some ra) (hrb : k2[q]? = some rb) (R : List Int → EntryD × Bool) (lb : Array Value)
    (HF : Hid (∀ (W : World) (A : Option Addr) (n c lo hi : Nat) (zs : List Int), Below w.heap.size w W → Sl W lo hi 1 A n c zs → hi ≤ W.heap.size → Calls Try.prog 158 (#[.slice A n c] ++ lb) W (EntryBRes W (R zs)))) :
    Calls Try.prog 157 #[.agg #[.slice A0 n0 c0, .slice A1 0 c1, .slice A2 n2 c2, .slice A3 0 c3], .int .i64 (q : Int), .func (.func 158) #[] lb] w (EntryBRes w (firstM R (rightM ra rb))) := by
  have CR : Hid (∀ W, Below w.heap.size w W → Calls Try.prog 118 #[.agg #[.slice A0 n0 c0, .slice A1 0 c1, .slice A2 n2 c2, .slice A3 0 c3], .int .i64 (q : Int)] W (fun e w' => ∃ (A : Option Addr) (c : Nat), e = .returned (.slice A (rightM ra rb).length c) ∧ SlR w' W.heap.size w'.heap.size A (rightM ra rb).length c (rightM ra rb) ∧ Below W.heap.size W w')) := Lib.hid (fun W hW => rightAt_any A0 n0 c0 k0 A1 c1 A2 n2 c2 k2 A3 c3 lo hi W (h0.below hW hhi) (h2.below hW hhi) (Nat.le_trans hhi hW.size) hc1 hc3 hd q ra rb hra hrb)
  have LL := rightM_len ra rb
  generalize rightM ra rb = L at *
  have T1 : Hid (∀ W, Below (w.heap.size + 2) ((w.alloc (.cells #[.slice A0 n0 c0, .slice A1 0 c1, .slice A2 n2 c2, .slice A3 0 c3] 69)).alloc (.cells #[.int .i64 0, .int .i64 0, .int .i64 0, .int .i64 0, .int .i64 0, .int .i64 0, .int .i64 0, .int .i64 0, .int .i64 0] 32)) W → (Box4 W w.heap.size (.slice A0 n0 c0) (.slice A1 0 c1) (.slice A2 n2 c2) (.slice A3 0 c3) ∧ Box9 W (w.heap.size + 1) entryNone)) := Lib.hid (fun W hW => ⟨((Box4.new w (.slice A0 n0 c0) (.slice A1 0 c1) (.slice A2 n2 c2) (.slice A3 0 c3) 69).below (B := w.heap.size + 1) ((Below.refl _ _).alloc (by simp) (.cells #[.int .i64 0, .int .i64 0, .int .i64 0, .int .i64 0, .int .i64 0, .int .i64 0, .int .i64 0, .int .i64 0, .int .i64 0] 32)) (by omega)).below hW (by omega), by
    have h9 : Box9 _ _ entryNone := Box9.new (w.alloc (.cells #[.slice A0 n0 c0, .slice A1 0 c1, .slice A2 n2 c2, .slice A3 0 c3] 69)) entryNone 32
    rw [World.heap_size_alloc] at h9
    exact h9.below hW (by omega)⟩)
  have hs9 : ((w.alloc (.cells #[.slice A0 n0 c0, .slice A1 0 c1, .slice A2 n2 c2, .slice A3 0 c3] 69)).alloc (.cells #[.int .i64 0, .int .i64 0, .int .i64 0, .int .i64 0, .int .i64 0, .int .i64 0, .int .i64 0, .int .i64 0, .int .i64 0] 32)).heap.size = w.heap.size + 2 := by simp only [World.heap_size_alloc]
  have hb9 : Below w.heap.size w ((w.alloc (.cells #[.slice A0 n0 c0, .slice A1 0 c1, .slice A2 n2 c2, .slice A3 0 c3] 69)).alloc (.cells #[.int .i64 0, .int .i64 0, .int .i64 0, .int .i64 0, .int .i64 0, .int .i64 0, .int .i64 0, .int .i64 0, .int .i64 0] 32)) := by (repeat' (first | with_reducible exact Below.refl _ _ | with_reducible assumption | with_reducible refine Below.drew ?_ | with_reducible refine Below.alloc ?_ ?_ _ | with_reducible refine Below.setCell ?_ ?_ _ | with_reducible refine Below.trans ?_ (Below.mono (by assumption) ?_) | ((try simp only [World.heap_size_alloc, World.heap_size_drew, World.heap_size_setCell]); omega)))
  clear h0 h2 hd hra hrb
  obtain ⟨nl, hnl⟩ : ∃ x, x = L.length := ⟨_, rfl⟩
  have HNL := Lib.hid hnl
  rw [← hnl] at CR LL
  clear hnl
  go_enter Try.func157, Try.ntmps157
  go_wp2_with fail
  generalize hW0 : ((w.alloc (.cells #[.slice A0 n0 c0, .slice A1 0 c1, .slice A2 n2 c2, .slice A3 0 c3] 69)).alloc (.cells #[.int .i64 0, .int .i64 0, .int .i64 0, .int .i64 0, .int .i64 0, .int .i64 0, .int .i64 0, .int .i64 0, .int .i64 0] 32)) = W0 at *
  have hs9a := Nat.le_of_eq hs9
  have hs9b := Nat.le_of_eq hs9.symm
  clear hW0 hs9
  have HB9 := Lib.hid hb9
  obtain ⟨⟨t0, t1, t2, t3, -, -, -, -⟩, -⟩ := T1.out _ (Below.refl _ _)
  (with_reducible refine (CR.out _ hb9).mono ?_); rintro _ w1 ⟨Ar, cr, rfl, sr, b1⟩
  have y1 := b1.size
  have P1 := Lib.hid (b1.mono (by omega) : Below (w.heap.size + 2) W0 w1)
  have SR := Lib.hid sr
  have hyw : w.heap.size + 2 ≤ w1.heap.size := by omega
  clear t0 t1 t2 t3 sr b1 hb9
  go_wp2_with fail
  go_loopw [9, 10, 11, 17] (fun _ _ _ i wr => ∃ j : Nat, j ≤ nl ∧ i = .int .i64 j ∧ Hid (Below w1.heap.size w1 wr) ∧ w1.heap.size ≤ wr.heap.size ∧ Hid (∀ (i : Nat) x, i < j → L[i]? = some x → (R x).2 = false)) (fun _ _ _ i _ => nl - (intOf i).toNat)
  case atStart => exact ⟨0, Nat.zero_le _, rfl, Lib.hid (Below.refl _ _), Nat.le_refl _, Lib.hid (fun i x hi => absurd hi (by omega))⟩
  case round =>
    obtain ⟨j, hj, rfl, HB, hyr, HP⟩ := hrel
    by_cases hlt : j < nl
    · obtain ⟨r, hr⟩ : ∃ r, L[j]? = some r := ⟨L[j]'(by rw [← HNL.out]; exact hlt), List.getElem?_eq_getElem _⟩
      obtain ⟨gr, og, Aj, nj, cj, rfl, -, hgr, pr, srj⟩ := (SR.out.below HB.out (Nat.le_refl _)).lie j r hr
      have hcall := Lib.hid (HF.out wr Aj nj cj _ _ r (HB9.out.trans ((P1.out.trans (HB.out.mono (by omega))).mono (by omega))) srj hyr)
      have HX := Lib.hid hr
      have HRR : Hid (∀ E, R r = (E, true) → firstM R L = (E, true)) := Lib.hid (fun E hE => (firstM_hit HX.out (by rw [hE]) HP.out).trans hE)
      have HRF : Hid ((R r).2 = false → ∀ (i : Nat) x, i < j + 1 → L[i]? = some x → (R x).2 = false) := Lib.hid (fun hF i x hi hx => by
        rcases Nat.lt_succ_iff_lt_or_eq.1 hi with h5 | rfl
        · exact HP.out i x h5 hx
        · rw [HX.out] at hx; injection hx with hx; subst hx; exact hF)
      generalize R r = rr at *
      obtain ⟨E, ok⟩ := rr
      clear hr srj
      go_wp2_with fail
      (with_reducible refine (hcall.out).mono ?_); rintro _ w3 ⟨rfl, b3⟩
      have y3 := b3.size
      have hal : Below w3.heap.size w3 (w3.alloc (.cells #[.int .i64 E.index, .int .i64 E.time, .int .i64 E.client, .int .i64 E.seq, .int .i64 E.op.kind, .int .i64 E.op.a, .int .i64 E.op.b, .int .i64 E.op.c, .int .i64 E.op.d] 32)) := (Below.refl _ _).alloc (Nat.le_refl _) _
      have hsz : (w3.alloc (.cells #[.int .i64 E.index, .int .i64 E.time, .int .i64 E.client, .int .i64 E.seq, .int .i64 E.op.kind, .int .i64 E.op.a, .int .i64 E.op.b, .int .i64 E.op.c, .int .i64 E.op.d] 32)).heap.size = w3.heap.size + 1 := World.heap_size_alloc _ _
      have K10 := Lib.hid (Box9.new w3 E 32)
      have P4 := Lib.hid ((HB.out.trans (b3.mono hyr)).trans (hal.mono (by omega)))
      clear b3 hal pr hcall
      go_upto_region 5 with fail
      generalize hW4 : w3.alloc (.cells #[.int .i64 E.index, .int .i64 E.time, .int .i64 E.client, .int .i64 E.seq, .int .i64 E.op.kind, .int .i64 E.op.a, .int .i64 E.op.b, .int .i64 E.op.c, .int .i64 E.op.d] 32) = W4 at *
      have hsza := Nat.le_of_eq hsz
      have hszb := Nat.le_of_eq hsz.symm
      clear hW4 hsz
      cases ok with
      | true =>
        have PB := Lib.hid (P1.out.trans (P4.out.mono (by omega)))
        obtain ⟨⟨x0, x1, x2, x3, x4, x5, x6, x7, x8⟩, -⟩ := K10.out
        obtain ⟨-, ⟨r0, r1, r2, r3, r4, r5, r6, r7, r8⟩, rf0, rf1, rf2, rf3, rf4, rf5, rf6, rf7, rf8⟩ := T1.out _ PB.out
        have HQ := HRR.out E rfl
        have HQH := Lib.hid HQ
        clear HQ HRR HRF
        go_wp2_with fail
        refine bodyPost_ret (v := .tuple #[.agg #[.int .i64 E.index, .int .i64 E.time, .int .i64 E.client, .int .i64 E.seq, .int .i64 E.op.kind, .int .i64 E.op.a, .int .i64 E.op.b, .int .i64 E.op.c, .int .i64 E.op.d], .bool true]) (by simp [results, Try.results157, go_sem, r0, r1, r2, r3, r4, r5, r6, r7, r8, rf0, rf1, rf2, rf3, rf4, rf5, rf6, rf7, rf8]) rfl ?_
        rw [HQH.out]
        refine ⟨rfl, ?_⟩
        exact (HB9.out.trans (PB.out.mono (by omega))).trans (below9 (by omega))
      | false =>
        have HP2 := Lib.hid (HRF.out rfl)
        clear HRR HRF K10
        go_wp2_with fail
        go_roundw
        case rel => exact ⟨j + 1, hlt, by go_num, P4, by omega, HP2⟩
        case measure => simp [intOf]; omega
    · have hjn : j = nl := by omega
      have HM : Hid (firstM R L = (entryNone, false)) := Lib.hid (firstM_miss (fun i x hx => HP.out i x (by rw [hjn, HNL.out]; exact (List.getElem?_eq_some_iff.1 hx).1) hx))
      have hjI : ¬ (j : Int) < (nl : Int) := by omega
      have PB := Lib.hid (P1.out.trans (HB.out.mono (by omega)))
      have hal : Below wr.heap.size wr (wr.alloc (.cells #[.int .i64 0, .int .i64 0, .int .i64 0, .int .i64 0, .int .i64 0, .int .i64 0, .int .i64 0, .int .i64 0, .int .i64 0] 32)) := (Below.refl _ _).alloc (Nat.le_refl _) _
      obtain ⟨-, ⟨r0, r1, r2, r3, r4, r5, r6, r7, r8⟩, rf0, rf1, rf2, rf3, rf4, rf5, rf6, rf7, rf8⟩ := T1.out _ (PB.out.trans (hal.mono (by omega)))
      have HBA := Lib.hid ((HB9.out.trans (PB.out.mono (by omega))).trans (hal.mono (by omega)))
      have hbw := HB9.out.trans (PB.out.mono (by omega))
      clear hal hjn
      go_wp2_with fail
      refine bodyPost_ret (v := .tuple #[.agg #[.int .i64 0, .int .i64 0, .int .i64 0, .int .i64 0, .int .i64 0, .int .i64 0, .int .i64 0, .int .i64 0, .int .i64 0], .bool false]) (by simp [results, Try.results157, go_sem, r0, r1, r2, r3, r4, r5, r6, r7, r8, rf0, rf1, rf2, rf3, rf4, rf5, rf6, rf7, rf8]) rfl ?_
      rw [HM.out]
      refine ⟨rfl, ?_⟩
      (repeat' (first | with_reducible exact Below.refl _ _ | with_reducible assumption | with_reducible refine Below.drew ?_ | with_reducible refine Below.alloc ?_ ?_ _ | with_reducible refine Below.setCell ?_ ?_ _ | with_reducible refine Below.trans ?_ (Below.mono (by assumption) ?_) | ((try simp only [World.heap_size_alloc, World.heap_size_drew, World.heap_size_setCell]); omega)))
end Go.Proofs.Ytgnilmdaegnaaaa
