/- Timers: the place of an id by way of slices.IndexFunc. No conditions. -/
import Derived.Test.YtkianeknbfahgaaTim1
set_option linter.unusedSimpArgs false
set_option linter.unusedVariables false
namespace Go.Proofs.Ytkianeknbfahgaa
open Go.RowKit

set_option maxHeartbeats 1000000 in
theorem placeFn_any (a b q : Int) (g1 g2 : Nat) (w : World) (h1 : w.cell? ⟨g1, 0, none⟩ = some (.func (.func 63) #[] #[])) (h2 : w.cell? ⟨g2, 0, none⟩ = some (.int .i64 q)) :
    Calls Try.prog 70 #[.agg #[.int .i64 a, .int .i64 b], .pointer (some ⟨g1, 0, none⟩), .pointer (some ⟨g2, 0, none⟩)] w fun e w' => e = .returned (.bool (a == q)) ∧ Below w.heap.size w w' := by
  have l1 := World.block_lt_of_cell? w _ h1
  have l2 := World.block_lt_of_cell? w _ h2
  have v1 : (w.alloc (.cells #[.int .i64 a, .int .i64 b] 60)).cell? ⟨g1, 0, none⟩ = some (.func (.func 63) #[] #[]) := (World.cell?_alloc_lt _ _ _ l1).trans h1
  have v2 : (w.alloc (.cells #[.int .i64 a, .int .i64 b] 60)).cell? ⟨g2, 0, none⟩ = some (.int .i64 q) := (World.cell?_alloc_lt _ _ _ l2).trans h2
  have v3 : (w.alloc (.cells #[.int .i64 a, .int .i64 b] 60)).cell? ⟨w.heap.size, 0, none⟩ = some (.int .i64 a) := by simp
  have v4 : (w.alloc (.cells #[.int .i64 a, .int .i64 b] 60)).cell? ⟨w.heap.size, 1, none⟩ = some (.int .i64 b) := by simp
  have f1 := fun d os => cell_regrown v1 d os
  have f2 := fun d os => cell_regrown v2 d os
  have f3 := fun d os => cell_regrown v3 d os
  have f4 := fun d os => cell_regrown v4 d os
  go_enter Try.func70, Try.ntmps70
  go_wp2
  refine wp_region_quiet_below (by kernel_rfl) (by kernel_rfl) ?_; (repeat (first | go_big_quiet_step ((go_at_call 63; exact Calls.regrown_of (timerId_any _ _ _))) | quiet_step ((go_at_call 63; exact Calls.regrown_of (timerId_any _ _ _))))); refine wpQuiet_nil ?_; intro _ hw'; obtain ⟨⟨nq, osq⟩, hw''⟩ := hw'; subst hw''; have hq := below_regrown (w.alloc (.cells #[.int .i64 a, .int .i64 b] 60)) nq osq; generalize Sort.grow (redrawn (w.alloc (.cells #[.int .i64 a, .int .i64 b] 60)) nq) osq = w1 at *
  go_wp2
  go_ret
  exact ⟨rfl, by (repeat' (first | with_reducible exact Below.refl _ _ | with_reducible assumption | with_reducible refine Below.drew ?_ | with_reducible refine Below.alloc ?_ ?_ _ | with_reducible refine Below.setCell ?_ ?_ _ | with_reducible refine Below.trans ?_ (Below.mono (by assumption) ?_) | ((try simp only [World.heap_size_alloc, World.heap_size_drew, World.heap_size_setCell]); omega)))⟩
set_option maxHeartbeats 1000000 in
theorem timerIndex_any (A : Option Addr) (n c lo hi : Nat) (l : List TimerD) (q : Int) (lb : Array Value) (w : World) (h : Sl w lo hi 2 A n c (l.flatMap TimerD.ints))
    (HF : Hid (∀ (W : World) (x : TimerD), Below w.heap.size w W → Calls Try.prog 70 (#[.agg #[.int .i64 x.id, .int .i64 x.due]] ++ lb) W fun e w' => e = .returned (.bool (x.id == q)) ∧ Below W.heap.size W w')) :
    Calls Try.prog 69 #[.slice A n c, .func (.func 70) #[] lb] w fun e w' => e = .returned (.int .i64 (idxD (fun t => t.id == q) l)) ∧ Below w.heap.size w w' := by
  have hn : n ≤ 9223372036854775807 := Nat.le_trans h.cap h.big
  have HL := Lib.hid (h.count TimerD.ints_len (by omega) : l.length = n)
  have H := Lib.hid (h.fit (by omega))
  clear h
  go_enter Try.func69, Try.ntmps69
  go_wp2
  go_loopw [8] (fun i wr => ∃ m : Nat, m ≤ n ∧ i = .int .i64 m ∧ Below w.heap.size w wr ∧ Hid (∀ j y, j < m → l[j]? = some y → (y.id == q) = false)) (fun i _ => n - (intOf i).toNat)
  case atStart => exact ⟨0, Nat.zero_le _, rfl, Below.refl _ _, fun j y hj => absurd hj (by omega)⟩
  case round =>
    obtain ⟨m, hm, rfl, hb, hp⟩ := hrel
    by_cases hlt : m < n
    · obtain ⟨g, off, e, rfl, _, hg, he, p0, p1⟩ := H.out.timer hlt
      have hg1 := Nat.lt_of_lt_of_le hg (Nat.min_le_right _ _)
      have r0 := (hb.cell (p := ⟨g, off + m * 2, none⟩) hg1).trans p0
      have r1 := (hb.cell (p := ⟨g, off + m * 2 + 1, none⟩) hg1).trans p1
      have HE := Lib.hid he
      have hcall := HF.out wr e hb
      clear he p0 p1
      cases hq : (e.id == q) with
      | true =>
        rw [hq] at hcall
        go_wp2_with fail
        refine hcall.mono ?_; rintro _ w1 ⟨rfl, b1⟩
        go_wp2
        go_ret
        exact ⟨by rw [idxD_hit HE.out hq hp.out]; rfl, hb.trans (b1.mono hb.size)⟩
      | false =>
        rw [hq] at hcall
        go_wp2_with fail
        refine hcall.mono ?_; rintro _ w1 ⟨rfl, b1⟩
        go_wp2
        go_roundw
        case rel => exact ⟨m + 1, hlt, by go_num, hb.trans (b1.mono hb.size), fun j y hj hy => by
          rcases Nat.lt_succ_iff_lt_or_eq.1 hj with h5 | rfl
          · exact hp.out j y h5 hy
          · rw [HE.out] at hy; injection hy with hy; subst hy; exact hq⟩
        case measure => simp [intOf]; omega
    · go_wp2
      go_ret
      have hmn : m = n := by omega
      exact ⟨by rw [idxD_miss (fun j y hj hy => hp.out j y (by rw [HL.out] at hj; omega) hy)]; rfl, hb⟩
set_option maxHeartbeats 1000000 in
theorem placeBy_any (A : Option Addr) (n c lo hi : Nat) (l : List TimerD) (q : Int) (w : World) (h : Sl w lo hi 2 A n c (l.flatMap TimerD.ints)) :
    Calls Try.prog 62 #[.slice A n c, .int .i64 q, .func (.func 63) #[] #[]] w fun e w' => e = .returned (.int .i64 (idxD (fun t => t.id == q) l)) ∧ Below w.heap.size w w' := by
  have hmf : ∀ (fn : Fn) (first cap : Array Value) (w : World), (Instr.makeFunc fn first cap).run Try.prog w = .ok (.func fn first cap) w := fun _ _ _ _ => rfl
  replace h := h.fit (by omega)
  have hhi : min hi w.heap.size ≤ w.heap.size := Nat.min_le_right _ _
  generalize min hi w.heap.size = hi at h hhi
  go_enter Try.func62, Try.ntmps62
  have c1 : ((w.alloc (.cells #[.int .i64 q] 2)).alloc (.cells #[.func (.func 63) #[] #[]] 66)).cell? ⟨w.heap.size + 1, 0, none⟩ = some (.func (.func 63) #[] #[]) := by
    have h5 := World.cell?_alloc_new (w.alloc (.cells #[.int .i64 q] 2)) #[.func (.func 63) #[] #[]] 66 0
    rw [World.heap_size_alloc] at h5
    exact h5
  have c2 : ((w.alloc (.cells #[.int .i64 q] 2)).alloc (.cells #[.func (.func 63) #[] #[]] 66)).cell? ⟨w.heap.size, 0, none⟩ = some (.int .i64 q) := (World.cell?_alloc_lt _ _ _ (by (try simp only [World.heap_size_alloc, World.heap_size_drew, World.heap_size_setCell]); omega)).trans (by simp)
  have HF : Hid (∀ (W : World) (x : TimerD), Below ((w.alloc (.cells #[.int .i64 q] 2)).alloc (.cells #[.func (.func 63) #[] #[]] 66)).heap.size ((w.alloc (.cells #[.int .i64 q] 2)).alloc (.cells #[.func (.func 63) #[] #[]] 66)) W →
      Calls Try.prog 70 (#[.agg #[.int .i64 x.id, .int .i64 x.due]] ++ #[.pointer (some ⟨w.heap.size + 1, 0, none⟩), .pointer (some ⟨w.heap.size, 0, none⟩)]) W fun e w' => e = .returned (.bool (x.id == q)) ∧ Below W.heap.size W w') := fun W x hb =>
    placeFn_any x.id x.due q _ _ W ((hb.cell (p := ⟨w.heap.size + 1, 0, none⟩) (show w.heap.size + 1 < _ by (try simp only [World.heap_size_alloc, World.heap_size_drew, World.heap_size_setCell]); omega)).trans c1) ((hb.cell (p := ⟨w.heap.size, 0, none⟩) (show w.heap.size < _ by (try simp only [World.heap_size_alloc, World.heap_size_drew, World.heap_size_setCell]); omega)).trans c2)
  clear c1 c2
  go_wp2_with fail
  refine (timerIndex_any A n c lo hi l q _ _ (h.below (B := w.heap.size) (by (repeat' (first | with_reducible exact Below.refl _ _ | with_reducible assumption | with_reducible refine Below.drew ?_ | with_reducible refine Below.alloc ?_ ?_ _ | with_reducible refine Below.setCell ?_ ?_ _ | with_reducible refine Below.trans ?_ (Below.mono (by assumption) ?_) | ((try simp only [World.heap_size_alloc, World.heap_size_drew, World.heap_size_setCell]); omega)))) hhi) HF).mono ?_; rintro _ w1 ⟨rfl, b1⟩
  have y1 := b1.size
  (try simp only [World.heap_size_alloc, World.heap_size_drew] at y1)
  go_wp2
  go_ret
  exact ⟨rfl, by (repeat' (first | with_reducible exact Below.refl _ _ | with_reducible assumption | with_reducible refine Below.drew ?_ | with_reducible refine Below.alloc ?_ ?_ _ | with_reducible refine Below.setCell ?_ ?_ _ | with_reducible refine Below.trans ?_ (Below.mono (by assumption) ?_) | ((try simp only [World.heap_size_alloc, World.heap_size_drew, World.heap_size_setCell]); omega)))⟩

end Go.Proofs.Ytkianeknbfahgaa
