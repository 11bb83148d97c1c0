/- The rows of operations and entries, and back: what the program's and the reference's functions return. No conditions. -/
import Derived.Test.YtgnilmdaegnaaaaZHelp1
import Derived.Test.YtgnilmdaegnaaaaZScal
import Derived.StillTailTactics
import Derived.Deep.RegionHeld3
set_option linter.unusedSimpArgs false
set_option linter.unusedVariables false
namespace Go.Proofs.Ytgnilmdaegnaaaa
open Go.RowKit
set_option maxRecDepth 100000 in
set_option maxHeartbeats 1000000 in
theorem numbers_any (k a b c d : Int) (w : World) :
    Calls Try.prog 130 #[.agg #[.int .i64 k, .int .i64 a, .int .i64 b, .int .i64 c, .int .i64 d]] w (SlRes w 1 5 [k, a, b, c, d]) := by
  go_enter Try.func130, Try.ntmps130
  go_wp2
  go_ret
  exact SlRes.new (w0 := w.alloc (.cells #[.int .i64 k, .int .i64 a, .int .i64 b, .int .i64 c, .int .i64 d] 30)) (by (repeat' (first | with_reducible exact Below.refl _ _ | with_reducible assumption | with_reducible refine Below.drew ?_ | with_reducible refine Below.alloc ?_ ?_ _ | with_reducible refine Below.setCell ?_ ?_ _ | with_reducible refine Below.trans ?_ (Below.mono (by assumption) ?_) | ((try simp only [World.heap_size_alloc, World.heap_size_drew, World.heap_size_setCell]); omega)))) (by simp) [k, a, b, c, d] 2 rfl (by omega)
def opNone : OpD := ⟨0, 0, 0, 0, 0⟩
set_option maxRecDepth 100000 in
set_option maxHeartbeats 1000000 in
theorem opOf_any (g off n c : Nat) (x0 x1 x2 x3 x4 : Int) (rest : List Int) (w : World) (hn : 5 ≤ n) (hn1 : n ≤ 9223372036854775807) (hI : Ints w g off (x0 :: x1 :: x2 :: x3 :: x4 :: rest)) :
    Calls Try.prog 132 #[.slice (some ⟨g, off, none⟩) n c] w fun e w' => e = .returned (.agg #[.int .i64 x0, .int .i64 x1, .int .i64 x2, .int .i64 x3, .int .i64 x4]) ∧ Below w.heap.size w w' := by
  have hg : g < w.heap.size := hI.lt (by simp)
  have c0 := (hI 0 _ rfl).1
  have c1 := (hI 1 _ rfl).1
  have c2 := (hI 2 _ rfl).1
  have c3 := (hI 3 _ rfl).1
  have c4 := (hI 4 _ rfl).1
  rw [Nat.add_zero] at c0
  clear hI
  have n0 : (0 : Int) < (n : Int) := by omega
  have m0 : 0 < n := by omega
  have m1 : 1 < n := by omega
  have m2 : 2 < n := by omega
  have m3 : 3 < n := by omega
  have m4 : 4 < n := by omega
  have n1 : (1 : Int) < (n : Int) := by omega
  have n2 : (2 : Int) < (n : Int) := by omega
  have n3 : (3 : Int) < (n : Int) := by omega
  have n4 : (4 : Int) < (n : Int) := by omega
  go_enter Try.func132, Try.ntmps132
  go_wp2
  refine wp_region_still_tail 16 (by kernel_rfl) (by kernel_rfl) ?_; simp only [List.take_succ_cons, List.take_zero, List.drop_succ_cons, List.drop_zero]; change wpStill _ _ (World.drew (w.alloc _)) _ _ _; (repeat still_step); refine wpStill_nil ?_; change wpList _ _ _ _ _ (World.drew (w.alloc _))
  go_wp2
  refine bodyPost_ret (v := .agg #[.int .i64 x0, .int .i64 x1, .int .i64 x2, .int .i64 x3, .int .i64 x4]) (by simp [results, Try.results132, go_sem]) rfl ⟨rfl, ?_⟩
  (repeat' (first | with_reducible exact Below.refl _ _ | with_reducible assumption | with_reducible refine Below.drew ?_ | with_reducible refine Below.alloc ?_ ?_ _ | with_reducible refine Below.setCell ?_ ?_ _ | with_reducible refine Below.trans ?_ (Below.mono (by assumption) ?_) | ((try simp only [World.heap_size_alloc, World.heap_size_drew, World.heap_size_setCell]); omega)))
theorem ints_cells {w : World} {lo hi n c : Nat} {A : Option Addr} {zs : List Int} (h : Sl w lo hi 1 A n c zs) (hn : 0 < n) : ∃ g off, A = some ⟨g, off, none⟩ ∧ lo ≤ g ∧ g < hi ∧ g < w.heap.size ∧ Ints w g off zs := by
  obtain ⟨g, off, e, h1, h2, h3⟩ := h.lie hn
  have hne : zs ≠ [] := by intro e'; have := h.len; rw [e'] at this; simp at this; omega
  exact ⟨g, off, e, h1, h2, h3.lt hne, h3⟩
end Go.Proofs.Ytgnilmdaegnaaaa
