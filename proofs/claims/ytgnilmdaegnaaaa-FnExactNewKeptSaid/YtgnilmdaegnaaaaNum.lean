/- The rows of operations and entries, and back: what the program's and the reference's functions return. No conditions. -/
import Derived.Test.YtgnilmdaegnaaaaHelp1
import Derived.Test.YtgnilmdaegnaaaaConv
import Derived.StillTailTactics
import Derived.Deep.RegionHeld3
set_option linter.unusedSimpArgs false
set_option linter.unusedVariables false
namespace Go.Proofs.Ytgnilmdaegnaaaa
open Go.RowKit

def opRow (o : OpD) : List Int := if opOk o then o.ints else []

set_option maxRecDepth 100000 in
set_option maxHeartbeats 1000000 in
theorem numbers_any (k a b c d : Int) (w : World) :
    Calls Try.prog 130 #[.agg #[.int .i64 k, .int .i64 a, .int .i64 b, .int .i64 c, .int .i64 d]] w (SlRes w 1 5 [k, a, b, c, d]) := by
  go_enter Try.func130, Try.ntmps130
  go_wp2
  go_ret
  exact SlRes.new (w0 := w.alloc (.cells #[.int .i64 k, .int .i64 a, .int .i64 b, .int .i64 c, .int .i64 d] 30)) (by (repeat' (first | with_reducible exact Below.refl _ _ | with_reducible assumption | with_reducible refine Below.drew ?_ | with_reducible refine Below.alloc ?_ ?_ _ | with_reducible refine Below.setCell ?_ ?_ _ | with_reducible refine Below.trans ?_ (Below.mono (by assumption) ?_) | ((try simp only [World.heap_size_alloc, World.heap_size_drew, World.heap_size_setCell]); omega)))) (by simp) [k, a, b, c, d] 2 rfl (by omega)
set_option maxRecDepth 100000 in
set_option maxHeartbeats 1000000 in
theorem sOpRow_any (k a b c d : Int) (w : World) :
    Calls Try.prog 126 #[.agg #[.int .i64 k, .int .i64 a, .int .i64 b, .int .i64 c, .int .i64 d]] w (SlRes w 1 (opRow ⟨k, a, b, c, d⟩).length (opRow ⟨k, a, b, c, d⟩)) := by
  by_cases h : opOk ⟨k, a, b, c, d⟩ = true
  · have e : opRow ⟨k, a, b, c, d⟩ = [k, a, b, c, d] := if_pos h
    rw [e]
    clear e
    go_enter Try.func126, Try.ntmps126
    go_wp2_with fail
    (with_reducible refine (sOpOk_any _ _ _ _ _ _).mono ?_); rintro e w1 ⟨rfl, b1⟩; obtain ⟨b1_c, b1_f⟩ := bcell b1; have b1_z := b1.size; (try simp only [World.heap_size_alloc, World.heap_size_drew, World.heap_size_setCell] at b1_z); (first | (have b1_z0 : w.heap.size < w1.heap.size := by omega) | skip); (first | (have b1_z1 : w.heap.size + 1 < w1.heap.size := by omega) | skip); (first | (have b1_z2 : w.heap.size + 1 + 1 < w1.heap.size := by omega) | skip)
    go_wp2_with fail
    go_ret
    exact SlRes.new (w0 := w1) (by (repeat' (first | with_reducible exact Below.refl _ _ | with_reducible assumption | with_reducible refine Below.drew ?_ | with_reducible refine Below.alloc ?_ ?_ _ | with_reducible refine Below.setCell ?_ ?_ _ | with_reducible refine Below.trans ?_ (Below.mono (by assumption) ?_) | ((try simp only [World.heap_size_alloc, World.heap_size_drew, World.heap_size_setCell]); omega)))) rfl [k, a, b, c, d] 2 rfl (by omega)
  · have e : opRow ⟨k, a, b, c, d⟩ = [] := if_neg h
    rw [e]
    have hb : opOk ⟨k, a, b, c, d⟩ = false := by simpa using h
    clear e h
    go_enter Try.func126, Try.ntmps126
    go_wp2_with fail
    (with_reducible refine (sOpOk_any _ _ _ _ _ _).mono ?_); rintro e w1 ⟨rfl, b1⟩; obtain ⟨b1_c, b1_f⟩ := bcell b1; have b1_z := b1.size; (try simp only [World.heap_size_alloc, World.heap_size_drew, World.heap_size_setCell] at b1_z); (first | (have b1_z0 : w.heap.size < w1.heap.size := by omega) | skip); (first | (have b1_z1 : w.heap.size + 1 < w1.heap.size := by omega) | skip); (first | (have b1_z2 : w.heap.size + 1 + 1 < w1.heap.size := by omega) | skip)
    go_wp2_with fail
    go_ret
    exact SlRes.none (by (repeat' (first | with_reducible exact Below.refl _ _ | with_reducible assumption | with_reducible refine Below.drew ?_ | with_reducible refine Below.alloc ?_ ?_ _ | with_reducible refine Below.setCell ?_ ?_ _ | with_reducible refine Below.trans ?_ (Below.mono (by assumption) ?_) | ((try simp only [World.heap_size_alloc, World.heap_size_drew, World.heap_size_setCell]); omega)))) _ _ _ (by omega)

def opNone : OpD := ⟨0, 0, 0, 0, 0⟩
def rowOp : List Int → OpD × Bool
  | [k, a, b, c, d] => if opOk ⟨k, a, b, c, d⟩ then (⟨k, a, b, c, d⟩, true) else (opNone, false)
  | _ => (opNone, false)
def OpBRes (w : World) (r : OpD × Bool) (e : Ending) (w' : World) : Prop :=
  e = .returned (.tuple #[.agg #[.int .i64 r.1.kind, .int .i64 r.1.a, .int .i64 r.1.b, .int .i64 r.1.c, .int .i64 r.1.d], .bool r.2]) ∧ Below w.heap.size w w'

set_option maxRecDepth 100000 in
set_option maxHeartbeats 1000000 in
theorem opOf_any (g off n c : Nat) (x0 x1 x2 x3 x4 : Int) (rest : List Int) (w : World) (hn : 5 ≤ n) (hn1 : n ≤ 9223372036854775807) (hI : Ints w g off (x0 :: x1 :: x2 :: x3 :: x4 :: rest)) :
    Calls Try.prog 132 #[.slice (some ⟨g, off, none⟩) n c] w fun e w' => e = .returned (.agg #[.int .i64 x0, .int .i64 x1, .int .i64 x2, .int .i64 x3, .int .i64 x4]) ∧ Below w.heap.size w w' := by
  have hg : g < w.heap.size := hI.lt (by simp)
  have c0 := (hI 0 _ rfl).1
  have c1 := (hI 1 _ rfl).1
  have c2 := (hI 2 _ rfl).1
  have c3 := (hI 3 _ rfl).1
  have c4 := (hI 4 _ rfl).1
  rw [Nat.add_zero] at c0
  clear hI
  have n0 : (0 : Int) < (n : Int) := by omega
  have m0 : 0 < n := by omega
  have m1 : 1 < n := by omega
  have m2 : 2 < n := by omega
  have m3 : 3 < n := by omega
  have m4 : 4 < n := by omega
  have n1 : (1 : Int) < (n : Int) := by omega
  have n2 : (2 : Int) < (n : Int) := by omega
  have n3 : (3 : Int) < (n : Int) := by omega
  have n4 : (4 : Int) < (n : Int) := by omega
  go_enter Try.func132, Try.ntmps132
  go_wp2
  refine wp_region_still_tail 16 (by kernel_rfl) (by kernel_rfl) ?_; simp only [List.take_succ_cons, List.take_zero, List.drop_succ_cons, List.drop_zero]; change wpStill _ _ (World.drew (w.alloc _)) _ _ _; (repeat still_step); refine wpStill_nil ?_; change wpList _ _ _ _ _ (World.drew (w.alloc _))
  go_wp2
  refine bodyPost_ret (v := .agg #[.int .i64 x0, .int .i64 x1, .int .i64 x2, .int .i64 x3, .int .i64 x4]) (by simp [results, Try.results132, go_sem]) rfl ⟨rfl, ?_⟩
  (repeat' (first | with_reducible exact Below.refl _ _ | with_reducible assumption | with_reducible refine Below.drew ?_ | with_reducible refine Below.alloc ?_ ?_ _ | with_reducible refine Below.setCell ?_ ?_ _ | with_reducible refine Below.trans ?_ (Below.mono (by assumption) ?_) | ((try simp only [World.heap_size_alloc, World.heap_size_drew, World.heap_size_setCell]); omega)))

theorem list5_of {zs : List Int} {n : Nat} (h : zs.length = n * 1) (hn : n = 5) : ∃ a b c d e, zs = [a, b, c, d, e] := by
  match zs, h with
  | [a, b, c, d, e], _ => exact ⟨a, b, c, d, e, rfl⟩
  | [], h | [_], h | [_, _], h | [_, _, _], h | [_, _, _, _], h => simp at h; omega
  | _ :: _ :: _ :: _ :: _ :: _ :: _, h => simp at h; omega
theorem rowOp_none {zs : List Int} (h : zs.length ≠ 5) : rowOp zs = (opNone, false) := by
  unfold rowOp
  split
  · exact absurd rfl h
  · rfl
theorem ints_cells {w : World} {lo hi n c : Nat} {A : Option Addr} {zs : List Int} (h : Sl w lo hi 1 A n c zs) (hn : 0 < n) : ∃ g off, A = some ⟨g, off, none⟩ ∧ lo ≤ g ∧ g < hi ∧ g < w.heap.size ∧ Ints w g off zs := by
  obtain ⟨g, off, e, h1, h2, h3⟩ := h.lie hn
  have hne : zs ≠ [] := by intro e'; have := h.len; rw [e'] at this; simp at this; omega
  exact ⟨g, off, e, h1, h2, h3.lt hne, h3⟩
set_option maxRecDepth 100000 in
set_option maxHeartbeats 2000000 in
theorem sRowOp_any (A : Option Addr) (n c lo hi : Nat) (zs : List Int) (w : World) (h : Sl w lo hi 1 A n c zs) :
    Calls Try.prog 131 #[.slice A n c] w (OpBRes w (rowOp zs)) := by
  by_cases h5 : n = 5
  · obtain ⟨x0, x1, x2, x3, x4, rfl⟩ := list5_of h.len h5
    obtain ⟨g, off, rfl, _, _, hg, hI⟩ := ints_cells h (by omega)
    subst h5
    clear h
    have c0 := (hI 0 _ rfl).1
    have c1 := (hI 1 _ rfl).1
    have c2 := (hI 2 _ rfl).1
    have c3 := (hI 3 _ rfl).1
    have c4 := (hI 4 _ rfl).1
    rw [Nat.add_zero] at c0
    clear hI
    by_cases hok : opOk ⟨x0, x1, x2, x3, x4⟩ = true
    · have e : rowOp [x0, x1, x2, x3, x4] = (⟨x0, x1, x2, x3, x4⟩, true) := if_pos hok
      rw [e]
      clear e
      go_enter Try.func131, Try.ntmps131
      go_wp2_with fail
      go_region_held3 (fun w' => w'.cell? ⟨g, off, none⟩ = some (.int .i64 x0) ∧ w'.cell? ⟨g, off + 1, none⟩ = some (.int .i64 x1) ∧ w'.cell? ⟨g, off + 2, none⟩ = some (.int .i64 x2) ∧ w'.cell? ⟨g, off + 3, none⟩ = some (.int .i64 x3) ∧ w'.cell? ⟨g, off + 4, none⟩ = some (.int .i64 x4)) (go_keep) (first | fail)
      go_wp2_with fail
      (with_reducible refine (sOpOk_any _ _ _ _ _ _).mono ?_); rintro e w2 ⟨rfl, b2⟩; obtain ⟨b2_c, b2_f⟩ := bcell b2; have b2_z := b2.size; (try simp only [World.heap_size_alloc, World.heap_size_drew, World.heap_size_setCell] at b2_z); (first | (have b2_z0 : w.heap.size < w2.heap.size := by omega) | skip); (first | (have b2_z1 : w.heap.size + 1 < w2.heap.size := by omega) | skip); (first | (have b2_z2 : w.heap.size + 1 + 1 < w2.heap.size := by omega) | skip)
      go_wp2_with fail
      refine bodyPost_ret (v := .tuple #[.agg #[.int .i64 x0, .int .i64 x1, .int .i64 x2, .int .i64 x3, .int .i64 x4], .bool true]) (by simp [results, Try.results131, go_sem, b2_c, b2_f, b2_z0, (by omega : w.heap.size < w.heap.size + 1 + 1)]) rfl ⟨rfl, ?_⟩
      clear b2_c b2_f
      (repeat' (first | with_reducible exact Below.refl _ _ | with_reducible assumption | with_reducible refine Below.drew ?_ | with_reducible refine Below.alloc ?_ ?_ _ | with_reducible refine Below.setCell ?_ ?_ _ | with_reducible refine Below.trans ?_ (Below.mono (by assumption) ?_) | ((try simp only [World.heap_size_alloc, World.heap_size_drew, World.heap_size_setCell]); omega)))
    · have e : rowOp [x0, x1, x2, x3, x4] = (opNone, false) := if_neg hok
      have hb : opOk ⟨x0, x1, x2, x3, x4⟩ = false := by simpa using hok
      rw [e]
      clear e hok
      go_enter Try.func131, Try.ntmps131
      go_wp2_with fail
      go_region_held3 (fun w' => w'.cell? ⟨g, off, none⟩ = some (.int .i64 x0) ∧ w'.cell? ⟨g, off + 1, none⟩ = some (.int .i64 x1) ∧ w'.cell? ⟨g, off + 2, none⟩ = some (.int .i64 x2) ∧ w'.cell? ⟨g, off + 3, none⟩ = some (.int .i64 x3) ∧ w'.cell? ⟨g, off + 4, none⟩ = some (.int .i64 x4)) (go_keep) (first | fail)
      go_wp2_with fail
      (with_reducible refine (sOpOk_any _ _ _ _ _ _).mono ?_); rintro e w2 ⟨rfl, b2⟩; obtain ⟨b2_c, b2_f⟩ := bcell b2; have b2_z := b2.size; (try simp only [World.heap_size_alloc, World.heap_size_drew, World.heap_size_setCell] at b2_z); (first | (have b2_z0 : w.heap.size < w2.heap.size := by omega) | skip); (first | (have b2_z1 : w.heap.size + 1 < w2.heap.size := by omega) | skip); (first | (have b2_z2 : w.heap.size + 1 + 1 < w2.heap.size := by omega) | skip)
      go_wp2_with fail
      refine bodyPost_ret (v := .tuple #[.agg #[.int .i64 0, .int .i64 0, .int .i64 0, .int .i64 0, .int .i64 0], .bool false]) (by simp [results, Try.results131, go_sem, b2_c, b2_f, b2_z0, (by omega : w.heap.size < w.heap.size + 1 + 1)]) rfl ⟨rfl, ?_⟩
      clear b2_c b2_f
      (repeat' (first | with_reducible exact Below.refl _ _ | with_reducible assumption | with_reducible refine Below.drew ?_ | with_reducible refine Below.alloc ?_ ?_ _ | with_reducible refine Below.setCell ?_ ?_ _ | with_reducible refine Below.trans ?_ (Below.mono (by assumption) ?_) | ((try simp only [World.heap_size_alloc, World.heap_size_drew, World.heap_size_setCell]); omega)))
  · have hl : zs.length ≠ 5 := by have := h.len; omega
    rw [rowOp_none hl]
    have hn : n ≤ 9223372036854775807 := Nat.le_trans h.cap h.big
    clear hl h
    go_enter Try.func131, Try.ntmps131
    go_wp2
    refine bodyPost_ret (v := .tuple #[.agg #[.int .i64 0, .int .i64 0, .int .i64 0, .int .i64 0, .int .i64 0], .bool false]) (by simp [results, Try.results131, go_sem]) rfl ⟨rfl, ?_⟩
    (repeat' (first | with_reducible exact Below.refl _ _ | with_reducible assumption | with_reducible refine Below.drew ?_ | with_reducible refine Below.alloc ?_ ?_ _ | with_reducible refine Below.setCell ?_ ?_ _ | with_reducible refine Below.trans ?_ (Below.mono (by assumption) ?_) | ((try simp only [World.heap_size_alloc, World.heap_size_drew, World.heap_size_setCell]); omega)))

end Go.Proofs.Ytgnilmdaegnaaaa
