/- From a sector's row back to an entry: what the program's and the reference's functions return. No conditions. -/
import Derived.Test.YtgnilmdaegnaaaaZNum3
import Derived.Lib.QuietBelow
import Derived.BigQuiet
set_option linter.unusedSimpArgs false
set_option linter.unusedVariables false
namespace Go.Proofs.Ytgnilmdaegnaaaa
open Go.RowKit
def rowSlot (zs : List Int) : EntryD × Bool :=
  if zs.length = 11 ∧ zs.getD 9 0 = zs.getD 0 0 ∧ zs.getD 10 0 = zs.getD 0 0 then rowEntry (zs.take 9) else (entryNone, false)
theorem list11 {α : Type} : ∀ {l : List α}, l.length = 11 → ∃ a b c d e f g h i j k, l = [a, b, c, d, e, f, g, h, i, j, k]
  | [a, b, c, d, e, f, g, h, i, j, k], _ => ⟨a, b, c, d, e, f, g, h, i, j, k, rfl⟩
theorem list11_of {zs : List Int} {n : Nat} (h : zs.length = n * 1) (hn : n = 11) : ∃ a b c d e f g h i j k, zs = [a, b, c, d, e, f, g, h, i, j, k] := list11 (by omega)
theorem rowSlot_none {zs : List Int} (h : zs.length ≠ 11) : rowSlot zs = (entryNone, false) := if_neg (fun h' => h h'.1)
theorem rowSlot_bad {x0 x1 x2 x3 x4 x5 x6 x7 x8 x9 x10 : Int} (h : ¬ (x9 = x0 ∧ x10 = x0)) : rowSlot [x0, x1, x2, x3, x4, x5, x6, x7, x8, x9, x10] = (entryNone, false) := if_neg (fun h' => h h'.2)
theorem rowSlot_good {x0 x1 x2 x3 x4 x5 x6 x7 x8 x9 x10 : Int} (h9 : x9 = x0) (h10 : x10 = x0) : rowSlot [x0, x1, x2, x3, x4, x5, x6, x7, x8, x9, x10] = rowEntry [x0, x1, x2, x3, x4, x5, x6, x7, x8] := if_pos ⟨rfl, h9, h10⟩
theorem rowEntry_ok {x0 x1 x2 x3 x4 x5 x6 x7 x8 : Int} (h : entryOk ⟨x0, x1, x2, x3, ⟨x4, x5, x6, x7, x8⟩⟩ = true) : rowEntry [x0, x1, x2, x3, x4, x5, x6, x7, x8] = (⟨x0, x1, x2, x3, ⟨x4, x5, x6, x7, x8⟩⟩, true) := if_pos h
theorem rowEntry_bad {x0 x1 x2 x3 x4 x5 x6 x7 x8 : Int} (h : entryOk ⟨x0, x1, x2, x3, ⟨x4, x5, x6, x7, x8⟩⟩ = false) : rowEntry [x0, x1, x2, x3, x4, x5, x6, x7, x8] = (entryNone, false) := if_neg (by simp [h])
theorem frozen_alloc_lt0 (w : World) (o : Obj) {p : Addr} (h : p.block < w.heap.size) : (w.alloc o).frozen? p = w.frozen? p := ((Below.refl w.heap.size w).alloc (Nat.le_refl _) o).frozen (p := p) h
set_option maxRecDepth 100000 in
set_option maxHeartbeats 4000000 in
theorem rowSlot_any (A : Option Addr) (n c lo hi : Nat) (zs : List Int) (w : World) (h : Sl w lo hi 1 A n c zs) :
    Calls Try.prog 24 #[.slice A n c] w (EntryBRes w (rowSlot zs)) := by
  by_cases h11 : n = 11
  · obtain ⟨x0, x1, x2, x3, x4, x5, x6, x7, x8, x9, x10, rfl⟩ := list11_of h.len h11
    obtain ⟨g, off, rfl, hlo, hhi, hg, hI⟩ := ints_cells (h.fit (by omega)) (by omega)
    have hc := h.cap
    have hcb := h.big
    subst h11
    clear h
    have k0 := (hI 0 _ rfl).1
    have k9 := (hI 9 _ rfl).1
    have k10 := (hI 10 _ rfl).1
    rw [Nat.add_zero] at k0
    have hI9 : Ints w g off [x0, x1, x2, x3, x4, x5, x6, x7, x8] := hI.sub 0 9
    have hS9 : Sl w lo (min hi w.heap.size) 1 (some ⟨g, off, none⟩) 9 c [x0, x1, x2, x3, x4, x5, x6, x7, x8] := ⟨rfl, by omega, by omega, fun _ => ⟨g, off, rfl, hlo, hhi, hI9⟩⟩
    have hmin : min hi w.heap.size ≤ w.heap.size := Nat.min_le_right _ _
    generalize min hi w.heap.size = hi at hS9 hmin hhi
    have H9 := Lib.hid hS9
    clear hI hI9 hS9
    cases hok : entryOk ⟨x0, x1, x2, x3, ⟨x4, x5, x6, x7, x8⟩⟩ with
    | false =>
      have e0 : rowSlot [x0, x1, x2, x3, x4, x5, x6, x7, x8, x9, x10] = (entryNone, false) := by
        by_cases e : x9 = x0 ∧ x10 = x0
        · rw [rowSlot_good e.1 e.2, rowEntry_bad hok]
        · exact rowSlot_bad e
      rw [e0]
      clear e0
      have CO : ∀ W A n c lo hi, Sl W lo hi 1 A n c [x0, x1, x2, x3, x4, x5, x6, x7, x8] → Calls Try.prog 78 #[.slice A n c] W fun e w' => e = .returned (.tuple #[.agg #[.int .i64 0, .int .i64 0, .int .i64 0, .int .i64 0, .int .i64 0, .int .i64 0, .int .i64 0, .int .i64 0, .int .i64 0], .bool false]) ∧ Below W.heap.size W w' := fun W A n c lo hi s => by
        have h7 := rowEntry_any A n c lo hi _ W s
        unfold EntryBRes at h7
        rw [rowEntry_bad hok] at h7
        exact h7
      have HO := Lib.hid CO
      clear CO hok
      have hwi : Below hi w (w.alloc (.cells #[.int .i64 0, .int .i64 0, .int .i64 0, .int .i64 0, .int .i64 0, .int .i64 0, .int .i64 0, .int .i64 0, .int .i64 0] 32)) := ((Below.refl _ _).alloc hmin _)
      go_enter Try.func24, Try.ntmps24
      go_wp2_with fail
      (with_reducible refine (HO.out _ _ _ _ _ _ (H9.out.below (B := hi) (by (repeat' (first | with_reducible exact Below.refl _ _ | with_reducible assumption | with_reducible refine Below.drew ?_ | with_reducible refine Below.alloc ?_ ?_ _ | with_reducible refine Below.setCell ?_ ?_ _ | with_reducible refine Below.trans ?_ (Below.mono (by assumption) ?_) | ((try simp only [World.heap_size_alloc, World.heap_size_drew, World.heap_size_setCell]); omega)))) (Nat.le_refl _))).mono ?_); rintro _ w1 ⟨rfl, b1⟩
      have y1 := b1.size
      (try simp only [World.heap_size_alloc, World.heap_size_drew] at y1)
      have z1 : w.heap.size < w1.heap.size := by omega
      have hz1 : w.heap.size < w1.heap.size := z1
      have hg1 : g < w1.heap.size := by omega
      have hw1 : Below w.heap.size w w1 := ((Below.refl _ _).alloc (Nat.le_refl _) _).trans (b1.mono (by (try simp only [World.heap_size_alloc, World.heap_size_drew, World.heap_size_setCell]); omega))
      go_wp2_with fail
      refine wp_region_quiet_below (by kernel_rfl) (by kernel_rfl) ?_; (repeat (first | go_big_quiet_step (fail) | quiet_step (fail))); refine wpQuiet_nil ?_; intro _ hw'; obtain ⟨⟨nq, osq⟩, hw''⟩ := hw'; subst hw''; have hq := below_regrown (w1.alloc (.cells #[.int .i64 0, .int .i64 0, .int .i64 0, .int .i64 0, .int .i64 0, .int .i64 0, .int .i64 0, .int .i64 0, .int .i64 0] 32)) nq osq; generalize Sort.grow (redrawn (w1.alloc (.cells #[.int .i64 0, .int .i64 0, .int .i64 0, .int .i64 0, .int .i64 0, .int .i64 0, .int .i64 0, .int .i64 0, .int .i64 0] 32)) nq) osq = w3 at *
      have y3 := hq.size
      simp only [World.heap_size_alloc] at y3
      have z3 : w.heap.size < w3.heap.size := by omega
      have hw3 : Below w.heap.size w w3 := hw1.trans (((Below.refl _ _).alloc (Nat.le_of_lt z1) _).trans (hq.mono (by (try simp only [World.heap_size_alloc, World.heap_size_drew, World.heap_size_setCell]); omega)))
      have m0 : w3.cell? ⟨w.heap.size, 0, none⟩ = some (.int .i64 0) := (hq.cell (p := ⟨w.heap.size, 0, none⟩) (by (try simp only [World.heap_size_alloc, World.heap_size_drew, World.heap_size_setCell]); omega)).trans ((World.cell?_alloc_lt _ _ _ z1).trans ((b1.cell (p := ⟨w.heap.size, 0, none⟩) (by (try simp only [World.heap_size_alloc, World.heap_size_drew, World.heap_size_setCell]); omega)).trans (by simp)))
      have n0 : w3.frozen? ⟨w.heap.size, 0, none⟩ = false := (hq.frozen (p := ⟨w.heap.size, 0, none⟩) (by (try simp only [World.heap_size_alloc, World.heap_size_drew, World.heap_size_setCell]); omega)).trans ((frozen_alloc_lt0 _ _ (p := ⟨w.heap.size, 0, none⟩) z1).trans ((b1.frozen (p := ⟨w.heap.size, 0, none⟩) (by (try simp only [World.heap_size_alloc, World.heap_size_drew, World.heap_size_setCell]); omega)).trans (by simp)))
      have m1 : w3.cell? ⟨w.heap.size, 1, none⟩ = some (.int .i64 0) := (hq.cell (p := ⟨w.heap.size, 1, none⟩) (by (try simp only [World.heap_size_alloc, World.heap_size_drew, World.heap_size_setCell]); omega)).trans ((World.cell?_alloc_lt _ _ _ z1).trans ((b1.cell (p := ⟨w.heap.size, 1, none⟩) (by (try simp only [World.heap_size_alloc, World.heap_size_drew, World.heap_size_setCell]); omega)).trans (by simp)))
      have n1 : w3.frozen? ⟨w.heap.size, 1, none⟩ = false := (hq.frozen (p := ⟨w.heap.size, 1, none⟩) (by (try simp only [World.heap_size_alloc, World.heap_size_drew, World.heap_size_setCell]); omega)).trans ((frozen_alloc_lt0 _ _ (p := ⟨w.heap.size, 1, none⟩) z1).trans ((b1.frozen (p := ⟨w.heap.size, 1, none⟩) (by (try simp only [World.heap_size_alloc, World.heap_size_drew, World.heap_size_setCell]); omega)).trans (by simp)))
      have m2 : w3.cell? ⟨w.heap.size, 2, none⟩ = some (.int .i64 0) := (hq.cell (p := ⟨w.heap.size, 2, none⟩) (by (try simp only [World.heap_size_alloc, World.heap_size_drew, World.heap_size_setCell]); omega)).trans ((World.cell?_alloc_lt _ _ _ z1).trans ((b1.cell (p := ⟨w.heap.size, 2, none⟩) (by (try simp only [World.heap_size_alloc, World.heap_size_drew, World.heap_size_setCell]); omega)).trans (by simp)))
      have n2 : w3.frozen? ⟨w.heap.size, 2, none⟩ = false := (hq.frozen (p := ⟨w.heap.size, 2, none⟩) (by (try simp only [World.heap_size_alloc, World.heap_size_drew, World.heap_size_setCell]); omega)).trans ((frozen_alloc_lt0 _ _ (p := ⟨w.heap.size, 2, none⟩) z1).trans ((b1.frozen (p := ⟨w.heap.size, 2, none⟩) (by (try simp only [World.heap_size_alloc, World.heap_size_drew, World.heap_size_setCell]); omega)).trans (by simp)))
      have m3 : w3.cell? ⟨w.heap.size, 3, none⟩ = some (.int .i64 0) := (hq.cell (p := ⟨w.heap.size, 3, none⟩) (by (try simp only [World.heap_size_alloc, World.heap_size_drew, World.heap_size_setCell]); omega)).trans ((World.cell?_alloc_lt _ _ _ z1).trans ((b1.cell (p := ⟨w.heap.size, 3, none⟩) (by (try simp only [World.heap_size_alloc, World.heap_size_drew, World.heap_size_setCell]); omega)).trans (by simp)))
      have n3 : w3.frozen? ⟨w.heap.size, 3, none⟩ = false := (hq.frozen (p := ⟨w.heap.size, 3, none⟩) (by (try simp only [World.heap_size_alloc, World.heap_size_drew, World.heap_size_setCell]); omega)).trans ((frozen_alloc_lt0 _ _ (p := ⟨w.heap.size, 3, none⟩) z1).trans ((b1.frozen (p := ⟨w.heap.size, 3, none⟩) (by (try simp only [World.heap_size_alloc, World.heap_size_drew, World.heap_size_setCell]); omega)).trans (by simp)))
      have m4 : w3.cell? ⟨w.heap.size, 4, none⟩ = some (.int .i64 0) := (hq.cell (p := ⟨w.heap.size, 4, none⟩) (by (try simp only [World.heap_size_alloc, World.heap_size_drew, World.heap_size_setCell]); omega)).trans ((World.cell?_alloc_lt _ _ _ z1).trans ((b1.cell (p := ⟨w.heap.size, 4, none⟩) (by (try simp only [World.heap_size_alloc, World.heap_size_drew, World.heap_size_setCell]); omega)).trans (by simp)))
      have n4 : w3.frozen? ⟨w.heap.size, 4, none⟩ = false := (hq.frozen (p := ⟨w.heap.size, 4, none⟩) (by (try simp only [World.heap_size_alloc, World.heap_size_drew, World.heap_size_setCell]); omega)).trans ((frozen_alloc_lt0 _ _ (p := ⟨w.heap.size, 4, none⟩) z1).trans ((b1.frozen (p := ⟨w.heap.size, 4, none⟩) (by (try simp only [World.heap_size_alloc, World.heap_size_drew, World.heap_size_setCell]); omega)).trans (by simp)))
      have m5 : w3.cell? ⟨w.heap.size, 5, none⟩ = some (.int .i64 0) := (hq.cell (p := ⟨w.heap.size, 5, none⟩) (by (try simp only [World.heap_size_alloc, World.heap_size_drew, World.heap_size_setCell]); omega)).trans ((World.cell?_alloc_lt _ _ _ z1).trans ((b1.cell (p := ⟨w.heap.size, 5, none⟩) (by (try simp only [World.heap_size_alloc, World.heap_size_drew, World.heap_size_setCell]); omega)).trans (by simp)))
      have n5 : w3.frozen? ⟨w.heap.size, 5, none⟩ = false := (hq.frozen (p := ⟨w.heap.size, 5, none⟩) (by (try simp only [World.heap_size_alloc, World.heap_size_drew, World.heap_size_setCell]); omega)).trans ((frozen_alloc_lt0 _ _ (p := ⟨w.heap.size, 5, none⟩) z1).trans ((b1.frozen (p := ⟨w.heap.size, 5, none⟩) (by (try simp only [World.heap_size_alloc, World.heap_size_drew, World.heap_size_setCell]); omega)).trans (by simp)))
      have m6 : w3.cell? ⟨w.heap.size, 6, none⟩ = some (.int .i64 0) := (hq.cell (p := ⟨w.heap.size, 6, none⟩) (by (try simp only [World.heap_size_alloc, World.heap_size_drew, World.heap_size_setCell]); omega)).trans ((World.cell?_alloc_lt _ _ _ z1).trans ((b1.cell (p := ⟨w.heap.size, 6, none⟩) (by (try simp only [World.heap_size_alloc, World.heap_size_drew, World.heap_size_setCell]); omega)).trans (by simp)))
      have n6 : w3.frozen? ⟨w.heap.size, 6, none⟩ = false := (hq.frozen (p := ⟨w.heap.size, 6, none⟩) (by (try simp only [World.heap_size_alloc, World.heap_size_drew, World.heap_size_setCell]); omega)).trans ((frozen_alloc_lt0 _ _ (p := ⟨w.heap.size, 6, none⟩) z1).trans ((b1.frozen (p := ⟨w.heap.size, 6, none⟩) (by (try simp only [World.heap_size_alloc, World.heap_size_drew, World.heap_size_setCell]); omega)).trans (by simp)))
      have m7 : w3.cell? ⟨w.heap.size, 7, none⟩ = some (.int .i64 0) := (hq.cell (p := ⟨w.heap.size, 7, none⟩) (by (try simp only [World.heap_size_alloc, World.heap_size_drew, World.heap_size_setCell]); omega)).trans ((World.cell?_alloc_lt _ _ _ z1).trans ((b1.cell (p := ⟨w.heap.size, 7, none⟩) (by (try simp only [World.heap_size_alloc, World.heap_size_drew, World.heap_size_setCell]); omega)).trans (by simp)))
      have n7 : w3.frozen? ⟨w.heap.size, 7, none⟩ = false := (hq.frozen (p := ⟨w.heap.size, 7, none⟩) (by (try simp only [World.heap_size_alloc, World.heap_size_drew, World.heap_size_setCell]); omega)).trans ((frozen_alloc_lt0 _ _ (p := ⟨w.heap.size, 7, none⟩) z1).trans ((b1.frozen (p := ⟨w.heap.size, 7, none⟩) (by (try simp only [World.heap_size_alloc, World.heap_size_drew, World.heap_size_setCell]); omega)).trans (by simp)))
      have m8 : w3.cell? ⟨w.heap.size, 8, none⟩ = some (.int .i64 0) := (hq.cell (p := ⟨w.heap.size, 8, none⟩) (by (try simp only [World.heap_size_alloc, World.heap_size_drew, World.heap_size_setCell]); omega)).trans ((World.cell?_alloc_lt _ _ _ z1).trans ((b1.cell (p := ⟨w.heap.size, 8, none⟩) (by (try simp only [World.heap_size_alloc, World.heap_size_drew, World.heap_size_setCell]); omega)).trans (by simp)))
      have n8 : w3.frozen? ⟨w.heap.size, 8, none⟩ = false := (hq.frozen (p := ⟨w.heap.size, 8, none⟩) (by (try simp only [World.heap_size_alloc, World.heap_size_drew, World.heap_size_setCell]); omega)).trans ((frozen_alloc_lt0 _ _ (p := ⟨w.heap.size, 8, none⟩) z1).trans ((b1.frozen (p := ⟨w.heap.size, 8, none⟩) (by (try simp only [World.heap_size_alloc, World.heap_size_drew, World.heap_size_setCell]); omega)).trans (by simp)))
      go_wp2_with fail
      refine bodyPost_ret (v := .tuple #[.agg #[.int .i64 0, .int .i64 0, .int .i64 0, .int .i64 0, .int .i64 0, .int .i64 0, .int .i64 0, .int .i64 0, .int .i64 0], .bool false]) (by simp [results, Try.results24, go_sem, m0, n0, m1, n1, m2, n2, m3, n3, m4, n4, m5, n5, m6, n6, m7, n7, m8, n8]) rfl ⟨rfl, ?_⟩
      (repeat' (first | with_reducible exact Below.refl _ _ | with_reducible assumption | with_reducible refine Below.drew ?_ | with_reducible refine Below.alloc ?_ ?_ _ | with_reducible refine Below.setCell ?_ ?_ _ | with_reducible refine Below.trans ?_ (Below.mono (by assumption) ?_) | ((try simp only [World.heap_size_alloc, World.heap_size_drew, World.heap_size_setCell]); omega)))
    | true =>
      by_cases e9 : x9 = x0
      · by_cases e10 : x10 = x0
        · rw [rowSlot_good e9 e10, rowEntry_ok hok]
          have d9 : (x9 != x0) = false := by simp [e9]
          have d10 : (x10 != x0) = false := by simp [e10]
          clear e9 e10
          have CO : ∀ W A n c lo hi, Sl W lo hi 1 A n c [x0, x1, x2, x3, x4, x5, x6, x7, x8] → Calls Try.prog 78 #[.slice A n c] W fun e w' => e = .returned (.tuple #[.agg #[.int .i64 x0, .int .i64 x1, .int .i64 x2, .int .i64 x3, .int .i64 x4, .int .i64 x5, .int .i64 x6, .int .i64 x7, .int .i64 x8], .bool true]) ∧ Below W.heap.size W w' := fun W A n c lo hi s => by
            have h7 := rowEntry_any A n c lo hi _ W s
            unfold EntryBRes at h7
            rw [rowEntry_ok hok] at h7
            exact h7
          have HO := Lib.hid CO
          clear CO hok
          have hwi : Below hi w (w.alloc (.cells #[.int .i64 0, .int .i64 0, .int .i64 0, .int .i64 0, .int .i64 0, .int .i64 0, .int .i64 0, .int .i64 0, .int .i64 0] 32)) := ((Below.refl _ _).alloc hmin _)
          go_enter Try.func24, Try.ntmps24
          go_wp2_with fail
          (with_reducible refine (HO.out _ _ _ _ _ _ (H9.out.below (B := hi) (by (repeat' (first | with_reducible exact Below.refl _ _ | with_reducible assumption | with_reducible refine Below.drew ?_ | with_reducible refine Below.alloc ?_ ?_ _ | with_reducible refine Below.setCell ?_ ?_ _ | with_reducible refine Below.trans ?_ (Below.mono (by assumption) ?_) | ((try simp only [World.heap_size_alloc, World.heap_size_drew, World.heap_size_setCell]); omega)))) (Nat.le_refl _))).mono ?_); rintro _ w1 ⟨rfl, b1⟩
          have y1 := b1.size
          (try simp only [World.heap_size_alloc, World.heap_size_drew] at y1)
          have z1 : w.heap.size < w1.heap.size := by omega
          have hz1 : w.heap.size < w1.heap.size := z1
          have hg1 : g < w1.heap.size := by omega
          have hw1 : Below w.heap.size w w1 := ((Below.refl _ _).alloc (Nat.le_refl _) _).trans (b1.mono (by (try simp only [World.heap_size_alloc, World.heap_size_drew, World.heap_size_setCell]); omega))
          have v9 : (w1.alloc (.cells #[.int .i64 x0, .int .i64 x1, .int .i64 x2, .int .i64 x3, .int .i64 x4, .int .i64 x5, .int .i64 x6, .int .i64 x7, .int .i64 x8] 32)).cell? ⟨g, off + 9, none⟩ = some (.int .i64 x9) := (World.cell?_alloc_lt _ _ _ hg1).trans ((hw1.cell (p := ⟨g, off + 9, none⟩) hg).trans k9)
          have f9 := fun d os => cell_regrown v9 d os
          have v10 : (w1.alloc (.cells #[.int .i64 x0, .int .i64 x1, .int .i64 x2, .int .i64 x3, .int .i64 x4, .int .i64 x5, .int .i64 x6, .int .i64 x7, .int .i64 x8] 32)).cell? ⟨g, off + 10, none⟩ = some (.int .i64 x10) := (World.cell?_alloc_lt _ _ _ hg1).trans ((hw1.cell (p := ⟨g, off + 10, none⟩) hg).trans k10)
          have f10 := fun d os => cell_regrown v10 d os
          have u0 : (w1.alloc (.cells #[.int .i64 x0, .int .i64 x1, .int .i64 x2, .int .i64 x3, .int .i64 x4, .int .i64 x5, .int .i64 x6, .int .i64 x7, .int .i64 x8] 32)).cell? ⟨w1.heap.size, 0, none⟩ = some (.int .i64 x0) := by simp
          have fu := fun d os => cell_regrown u0 d os
          go_wp2_with fail
          refine wp_region_quiet_below (by kernel_rfl) (by kernel_rfl) ?_; (repeat (first | go_big_quiet_step (fail) | quiet_step (fail))); refine wpQuiet_nil ?_; intro _ hw'; obtain ⟨⟨nq, osq⟩, hw''⟩ := hw'; subst hw''; have hq := below_regrown (w1.alloc (.cells #[.int .i64 x0, .int .i64 x1, .int .i64 x2, .int .i64 x3, .int .i64 x4, .int .i64 x5, .int .i64 x6, .int .i64 x7, .int .i64 x8] 32)) nq osq; generalize Sort.grow (redrawn (w1.alloc (.cells #[.int .i64 x0, .int .i64 x1, .int .i64 x2, .int .i64 x3, .int .i64 x4, .int .i64 x5, .int .i64 x6, .int .i64 x7, .int .i64 x8] 32)) nq) osq = w3 at *
          have y3 := hq.size
          simp only [World.heap_size_alloc] at y3
          have z3 : w.heap.size < w3.heap.size := by omega
          have hw3 : Below w.heap.size w w3 := hw1.trans (((Below.refl _ _).alloc (Nat.le_of_lt z1) _).trans (hq.mono (by (try simp only [World.heap_size_alloc, World.heap_size_drew, World.heap_size_setCell]); omega)))
          have m0 : w3.cell? ⟨w.heap.size, 0, none⟩ = some (.int .i64 0) := (hq.cell (p := ⟨w.heap.size, 0, none⟩) (by (try simp only [World.heap_size_alloc, World.heap_size_drew, World.heap_size_setCell]); omega)).trans ((World.cell?_alloc_lt _ _ _ z1).trans ((b1.cell (p := ⟨w.heap.size, 0, none⟩) (by (try simp only [World.heap_size_alloc, World.heap_size_drew, World.heap_size_setCell]); omega)).trans (by simp)))
          have n0 : w3.frozen? ⟨w.heap.size, 0, none⟩ = false := (hq.frozen (p := ⟨w.heap.size, 0, none⟩) (by (try simp only [World.heap_size_alloc, World.heap_size_drew, World.heap_size_setCell]); omega)).trans ((frozen_alloc_lt0 _ _ (p := ⟨w.heap.size, 0, none⟩) z1).trans ((b1.frozen (p := ⟨w.heap.size, 0, none⟩) (by (try simp only [World.heap_size_alloc, World.heap_size_drew, World.heap_size_setCell]); omega)).trans (by simp)))
          have p0 : w3.cell? ⟨w1.heap.size, 0, none⟩ = some (.int .i64 x0) := (hq.cell (p := ⟨w1.heap.size, 0, none⟩) (by (try simp only [World.heap_size_alloc, World.heap_size_drew, World.heap_size_setCell]); omega)).trans (by simp)
          have m1 : w3.cell? ⟨w.heap.size, 1, none⟩ = some (.int .i64 0) := (hq.cell (p := ⟨w.heap.size, 1, none⟩) (by (try simp only [World.heap_size_alloc, World.heap_size_drew, World.heap_size_setCell]); omega)).trans ((World.cell?_alloc_lt _ _ _ z1).trans ((b1.cell (p := ⟨w.heap.size, 1, none⟩) (by (try simp only [World.heap_size_alloc, World.heap_size_drew, World.heap_size_setCell]); omega)).trans (by simp)))
          have n1 : w3.frozen? ⟨w.heap.size, 1, none⟩ = false := (hq.frozen (p := ⟨w.heap.size, 1, none⟩) (by (try simp only [World.heap_size_alloc, World.heap_size_drew, World.heap_size_setCell]); omega)).trans ((frozen_alloc_lt0 _ _ (p := ⟨w.heap.size, 1, none⟩) z1).trans ((b1.frozen (p := ⟨w.heap.size, 1, none⟩) (by (try simp only [World.heap_size_alloc, World.heap_size_drew, World.heap_size_setCell]); omega)).trans (by simp)))
          have p1 : w3.cell? ⟨w1.heap.size, 1, none⟩ = some (.int .i64 x1) := (hq.cell (p := ⟨w1.heap.size, 1, none⟩) (by (try simp only [World.heap_size_alloc, World.heap_size_drew, World.heap_size_setCell]); omega)).trans (by simp)
          have m2 : w3.cell? ⟨w.heap.size, 2, none⟩ = some (.int .i64 0) := (hq.cell (p := ⟨w.heap.size, 2, none⟩) (by (try simp only [World.heap_size_alloc, World.heap_size_drew, World.heap_size_setCell]); omega)).trans ((World.cell?_alloc_lt _ _ _ z1).trans ((b1.cell (p := ⟨w.heap.size, 2, none⟩) (by (try simp only [World.heap_size_alloc, World.heap_size_drew, World.heap_size_setCell]); omega)).trans (by simp)))
          have n2 : w3.frozen? ⟨w.heap.size, 2, none⟩ = false := (hq.frozen (p := ⟨w.heap.size, 2, none⟩) (by (try simp only [World.heap_size_alloc, World.heap_size_drew, World.heap_size_setCell]); omega)).trans ((frozen_alloc_lt0 _ _ (p := ⟨w.heap.size, 2, none⟩) z1).trans ((b1.frozen (p := ⟨w.heap.size, 2, none⟩) (by (try simp only [World.heap_size_alloc, World.heap_size_drew, World.heap_size_setCell]); omega)).trans (by simp)))
          have p2 : w3.cell? ⟨w1.heap.size, 2, none⟩ = some (.int .i64 x2) := (hq.cell (p := ⟨w1.heap.size, 2, none⟩) (by (try simp only [World.heap_size_alloc, World.heap_size_drew, World.heap_size_setCell]); omega)).trans (by simp)
          have m3 : w3.cell? ⟨w.heap.size, 3, none⟩ = some (.int .i64 0) := (hq.cell (p := ⟨w.heap.size, 3, none⟩) (by (try simp only [World.heap_size_alloc, World.heap_size_drew, World.heap_size_setCell]); omega)).trans ((World.cell?_alloc_lt _ _ _ z1).trans ((b1.cell (p := ⟨w.heap.size, 3, none⟩) (by (try simp only [World.heap_size_alloc, World.heap_size_drew, World.heap_size_setCell]); omega)).trans (by simp)))
          have n3 : w3.frozen? ⟨w.heap.size, 3, none⟩ = false := (hq.frozen (p := ⟨w.heap.size, 3, none⟩) (by (try simp only [World.heap_size_alloc, World.heap_size_drew, World.heap_size_setCell]); omega)).trans ((frozen_alloc_lt0 _ _ (p := ⟨w.heap.size, 3, none⟩) z1).trans ((b1.frozen (p := ⟨w.heap.size, 3, none⟩) (by (try simp only [World.heap_size_alloc, World.heap_size_drew, World.heap_size_setCell]); omega)).trans (by simp)))
          have p3 : w3.cell? ⟨w1.heap.size, 3, none⟩ = some (.int .i64 x3) := (hq.cell (p := ⟨w1.heap.size, 3, none⟩) (by (try simp only [World.heap_size_alloc, World.heap_size_drew, World.heap_size_setCell]); omega)).trans (by simp)
          have m4 : w3.cell? ⟨w.heap.size, 4, none⟩ = some (.int .i64 0) := (hq.cell (p := ⟨w.heap.size, 4, none⟩) (by (try simp only [World.heap_size_alloc, World.heap_size_drew, World.heap_size_setCell]); omega)).trans ((World.cell?_alloc_lt _ _ _ z1).trans ((b1.cell (p := ⟨w.heap.size, 4, none⟩) (by (try simp only [World.heap_size_alloc, World.heap_size_drew, World.heap_size_setCell]); omega)).trans (by simp)))
          have n4 : w3.frozen? ⟨w.heap.size, 4, none⟩ = false := (hq.frozen (p := ⟨w.heap.size, 4, none⟩) (by (try simp only [World.heap_size_alloc, World.heap_size_drew, World.heap_size_setCell]); omega)).trans ((frozen_alloc_lt0 _ _ (p := ⟨w.heap.size, 4, none⟩) z1).trans ((b1.frozen (p := ⟨w.heap.size, 4, none⟩) (by (try simp only [World.heap_size_alloc, World.heap_size_drew, World.heap_size_setCell]); omega)).trans (by simp)))
          have p4 : w3.cell? ⟨w1.heap.size, 4, none⟩ = some (.int .i64 x4) := (hq.cell (p := ⟨w1.heap.size, 4, none⟩) (by (try simp only [World.heap_size_alloc, World.heap_size_drew, World.heap_size_setCell]); omega)).trans (by simp)
          have m5 : w3.cell? ⟨w.heap.size, 5, none⟩ = some (.int .i64 0) := (hq.cell (p := ⟨w.heap.size, 5, none⟩) (by (try simp only [World.heap_size_alloc, World.heap_size_drew, World.heap_size_setCell]); omega)).trans ((World.cell?_alloc_lt _ _ _ z1).trans ((b1.cell (p := ⟨w.heap.size, 5, none⟩) (by (try simp only [World.heap_size_alloc, World.heap_size_drew, World.heap_size_setCell]); omega)).trans (by simp)))
          have n5 : w3.frozen? ⟨w.heap.size, 5, none⟩ = false := (hq.frozen (p := ⟨w.heap.size, 5, none⟩) (by (try simp only [World.heap_size_alloc, World.heap_size_drew, World.heap_size_setCell]); omega)).trans ((frozen_alloc_lt0 _ _ (p := ⟨w.heap.size, 5, none⟩) z1).trans ((b1.frozen (p := ⟨w.heap.size, 5, none⟩) (by (try simp only [World.heap_size_alloc, World.heap_size_drew, World.heap_size_setCell]); omega)).trans (by simp)))
          have p5 : w3.cell? ⟨w1.heap.size, 5, none⟩ = some (.int .i64 x5) := (hq.cell (p := ⟨w1.heap.size, 5, none⟩) (by (try simp only [World.heap_size_alloc, World.heap_size_drew, World.heap_size_setCell]); omega)).trans (by simp)
          have m6 : w3.cell? ⟨w.heap.size, 6, none⟩ = some (.int .i64 0) := (hq.cell (p := ⟨w.heap.size, 6, none⟩) (by (try simp only [World.heap_size_alloc, World.heap_size_drew, World.heap_size_setCell]); omega)).trans ((World.cell?_alloc_lt _ _ _ z1).trans ((b1.cell (p := ⟨w.heap.size, 6, none⟩) (by (try simp only [World.heap_size_alloc, World.heap_size_drew, World.heap_size_setCell]); omega)).trans (by simp)))
          have n6 : w3.frozen? ⟨w.heap.size, 6, none⟩ = false := (hq.frozen (p := ⟨w.heap.size, 6, none⟩) (by (try simp only [World.heap_size_alloc, World.heap_size_drew, World.heap_size_setCell]); omega)).trans ((frozen_alloc_lt0 _ _ (p := ⟨w.heap.size, 6, none⟩) z1).trans ((b1.frozen (p := ⟨w.heap.size, 6, none⟩) (by (try simp only [World.heap_size_alloc, World.heap_size_drew, World.heap_size_setCell]); omega)).trans (by simp)))
          have p6 : w3.cell? ⟨w1.heap.size, 6, none⟩ = some (.int .i64 x6) := (hq.cell (p := ⟨w1.heap.size, 6, none⟩) (by (try simp only [World.heap_size_alloc, World.heap_size_drew, World.heap_size_setCell]); omega)).trans (by simp)
          have m7 : w3.cell? ⟨w.heap.size, 7, none⟩ = some (.int .i64 0) := (hq.cell (p := ⟨w.heap.size, 7, none⟩) (by (try simp only [World.heap_size_alloc, World.heap_size_drew, World.heap_size_setCell]); omega)).trans ((World.cell?_alloc_lt _ _ _ z1).trans ((b1.cell (p := ⟨w.heap.size, 7, none⟩) (by (try simp only [World.heap_size_alloc, World.heap_size_drew, World.heap_size_setCell]); omega)).trans (by simp)))
          have n7 : w3.frozen? ⟨w.heap.size, 7, none⟩ = false := (hq.frozen (p := ⟨w.heap.size, 7, none⟩) (by (try simp only [World.heap_size_alloc, World.heap_size_drew, World.heap_size_setCell]); omega)).trans ((frozen_alloc_lt0 _ _ (p := ⟨w.heap.size, 7, none⟩) z1).trans ((b1.frozen (p := ⟨w.heap.size, 7, none⟩) (by (try simp only [World.heap_size_alloc, World.heap_size_drew, World.heap_size_setCell]); omega)).trans (by simp)))
          have p7 : w3.cell? ⟨w1.heap.size, 7, none⟩ = some (.int .i64 x7) := (hq.cell (p := ⟨w1.heap.size, 7, none⟩) (by (try simp only [World.heap_size_alloc, World.heap_size_drew, World.heap_size_setCell]); omega)).trans (by simp)
          have m8 : w3.cell? ⟨w.heap.size, 8, none⟩ = some (.int .i64 0) := (hq.cell (p := ⟨w.heap.size, 8, none⟩) (by (try simp only [World.heap_size_alloc, World.heap_size_drew, World.heap_size_setCell]); omega)).trans ((World.cell?_alloc_lt _ _ _ z1).trans ((b1.cell (p := ⟨w.heap.size, 8, none⟩) (by (try simp only [World.heap_size_alloc, World.heap_size_drew, World.heap_size_setCell]); omega)).trans (by simp)))
          have n8 : w3.frozen? ⟨w.heap.size, 8, none⟩ = false := (hq.frozen (p := ⟨w.heap.size, 8, none⟩) (by (try simp only [World.heap_size_alloc, World.heap_size_drew, World.heap_size_setCell]); omega)).trans ((frozen_alloc_lt0 _ _ (p := ⟨w.heap.size, 8, none⟩) z1).trans ((b1.frozen (p := ⟨w.heap.size, 8, none⟩) (by (try simp only [World.heap_size_alloc, World.heap_size_drew, World.heap_size_setCell]); omega)).trans (by simp)))
          have p8 : w3.cell? ⟨w1.heap.size, 8, none⟩ = some (.int .i64 x8) := (hq.cell (p := ⟨w1.heap.size, 8, none⟩) (by (try simp only [World.heap_size_alloc, World.heap_size_drew, World.heap_size_setCell]); omega)).trans (by simp)
          go_wp2_with fail
          refine bodyPost_ret (v := .tuple #[.agg #[.int .i64 x0, .int .i64 x1, .int .i64 x2, .int .i64 x3, .int .i64 x4, .int .i64 x5, .int .i64 x6, .int .i64 x7, .int .i64 x8], .bool true]) (by simp [results, Try.results24, go_sem, m0, n0, m1, n1, m2, n2, m3, n3, m4, n4, m5, n5, m6, n6, m7, n7, m8, n8]) rfl ⟨rfl, ?_⟩
          (repeat' (first | with_reducible exact Below.refl _ _ | with_reducible assumption | with_reducible refine Below.drew ?_ | with_reducible refine Below.alloc ?_ ?_ _ | with_reducible refine Below.setCell ?_ ?_ _ | with_reducible refine Below.trans ?_ (Below.mono (by assumption) ?_) | ((try simp only [World.heap_size_alloc, World.heap_size_drew, World.heap_size_setCell]); omega)))
        · rw [rowSlot_bad (by simp [e10])]
          have d9 : (x9 != x0) = false := by simp [e9]
          have d10 : (x10 != x0) = true := by simpa using e10
          clear e9 e10
          have CO : ∀ W A n c lo hi, Sl W lo hi 1 A n c [x0, x1, x2, x3, x4, x5, x6, x7, x8] → Calls Try.prog 78 #[.slice A n c] W fun e w' => e = .returned (.tuple #[.agg #[.int .i64 x0, .int .i64 x1, .int .i64 x2, .int .i64 x3, .int .i64 x4, .int .i64 x5, .int .i64 x6, .int .i64 x7, .int .i64 x8], .bool true]) ∧ Below W.heap.size W w' := fun W A n c lo hi s => by
            have h7 := rowEntry_any A n c lo hi _ W s
            unfold EntryBRes at h7
            rw [rowEntry_ok hok] at h7
            exact h7
          have HO := Lib.hid CO
          clear CO hok
          have hwi : Below hi w (w.alloc (.cells #[.int .i64 0, .int .i64 0, .int .i64 0, .int .i64 0, .int .i64 0, .int .i64 0, .int .i64 0, .int .i64 0, .int .i64 0] 32)) := ((Below.refl _ _).alloc hmin _)
          go_enter Try.func24, Try.ntmps24
          go_wp2_with fail
          (with_reducible refine (HO.out _ _ _ _ _ _ (H9.out.below (B := hi) (by (repeat' (first | with_reducible exact Below.refl _ _ | with_reducible assumption | with_reducible refine Below.drew ?_ | with_reducible refine Below.alloc ?_ ?_ _ | with_reducible refine Below.setCell ?_ ?_ _ | with_reducible refine Below.trans ?_ (Below.mono (by assumption) ?_) | ((try simp only [World.heap_size_alloc, World.heap_size_drew, World.heap_size_setCell]); omega)))) (Nat.le_refl _))).mono ?_); rintro _ w1 ⟨rfl, b1⟩
          have y1 := b1.size
          (try simp only [World.heap_size_alloc, World.heap_size_drew] at y1)
          have z1 : w.heap.size < w1.heap.size := by omega
          have hz1 : w.heap.size < w1.heap.size := z1
          have hg1 : g < w1.heap.size := by omega
          have hw1 : Below w.heap.size w w1 := ((Below.refl _ _).alloc (Nat.le_refl _) _).trans (b1.mono (by (try simp only [World.heap_size_alloc, World.heap_size_drew, World.heap_size_setCell]); omega))
          have v9 : (w1.alloc (.cells #[.int .i64 x0, .int .i64 x1, .int .i64 x2, .int .i64 x3, .int .i64 x4, .int .i64 x5, .int .i64 x6, .int .i64 x7, .int .i64 x8] 32)).cell? ⟨g, off + 9, none⟩ = some (.int .i64 x9) := (World.cell?_alloc_lt _ _ _ hg1).trans ((hw1.cell (p := ⟨g, off + 9, none⟩) hg).trans k9)
          have f9 := fun d os => cell_regrown v9 d os
          have v10 : (w1.alloc (.cells #[.int .i64 x0, .int .i64 x1, .int .i64 x2, .int .i64 x3, .int .i64 x4, .int .i64 x5, .int .i64 x6, .int .i64 x7, .int .i64 x8] 32)).cell? ⟨g, off + 10, none⟩ = some (.int .i64 x10) := (World.cell?_alloc_lt _ _ _ hg1).trans ((hw1.cell (p := ⟨g, off + 10, none⟩) hg).trans k10)
          have f10 := fun d os => cell_regrown v10 d os
          have u0 : (w1.alloc (.cells #[.int .i64 x0, .int .i64 x1, .int .i64 x2, .int .i64 x3, .int .i64 x4, .int .i64 x5, .int .i64 x6, .int .i64 x7, .int .i64 x8] 32)).cell? ⟨w1.heap.size, 0, none⟩ = some (.int .i64 x0) := by simp
          have fu := fun d os => cell_regrown u0 d os
          go_wp2_with fail
          refine wp_region_quiet_below (by kernel_rfl) (by kernel_rfl) ?_; (repeat (first | go_big_quiet_step (fail) | quiet_step (fail))); refine wpQuiet_nil ?_; intro _ hw'; obtain ⟨⟨nq, osq⟩, hw''⟩ := hw'; subst hw''; have hq := below_regrown (w1.alloc (.cells #[.int .i64 x0, .int .i64 x1, .int .i64 x2, .int .i64 x3, .int .i64 x4, .int .i64 x5, .int .i64 x6, .int .i64 x7, .int .i64 x8] 32)) nq osq; generalize Sort.grow (redrawn (w1.alloc (.cells #[.int .i64 x0, .int .i64 x1, .int .i64 x2, .int .i64 x3, .int .i64 x4, .int .i64 x5, .int .i64 x6, .int .i64 x7, .int .i64 x8] 32)) nq) osq = w3 at *
          have y3 := hq.size
          simp only [World.heap_size_alloc] at y3
          have z3 : w.heap.size < w3.heap.size := by omega
          have hw3 : Below w.heap.size w w3 := hw1.trans (((Below.refl _ _).alloc (Nat.le_of_lt z1) _).trans (hq.mono (by (try simp only [World.heap_size_alloc, World.heap_size_drew, World.heap_size_setCell]); omega)))
          have m0 : w3.cell? ⟨w.heap.size, 0, none⟩ = some (.int .i64 0) := (hq.cell (p := ⟨w.heap.size, 0, none⟩) (by (try simp only [World.heap_size_alloc, World.heap_size_drew, World.heap_size_setCell]); omega)).trans ((World.cell?_alloc_lt _ _ _ z1).trans ((b1.cell (p := ⟨w.heap.size, 0, none⟩) (by (try simp only [World.heap_size_alloc, World.heap_size_drew, World.heap_size_setCell]); omega)).trans (by simp)))
          have n0 : w3.frozen? ⟨w.heap.size, 0, none⟩ = false := (hq.frozen (p := ⟨w.heap.size, 0, none⟩) (by (try simp only [World.heap_size_alloc, World.heap_size_drew, World.heap_size_setCell]); omega)).trans ((frozen_alloc_lt0 _ _ (p := ⟨w.heap.size, 0, none⟩) z1).trans ((b1.frozen (p := ⟨w.heap.size, 0, none⟩) (by (try simp only [World.heap_size_alloc, World.heap_size_drew, World.heap_size_setCell]); omega)).trans (by simp)))
          have m1 : w3.cell? ⟨w.heap.size, 1, none⟩ = some (.int .i64 0) := (hq.cell (p := ⟨w.heap.size, 1, none⟩) (by (try simp only [World.heap_size_alloc, World.heap_size_drew, World.heap_size_setCell]); omega)).trans ((World.cell?_alloc_lt _ _ _ z1).trans ((b1.cell (p := ⟨w.heap.size, 1, none⟩) (by (try simp only [World.heap_size_alloc, World.heap_size_drew, World.heap_size_setCell]); omega)).trans (by simp)))
          have n1 : w3.frozen? ⟨w.heap.size, 1, none⟩ = false := (hq.frozen (p := ⟨w.heap.size, 1, none⟩) (by (try simp only [World.heap_size_alloc, World.heap_size_drew, World.heap_size_setCell]); omega)).trans ((frozen_alloc_lt0 _ _ (p := ⟨w.heap.size, 1, none⟩) z1).trans ((b1.frozen (p := ⟨w.heap.size, 1, none⟩) (by (try simp only [World.heap_size_alloc, World.heap_size_drew, World.heap_size_setCell]); omega)).trans (by simp)))
          have m2 : w3.cell? ⟨w.heap.size, 2, none⟩ = some (.int .i64 0) := (hq.cell (p := ⟨w.heap.size, 2, none⟩) (by (try simp only [World.heap_size_alloc, World.heap_size_drew, World.heap_size_setCell]); omega)).trans ((World.cell?_alloc_lt _ _ _ z1).trans ((b1.cell (p := ⟨w.heap.size, 2, none⟩) (by (try simp only [World.heap_size_alloc, World.heap_size_drew, World.heap_size_setCell]); omega)).trans (by simp)))
          have n2 : w3.frozen? ⟨w.heap.size, 2, none⟩ = false := (hq.frozen (p := ⟨w.heap.size, 2, none⟩) (by (try simp only [World.heap_size_alloc, World.heap_size_drew, World.heap_size_setCell]); omega)).trans ((frozen_alloc_lt0 _ _ (p := ⟨w.heap.size, 2, none⟩) z1).trans ((b1.frozen (p := ⟨w.heap.size, 2, none⟩) (by (try simp only [World.heap_size_alloc, World.heap_size_drew, World.heap_size_setCell]); omega)).trans (by simp)))
          have m3 : w3.cell? ⟨w.heap.size, 3, none⟩ = some (.int .i64 0) := (hq.cell (p := ⟨w.heap.size, 3, none⟩) (by (try simp only [World.heap_size_alloc, World.heap_size_drew, World.heap_size_setCell]); omega)).trans ((World.cell?_alloc_lt _ _ _ z1).trans ((b1.cell (p := ⟨w.heap.size, 3, none⟩) (by (try simp only [World.heap_size_alloc, World.heap_size_drew, World.heap_size_setCell]); omega)).trans (by simp)))
          have n3 : w3.frozen? ⟨w.heap.size, 3, none⟩ = false := (hq.frozen (p := ⟨w.heap.size, 3, none⟩) (by (try simp only [World.heap_size_alloc, World.heap_size_drew, World.heap_size_setCell]); omega)).trans ((frozen_alloc_lt0 _ _ (p := ⟨w.heap.size, 3, none⟩) z1).trans ((b1.frozen (p := ⟨w.heap.size, 3, none⟩) (by (try simp only [World.heap_size_alloc, World.heap_size_drew, World.heap_size_setCell]); omega)).trans (by simp)))
          have m4 : w3.cell? ⟨w.heap.size, 4, none⟩ = some (.int .i64 0) := (hq.cell (p := ⟨w.heap.size, 4, none⟩) (by (try simp only [World.heap_size_alloc, World.heap_size_drew, World.heap_size_setCell]); omega)).trans ((World.cell?_alloc_lt _ _ _ z1).trans ((b1.cell (p := ⟨w.heap.size, 4, none⟩) (by (try simp only [World.heap_size_alloc, World.heap_size_drew, World.heap_size_setCell]); omega)).trans (by simp)))
          have n4 : w3.frozen? ⟨w.heap.size, 4, none⟩ = false := (hq.frozen (p := ⟨w.heap.size, 4, none⟩) (by (try simp only [World.heap_size_alloc, World.heap_size_drew, World.heap_size_setCell]); omega)).trans ((frozen_alloc_lt0 _ _ (p := ⟨w.heap.size, 4, none⟩) z1).trans ((b1.frozen (p := ⟨w.heap.size, 4, none⟩) (by (try simp only [World.heap_size_alloc, World.heap_size_drew, World.heap_size_setCell]); omega)).trans (by simp)))
          have m5 : w3.cell? ⟨w.heap.size, 5, none⟩ = some (.int .i64 0) := (hq.cell (p := ⟨w.heap.size, 5, none⟩) (by (try simp only [World.heap_size_alloc, World.heap_size_drew, World.heap_size_setCell]); omega)).trans ((World.cell?_alloc_lt _ _ _ z1).trans ((b1.cell (p := ⟨w.heap.size, 5, none⟩) (by (try simp only [World.heap_size_alloc, World.heap_size_drew, World.heap_size_setCell]); omega)).trans (by simp)))
          have n5 : w3.frozen? ⟨w.heap.size, 5, none⟩ = false := (hq.frozen (p := ⟨w.heap.size, 5, none⟩) (by (try simp only [World.heap_size_alloc, World.heap_size_drew, World.heap_size_setCell]); omega)).trans ((frozen_alloc_lt0 _ _ (p := ⟨w.heap.size, 5, none⟩) z1).trans ((b1.frozen (p := ⟨w.heap.size, 5, none⟩) (by (try simp only [World.heap_size_alloc, World.heap_size_drew, World.heap_size_setCell]); omega)).trans (by simp)))
          have m6 : w3.cell? ⟨w.heap.size, 6, none⟩ = some (.int .i64 0) := (hq.cell (p := ⟨w.heap.size, 6, none⟩) (by (try simp only [World.heap_size_alloc, World.heap_size_drew, World.heap_size_setCell]); omega)).trans ((World.cell?_alloc_lt _ _ _ z1).trans ((b1.cell (p := ⟨w.heap.size, 6, none⟩) (by (try simp only [World.heap_size_alloc, World.heap_size_drew, World.heap_size_setCell]); omega)).trans (by simp)))
          have n6 : w3.frozen? ⟨w.heap.size, 6, none⟩ = false := (hq.frozen (p := ⟨w.heap.size, 6, none⟩) (by (try simp only [World.heap_size_alloc, World.heap_size_drew, World.heap_size_setCell]); omega)).trans ((frozen_alloc_lt0 _ _ (p := ⟨w.heap.size, 6, none⟩) z1).trans ((b1.frozen (p := ⟨w.heap.size, 6, none⟩) (by (try simp only [World.heap_size_alloc, World.heap_size_drew, World.heap_size_setCell]); omega)).trans (by simp)))
          have m7 : w3.cell? ⟨w.heap.size, 7, none⟩ = some (.int .i64 0) := (hq.cell (p := ⟨w.heap.size, 7, none⟩) (by (try simp only [World.heap_size_alloc, World.heap_size_drew, World.heap_size_setCell]); omega)).trans ((World.cell?_alloc_lt _ _ _ z1).trans ((b1.cell (p := ⟨w.heap.size, 7, none⟩) (by (try simp only [World.heap_size_alloc, World.heap_size_drew, World.heap_size_setCell]); omega)).trans (by simp)))
          have n7 : w3.frozen? ⟨w.heap.size, 7, none⟩ = false := (hq.frozen (p := ⟨w.heap.size, 7, none⟩) (by (try simp only [World.heap_size_alloc, World.heap_size_drew, World.heap_size_setCell]); omega)).trans ((frozen_alloc_lt0 _ _ (p := ⟨w.heap.size, 7, none⟩) z1).trans ((b1.frozen (p := ⟨w.heap.size, 7, none⟩) (by (try simp only [World.heap_size_alloc, World.heap_size_drew, World.heap_size_setCell]); omega)).trans (by simp)))
          have m8 : w3.cell? ⟨w.heap.size, 8, none⟩ = some (.int .i64 0) := (hq.cell (p := ⟨w.heap.size, 8, none⟩) (by (try simp only [World.heap_size_alloc, World.heap_size_drew, World.heap_size_setCell]); omega)).trans ((World.cell?_alloc_lt _ _ _ z1).trans ((b1.cell (p := ⟨w.heap.size, 8, none⟩) (by (try simp only [World.heap_size_alloc, World.heap_size_drew, World.heap_size_setCell]); omega)).trans (by simp)))
          have n8 : w3.frozen? ⟨w.heap.size, 8, none⟩ = false := (hq.frozen (p := ⟨w.heap.size, 8, none⟩) (by (try simp only [World.heap_size_alloc, World.heap_size_drew, World.heap_size_setCell]); omega)).trans ((frozen_alloc_lt0 _ _ (p := ⟨w.heap.size, 8, none⟩) z1).trans ((b1.frozen (p := ⟨w.heap.size, 8, none⟩) (by (try simp only [World.heap_size_alloc, World.heap_size_drew, World.heap_size_setCell]); omega)).trans (by simp)))
          go_wp2_with fail
          refine bodyPost_ret (v := .tuple #[.agg #[.int .i64 0, .int .i64 0, .int .i64 0, .int .i64 0, .int .i64 0, .int .i64 0, .int .i64 0, .int .i64 0, .int .i64 0], .bool false]) (by simp [results, Try.results24, go_sem, m0, n0, m1, n1, m2, n2, m3, n3, m4, n4, m5, n5, m6, n6, m7, n7, m8, n8]) rfl ⟨rfl, ?_⟩
          (repeat' (first | with_reducible exact Below.refl _ _ | with_reducible assumption | with_reducible refine Below.drew ?_ | with_reducible refine Below.alloc ?_ ?_ _ | with_reducible refine Below.setCell ?_ ?_ _ | with_reducible refine Below.trans ?_ (Below.mono (by assumption) ?_) | ((try simp only [World.heap_size_alloc, World.heap_size_drew, World.heap_size_setCell]); omega)))
      · rw [rowSlot_bad (by simp [e9])]
        have d9 : (x9 != x0) = true := by simpa using e9
        clear e9
        have CO : ∀ W A n c lo hi, Sl W lo hi 1 A n c [x0, x1, x2, x3, x4, x5, x6, x7, x8] → Calls Try.prog 78 #[.slice A n c] W fun e w' => e = .returned (.tuple #[.agg #[.int .i64 x0, .int .i64 x1, .int .i64 x2, .int .i64 x3, .int .i64 x4, .int .i64 x5, .int .i64 x6, .int .i64 x7, .int .i64 x8], .bool true]) ∧ Below W.heap.size W w' := fun W A n c lo hi s => by
          have h7 := rowEntry_any A n c lo hi _ W s
          unfold EntryBRes at h7
          rw [rowEntry_ok hok] at h7
          exact h7
        have HO := Lib.hid CO
        clear CO hok
        have hwi : Below hi w (w.alloc (.cells #[.int .i64 0, .int .i64 0, .int .i64 0, .int .i64 0, .int .i64 0, .int .i64 0, .int .i64 0, .int .i64 0, .int .i64 0] 32)) := ((Below.refl _ _).alloc hmin _)
        go_enter Try.func24, Try.ntmps24
        go_wp2_with fail
        (with_reducible refine (HO.out _ _ _ _ _ _ (H9.out.below (B := hi) (by (repeat' (first | with_reducible exact Below.refl _ _ | with_reducible assumption | with_reducible refine Below.drew ?_ | with_reducible refine Below.alloc ?_ ?_ _ | with_reducible refine Below.setCell ?_ ?_ _ | with_reducible refine Below.trans ?_ (Below.mono (by assumption) ?_) | ((try simp only [World.heap_size_alloc, World.heap_size_drew, World.heap_size_setCell]); omega)))) (Nat.le_refl _))).mono ?_); rintro _ w1 ⟨rfl, b1⟩
        have y1 := b1.size
        (try simp only [World.heap_size_alloc, World.heap_size_drew] at y1)
        have z1 : w.heap.size < w1.heap.size := by omega
        have hz1 : w.heap.size < w1.heap.size := z1
        have hg1 : g < w1.heap.size := by omega
        have hw1 : Below w.heap.size w w1 := ((Below.refl _ _).alloc (Nat.le_refl _) _).trans (b1.mono (by (try simp only [World.heap_size_alloc, World.heap_size_drew, World.heap_size_setCell]); omega))
        have v9 : (w1.alloc (.cells #[.int .i64 x0, .int .i64 x1, .int .i64 x2, .int .i64 x3, .int .i64 x4, .int .i64 x5, .int .i64 x6, .int .i64 x7, .int .i64 x8] 32)).cell? ⟨g, off + 9, none⟩ = some (.int .i64 x9) := (World.cell?_alloc_lt _ _ _ hg1).trans ((hw1.cell (p := ⟨g, off + 9, none⟩) hg).trans k9)
        have f9 := fun d os => cell_regrown v9 d os
        have v10 : (w1.alloc (.cells #[.int .i64 x0, .int .i64 x1, .int .i64 x2, .int .i64 x3, .int .i64 x4, .int .i64 x5, .int .i64 x6, .int .i64 x7, .int .i64 x8] 32)).cell? ⟨g, off + 10, none⟩ = some (.int .i64 x10) := (World.cell?_alloc_lt _ _ _ hg1).trans ((hw1.cell (p := ⟨g, off + 10, none⟩) hg).trans k10)
        have f10 := fun d os => cell_regrown v10 d os
        have u0 : (w1.alloc (.cells #[.int .i64 x0, .int .i64 x1, .int .i64 x2, .int .i64 x3, .int .i64 x4, .int .i64 x5, .int .i64 x6, .int .i64 x7, .int .i64 x8] 32)).cell? ⟨w1.heap.size, 0, none⟩ = some (.int .i64 x0) := by simp
        have fu := fun d os => cell_regrown u0 d os
        go_wp2_with fail
        refine wp_region_quiet_below (by kernel_rfl) (by kernel_rfl) ?_; (repeat (first | go_big_quiet_step (fail) | quiet_step (fail))); refine wpQuiet_nil ?_; intro _ hw'; obtain ⟨⟨nq, osq⟩, hw''⟩ := hw'; subst hw''; have hq := below_regrown (w1.alloc (.cells #[.int .i64 x0, .int .i64 x1, .int .i64 x2, .int .i64 x3, .int .i64 x4, .int .i64 x5, .int .i64 x6, .int .i64 x7, .int .i64 x8] 32)) nq osq; generalize Sort.grow (redrawn (w1.alloc (.cells #[.int .i64 x0, .int .i64 x1, .int .i64 x2, .int .i64 x3, .int .i64 x4, .int .i64 x5, .int .i64 x6, .int .i64 x7, .int .i64 x8] 32)) nq) osq = w3 at *
        have y3 := hq.size
        simp only [World.heap_size_alloc] at y3
        have z3 : w.heap.size < w3.heap.size := by omega
        have hw3 : Below w.heap.size w w3 := hw1.trans (((Below.refl _ _).alloc (Nat.le_of_lt z1) _).trans (hq.mono (by (try simp only [World.heap_size_alloc, World.heap_size_drew, World.heap_size_setCell]); omega)))
        have m0 : w3.cell? ⟨w.heap.size, 0, none⟩ = some (.int .i64 0) := (hq.cell (p := ⟨w.heap.size, 0, none⟩) (by (try simp only [World.heap_size_alloc, World.heap_size_drew, World.heap_size_setCell]); omega)).trans ((World.cell?_alloc_lt _ _ _ z1).trans ((b1.cell (p := ⟨w.heap.size, 0, none⟩) (by (try simp only [World.heap_size_alloc, World.heap_size_drew, World.heap_size_setCell]); omega)).trans (by simp)))
        have n0 : w3.frozen? ⟨w.heap.size, 0, none⟩ = false := (hq.frozen (p := ⟨w.heap.size, 0, none⟩) (by (try simp only [World.heap_size_alloc, World.heap_size_drew, World.heap_size_setCell]); omega)).trans ((frozen_alloc_lt0 _ _ (p := ⟨w.heap.size, 0, none⟩) z1).trans ((b1.frozen (p := ⟨w.heap.size, 0, none⟩) (by (try simp only [World.heap_size_alloc, World.heap_size_drew, World.heap_size_setCell]); omega)).trans (by simp)))
        have m1 : w3.cell? ⟨w.heap.size, 1, none⟩ = some (.int .i64 0) := (hq.cell (p := ⟨w.heap.size, 1, none⟩) (by (try simp only [World.heap_size_alloc, World.heap_size_drew, World.heap_size_setCell]); omega)).trans ((World.cell?_alloc_lt _ _ _ z1).trans ((b1.cell (p := ⟨w.heap.size, 1, none⟩) (by (try simp only [World.heap_size_alloc, World.heap_size_drew, World.heap_size_setCell]); omega)).trans (by simp)))
        have n1 : w3.frozen? ⟨w.heap.size, 1, none⟩ = false := (hq.frozen (p := ⟨w.heap.size, 1, none⟩) (by (try simp only [World.heap_size_alloc, World.heap_size_drew, World.heap_size_setCell]); omega)).trans ((frozen_alloc_lt0 _ _ (p := ⟨w.heap.size, 1, none⟩) z1).trans ((b1.frozen (p := ⟨w.heap.size, 1, none⟩) (by (try simp only [World.heap_size_alloc, World.heap_size_drew, World.heap_size_setCell]); omega)).trans (by simp)))
        have m2 : w3.cell? ⟨w.heap.size, 2, none⟩ = some (.int .i64 0) := (hq.cell (p := ⟨w.heap.size, 2, none⟩) (by (try simp only [World.heap_size_alloc, World.heap_size_drew, World.heap_size_setCell]); omega)).trans ((World.cell?_alloc_lt _ _ _ z1).trans ((b1.cell (p := ⟨w.heap.size, 2, none⟩) (by (try simp only [World.heap_size_alloc, World.heap_size_drew, World.heap_size_setCell]); omega)).trans (by simp)))
        have n2 : w3.frozen? ⟨w.heap.size, 2, none⟩ = false := (hq.frozen (p := ⟨w.heap.size, 2, none⟩) (by (try simp only [World.heap_size_alloc, World.heap_size_drew, World.heap_size_setCell]); omega)).trans ((frozen_alloc_lt0 _ _ (p := ⟨w.heap.size, 2, none⟩) z1).trans ((b1.frozen (p := ⟨w.heap.size, 2, none⟩) (by (try simp only [World.heap_size_alloc, World.heap_size_drew, World.heap_size_setCell]); omega)).trans (by simp)))
        have m3 : w3.cell? ⟨w.heap.size, 3, none⟩ = some (.int .i64 0) := (hq.cell (p := ⟨w.heap.size, 3, none⟩) (by (try simp only [World.heap_size_alloc, World.heap_size_drew, World.heap_size_setCell]); omega)).trans ((World.cell?_alloc_lt _ _ _ z1).trans ((b1.cell (p := ⟨w.heap.size, 3, none⟩) (by (try simp only [World.heap_size_alloc, World.heap_size_drew, World.heap_size_setCell]); omega)).trans (by simp)))
        have n3 : w3.frozen? ⟨w.heap.size, 3, none⟩ = false := (hq.frozen (p := ⟨w.heap.size, 3, none⟩) (by (try simp only [World.heap_size_alloc, World.heap_size_drew, World.heap_size_setCell]); omega)).trans ((frozen_alloc_lt0 _ _ (p := ⟨w.heap.size, 3, none⟩) z1).trans ((b1.frozen (p := ⟨w.heap.size, 3, none⟩) (by (try simp only [World.heap_size_alloc, World.heap_size_drew, World.heap_size_setCell]); omega)).trans (by simp)))
        have m4 : w3.cell? ⟨w.heap.size, 4, none⟩ = some (.int .i64 0) := (hq.cell (p := ⟨w.heap.size, 4, none⟩) (by (try simp only [World.heap_size_alloc, World.heap_size_drew, World.heap_size_setCell]); omega)).trans ((World.cell?_alloc_lt _ _ _ z1).trans ((b1.cell (p := ⟨w.heap.size, 4, none⟩) (by (try simp only [World.heap_size_alloc, World.heap_size_drew, World.heap_size_setCell]); omega)).trans (by simp)))
        have n4 : w3.frozen? ⟨w.heap.size, 4, none⟩ = false := (hq.frozen (p := ⟨w.heap.size, 4, none⟩) (by (try simp only [World.heap_size_alloc, World.heap_size_drew, World.heap_size_setCell]); omega)).trans ((frozen_alloc_lt0 _ _ (p := ⟨w.heap.size, 4, none⟩) z1).trans ((b1.frozen (p := ⟨w.heap.size, 4, none⟩) (by (try simp only [World.heap_size_alloc, World.heap_size_drew, World.heap_size_setCell]); omega)).trans (by simp)))
        have m5 : w3.cell? ⟨w.heap.size, 5, none⟩ = some (.int .i64 0) := (hq.cell (p := ⟨w.heap.size, 5, none⟩) (by (try simp only [World.heap_size_alloc, World.heap_size_drew, World.heap_size_setCell]); omega)).trans ((World.cell?_alloc_lt _ _ _ z1).trans ((b1.cell (p := ⟨w.heap.size, 5, none⟩) (by (try simp only [World.heap_size_alloc, World.heap_size_drew, World.heap_size_setCell]); omega)).trans (by simp)))
        have n5 : w3.frozen? ⟨w.heap.size, 5, none⟩ = false := (hq.frozen (p := ⟨w.heap.size, 5, none⟩) (by (try simp only [World.heap_size_alloc, World.heap_size_drew, World.heap_size_setCell]); omega)).trans ((frozen_alloc_lt0 _ _ (p := ⟨w.heap.size, 5, none⟩) z1).trans ((b1.frozen (p := ⟨w.heap.size, 5, none⟩) (by (try simp only [World.heap_size_alloc, World.heap_size_drew, World.heap_size_setCell]); omega)).trans (by simp)))
        have m6 : w3.cell? ⟨w.heap.size, 6, none⟩ = some (.int .i64 0) := (hq.cell (p := ⟨w.heap.size, 6, none⟩) (by (try simp only [World.heap_size_alloc, World.heap_size_drew, World.heap_size_setCell]); omega)).trans ((World.cell?_alloc_lt _ _ _ z1).trans ((b1.cell (p := ⟨w.heap.size, 6, none⟩) (by (try simp only [World.heap_size_alloc, World.heap_size_drew, World.heap_size_setCell]); omega)).trans (by simp)))
        have n6 : w3.frozen? ⟨w.heap.size, 6, none⟩ = false := (hq.frozen (p := ⟨w.heap.size, 6, none⟩) (by (try simp only [World.heap_size_alloc, World.heap_size_drew, World.heap_size_setCell]); omega)).trans ((frozen_alloc_lt0 _ _ (p := ⟨w.heap.size, 6, none⟩) z1).trans ((b1.frozen (p := ⟨w.heap.size, 6, none⟩) (by (try simp only [World.heap_size_alloc, World.heap_size_drew, World.heap_size_setCell]); omega)).trans (by simp)))
        have m7 : w3.cell? ⟨w.heap.size, 7, none⟩ = some (.int .i64 0) := (hq.cell (p := ⟨w.heap.size, 7, none⟩) (by (try simp only [World.heap_size_alloc, World.heap_size_drew, World.heap_size_setCell]); omega)).trans ((World.cell?_alloc_lt _ _ _ z1).trans ((b1.cell (p := ⟨w.heap.size, 7, none⟩) (by (try simp only [World.heap_size_alloc, World.heap_size_drew, World.heap_size_setCell]); omega)).trans (by simp)))
        have n7 : w3.frozen? ⟨w.heap.size, 7, none⟩ = false := (hq.frozen (p := ⟨w.heap.size, 7, none⟩) (by (try simp only [World.heap_size_alloc, World.heap_size_drew, World.heap_size_setCell]); omega)).trans ((frozen_alloc_lt0 _ _ (p := ⟨w.heap.size, 7, none⟩) z1).trans ((b1.frozen (p := ⟨w.heap.size, 7, none⟩) (by (try simp only [World.heap_size_alloc, World.heap_size_drew, World.heap_size_setCell]); omega)).trans (by simp)))
        have m8 : w3.cell? ⟨w.heap.size, 8, none⟩ = some (.int .i64 0) := (hq.cell (p := ⟨w.heap.size, 8, none⟩) (by (try simp only [World.heap_size_alloc, World.heap_size_drew, World.heap_size_setCell]); omega)).trans ((World.cell?_alloc_lt _ _ _ z1).trans ((b1.cell (p := ⟨w.heap.size, 8, none⟩) (by (try simp only [World.heap_size_alloc, World.heap_size_drew, World.heap_size_setCell]); omega)).trans (by simp)))
        have n8 : w3.frozen? ⟨w.heap.size, 8, none⟩ = false := (hq.frozen (p := ⟨w.heap.size, 8, none⟩) (by (try simp only [World.heap_size_alloc, World.heap_size_drew, World.heap_size_setCell]); omega)).trans ((frozen_alloc_lt0 _ _ (p := ⟨w.heap.size, 8, none⟩) z1).trans ((b1.frozen (p := ⟨w.heap.size, 8, none⟩) (by (try simp only [World.heap_size_alloc, World.heap_size_drew, World.heap_size_setCell]); omega)).trans (by simp)))
        go_wp2_with fail
        refine bodyPost_ret (v := .tuple #[.agg #[.int .i64 0, .int .i64 0, .int .i64 0, .int .i64 0, .int .i64 0, .int .i64 0, .int .i64 0, .int .i64 0, .int .i64 0], .bool false]) (by simp [results, Try.results24, go_sem, m0, n0, m1, n1, m2, n2, m3, n3, m4, n4, m5, n5, m6, n6, m7, n7, m8, n8]) rfl ⟨rfl, ?_⟩
        (repeat' (first | with_reducible exact Below.refl _ _ | with_reducible assumption | with_reducible refine Below.drew ?_ | with_reducible refine Below.alloc ?_ ?_ _ | with_reducible refine Below.setCell ?_ ?_ _ | with_reducible refine Below.trans ?_ (Below.mono (by assumption) ?_) | ((try simp only [World.heap_size_alloc, World.heap_size_drew, World.heap_size_setCell]); omega)))
  · have hl : zs.length ≠ 11 := by have := h.len; omega
    rw [rowSlot_none hl]
    have hn : n ≤ 9223372036854775807 := Nat.le_trans h.cap h.big
    clear hl h
    go_enter Try.func24, Try.ntmps24
    go_wp2
    refine bodyPost_ret (v := .tuple #[.agg #[.int .i64 0, .int .i64 0, .int .i64 0, .int .i64 0, .int .i64 0, .int .i64 0, .int .i64 0, .int .i64 0, .int .i64 0], .bool false]) (by simp [results, Try.results24, go_sem]) rfl ⟨rfl, ?_⟩
    (repeat' (first | with_reducible exact Below.refl _ _ | with_reducible assumption | with_reducible refine Below.drew ?_ | with_reducible refine Below.alloc ?_ ?_ _ | with_reducible refine Below.setCell ?_ ?_ _ | with_reducible refine Below.trans ?_ (Below.mono (by assumption) ?_) | ((try simp only [World.heap_size_alloc, World.heap_size_drew, World.heap_size_setCell]); omega)))
end Go.Proofs.Ytgnilmdaegnaaaa
