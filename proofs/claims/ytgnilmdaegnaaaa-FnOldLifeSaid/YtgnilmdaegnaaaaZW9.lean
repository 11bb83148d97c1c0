/- The laws' random entries: contracts of w9Op and w9List. No conditions. -/
import Derived.Test.YtgnilmdaegnaaaaZCode
import Derived.Test.YtgnilmdaegnaaaaZEnts
set_option linter.unusedSimpArgs false
set_option linter.unusedVariables false
namespace Go.Proofs.Ytgnilmdaegnaaaa
open Go.RowKit
theorem infoEntry0 : (Try.prog.info? 32).map (fun i => (i.zero, i.size, i.bytes)) = some (some (.agg #[.int .i64 0, .int .i64 0, .int .i64 0, .int .i64 0, .int .i64 0, .int .i64 0, .int .i64 0, .int .i64 0, .int .i64 0]), 9, 72) := by kernel_rfl
theorem ucell {lo up : Nat} {w w' : World} (hu : Upd lo up w w') {b : Nat} (hb : b < w.heap.size) (ho : b < lo ∨ up ≤ b) : (∀ o, w'.cell? ⟨b, o, none⟩ = w.cell? ⟨b, o, none⟩) ∧ (∀ o, w'.frozen? ⟨b, o, none⟩ = w.frozen? ⟨b, o, none⟩) :=
  ⟨fun o => World.cell?_of_block (w := w) (a := ⟨b, o, none⟩) (hu.block b hb ho), fun o => World.frozen?_of_block (w := w) (a := ⟨b, o, none⟩) (hu.block b hb ho)⟩
theorem set5_upd (w : World) (R : Nat) (v0 v1 v2 v3 v4 : Value) : Upd R (R + 1) w (((((w.setCell ⟨R, 0, none⟩ v0).setCell ⟨R, 1, none⟩ v1).setCell ⟨R, 2, none⟩ v2).setCell ⟨R, 3, none⟩ v3).setCell ⟨R, 4, none⟩ v4) :=
  (((((Upd.refl R (R + 1) w).setCell (p := ⟨R, 0, none⟩) (Nat.le_refl _) (Nat.lt_succ_self _) _).setCell (p := ⟨R, 1, none⟩) (Nat.le_refl _) (Nat.lt_succ_self _) _).setCell (p := ⟨R, 2, none⟩) (Nat.le_refl _) (Nat.lt_succ_self _) _).setCell (p := ⟨R, 3, none⟩) (Nat.le_refl _) (Nat.lt_succ_self _) _).setCell (p := ⟨R, 4, none⟩) (Nat.le_refl _) (Nat.lt_succ_self _) _
theorem Upd.past {lo up R : Nat} {w wK w' : World} (h : Upd lo up w wK) (hS : Upd R (R + 1) wK w') (hR : w.heap.size ≤ R) : Upd lo up w w' :=
  ⟨hS.os.trans h.os, hS.tape.trans h.tape, hS.output.trans h.output, Nat.le_trans h.size hS.size, fun b hb ho => (hS.block b (Nat.lt_of_lt_of_le hb h.size) (.inl (by omega))).trans (h.block b hb ho)⟩
set_option maxRecDepth 100000 in
set_option maxHeartbeats 4000000 in
theorem w9Op_any (A : Option Addr) (n c hi g : Nat) (w : World) (hd : DiceAt w hi g A n c) :
    Calls Try.prog 106 #[.pointer (some ⟨g, 0, none⟩)] w fun e w' => ∃ o : OpD, e = .returned (.agg #[.int .i64 o.kind, .int .i64 o.a, .int .i64 o.b, .int .i64 o.c, .int .i64 o.d]) ∧ opOk o = true ∧ DiceAt w' hi g A n c ∧ Upd g (g + 1) w w' := by
  have hg : g < w.heap.size := World.block_lt_of_cell? w _ hd.c0
  have hu0 : Upd g (g + 1) w (w.alloc (.cells #[.int .i64 0, .int .i64 0, .int .i64 0, .int .i64 0, .int .i64 0] 30)) := (Upd.refl _ _ _).alloc _
  have hd0 : DiceAt (w.alloc (.cells #[.int .i64 0, .int .i64 0, .int .i64 0, .int .i64 0, .int .i64 0] 30)) hi g A n c := hd.below (B := w.heap.size) (by (repeat' (first | with_reducible exact Below.refl _ _ | with_reducible assumption | with_reducible refine Below.drew ?_ | with_reducible refine Below.alloc ?_ ?_ _ | with_reducible refine Below.setCell ?_ ?_ _ | with_reducible refine Below.trans ?_ (Below.mono (by assumption) ?_) | ((try simp only [World.heap_size_alloc, World.heap_size_drew, World.heap_size_setCell]); omega)))) hg
  go_enter Try.func106, Try.ntmps106
  go_wp2_with fail
  (with_reducible refine (below_any _ _ _ _ _ 5 _ (by omega) (by omega) hd0).mono ?_); rintro _ w1 ⟨x, rfl, x0, x1, hd1, hu1⟩
  obtain ⟨k1, f1⟩ := ucell hu1 (b := w.heap.size) (by (try simp only [World.heap_size_alloc, World.heap_size_drew, World.heap_size_setCell]); omega) (by omega)
  have y1 := hu1.size
  (try simp only [World.heap_size_alloc] at y1)
  have hx : x = 0 ∨ x = 1 ∨ x = 2 ∨ x = 3 ∨ x = 4 := by omega
  rcases hx with rfl | rfl | rfl | rfl | rfl
  · go_wp2_with fail
    (with_reducible refine (below_any _ _ _ _ _ 10 _ (by omega) (by omega) hd1).mono ?_); rintro _ w2 ⟨d0, rfl, l0, h0, hd2, hu2⟩
    obtain ⟨k2, f2⟩ := ucell hu2 (b := w.heap.size) (by omega) (by omega)
    have y2 := hu2.size
    have c0_ : w2.cell? ⟨w.heap.size, 0, none⟩ = some (.int .i64 0) := by rw [k2, k1]; simp
    have e0_ : w2.frozen? ⟨w.heap.size, 0, none⟩ = false := by rw [f2, f1]; simp
    have c1_ : w2.cell? ⟨w.heap.size, 1, none⟩ = some (.int .i64 0) := by rw [k2, k1]; simp
    have e1_ : w2.frozen? ⟨w.heap.size, 1, none⟩ = false := by rw [f2, f1]; simp
    have c2_ : w2.cell? ⟨w.heap.size, 2, none⟩ = some (.int .i64 0) := by rw [k2, k1]; simp
    have e2_ : w2.frozen? ⟨w.heap.size, 2, none⟩ = false := by rw [f2, f1]; simp
    have c3_ : w2.cell? ⟨w.heap.size, 3, none⟩ = some (.int .i64 0) := by rw [k2, k1]; simp
    have e3_ : w2.frozen? ⟨w.heap.size, 3, none⟩ = false := by rw [f2, f1]; simp
    have c4_ : w2.cell? ⟨w.heap.size, 4, none⟩ = some (.int .i64 0) := by rw [k2, k1]; simp
    have e4_ : w2.frozen? ⟨w.heap.size, 4, none⟩ = false := by rw [f2, f1]; simp
    clear k1 f1 k2 f2
    go_wp2_with fail
    refine bodyPost_ret (v := .agg #[.int .i64 (2), .int .i64 (d0), .int .i64 (0), .int .i64 (0), .int .i64 (0)]) (by simp [results, Try.results106, go_sem, c0_, c1_, c2_, c3_, c4_]) rfl ?_
    exact ⟨⟨2, d0, 0, 0, 0⟩, rfl, by simp [opOk, btw]; omega, hd2.upd (set5_upd _ _ _ _ _ _ _) (.inl hg), Upd.past (((hu0).trans hu1).trans hu2) (set5_upd _ _ _ _ _ _ _) (Nat.le_refl _)⟩
  · go_wp2_with fail
    (with_reducible refine (below_any _ _ _ _ _ 20 _ (by omega) (by omega) hd1).mono ?_); rintro _ w2 ⟨d0, rfl, l0, h0, hd2, hu2⟩
    obtain ⟨k2, f2⟩ := ucell hu2 (b := w.heap.size) (by omega) (by omega)
    have y2 := hu2.size
    go_wp2_with fail
    (with_reducible refine (below_any _ _ _ _ _ 90 _ (by omega) (by omega) hd2).mono ?_); rintro _ w3 ⟨d1, rfl, l1, h1, hd3, hu3⟩
    obtain ⟨k3, f3⟩ := ucell hu3 (b := w.heap.size) (by omega) (by omega)
    have y3 := hu3.size
    go_wp2_with fail
    (with_reducible refine (below_any _ _ _ _ _ 10 _ (by omega) (by omega) hd3).mono ?_); rintro _ w4 ⟨d2, rfl, l2, h2, hd4, hu4⟩
    obtain ⟨k4, f4⟩ := ucell hu4 (b := w.heap.size) (by omega) (by omega)
    have y4 := hu4.size
    go_wp2_with fail
    (with_reducible refine (below_any _ _ _ _ _ 1000 _ (by omega) (by omega) hd4).mono ?_); rintro _ w5 ⟨d3, rfl, l3, h3, hd5, hu5⟩
    obtain ⟨k5, f5⟩ := ucell hu5 (b := w.heap.size) (by omega) (by omega)
    have y5 := hu5.size
    have c0_ : w5.cell? ⟨w.heap.size, 0, none⟩ = some (.int .i64 0) := by rw [k5, k4, k3, k2, k1]; simp
    have e0_ : w5.frozen? ⟨w.heap.size, 0, none⟩ = false := by rw [f5, f4, f3, f2, f1]; simp
    have c1_ : w5.cell? ⟨w.heap.size, 1, none⟩ = some (.int .i64 0) := by rw [k5, k4, k3, k2, k1]; simp
    have e1_ : w5.frozen? ⟨w.heap.size, 1, none⟩ = false := by rw [f5, f4, f3, f2, f1]; simp
    have c2_ : w5.cell? ⟨w.heap.size, 2, none⟩ = some (.int .i64 0) := by rw [k5, k4, k3, k2, k1]; simp
    have e2_ : w5.frozen? ⟨w.heap.size, 2, none⟩ = false := by rw [f5, f4, f3, f2, f1]; simp
    have c3_ : w5.cell? ⟨w.heap.size, 3, none⟩ = some (.int .i64 0) := by rw [k5, k4, k3, k2, k1]; simp
    have e3_ : w5.frozen? ⟨w.heap.size, 3, none⟩ = false := by rw [f5, f4, f3, f2, f1]; simp
    have c4_ : w5.cell? ⟨w.heap.size, 4, none⟩ = some (.int .i64 0) := by rw [k5, k4, k3, k2, k1]; simp
    have e4_ : w5.frozen? ⟨w.heap.size, 4, none⟩ = false := by rw [f5, f4, f3, f2, f1]; simp
    clear k1 f1 k2 f2 k3 f3 k4 f4 k5 f5
    go_wp2_with fail
    refine bodyPost_ret (v := .agg #[.int .i64 (3), .int .i64 (1 + d0), .int .i64 (d1), .int .i64 (d2), .int .i64 (d3)]) (by simp [results, Try.results106, go_sem, c0_, c1_, c2_, c3_, c4_]) rfl ?_
    exact ⟨⟨3, 1 + d0, d1, d2, d3⟩, rfl, by simp [opOk, btw]; omega, hd5.upd (set5_upd _ _ _ _ _ _ _) (.inl hg), Upd.past ((((((hu0).trans hu1).trans hu2).trans hu3).trans hu4).trans hu5) (set5_upd _ _ _ _ _ _ _) (Nat.le_refl _)⟩
  · go_wp2_with fail
    (with_reducible refine (below_any _ _ _ _ _ 20 _ (by omega) (by omega) hd1).mono ?_); rintro _ w2 ⟨d0, rfl, l0, h0, hd2, hu2⟩
    obtain ⟨k2, f2⟩ := ucell hu2 (b := w.heap.size) (by omega) (by omega)
    have y2 := hu2.size
    go_wp2_with fail
    (with_reducible refine (below_any _ _ _ _ _ 5 _ (by omega) (by omega) hd2).mono ?_); rintro _ w3 ⟨d1, rfl, l1, h1, hd3, hu3⟩
    obtain ⟨k3, f3⟩ := ucell hu3 (b := w.heap.size) (by omega) (by omega)
    have y3 := hu3.size
    have c0_ : w3.cell? ⟨w.heap.size, 0, none⟩ = some (.int .i64 0) := by rw [k3, k2, k1]; simp
    have e0_ : w3.frozen? ⟨w.heap.size, 0, none⟩ = false := by rw [f3, f2, f1]; simp
    have c1_ : w3.cell? ⟨w.heap.size, 1, none⟩ = some (.int .i64 0) := by rw [k3, k2, k1]; simp
    have e1_ : w3.frozen? ⟨w.heap.size, 1, none⟩ = false := by rw [f3, f2, f1]; simp
    have c2_ : w3.cell? ⟨w.heap.size, 2, none⟩ = some (.int .i64 0) := by rw [k3, k2, k1]; simp
    have e2_ : w3.frozen? ⟨w.heap.size, 2, none⟩ = false := by rw [f3, f2, f1]; simp
    have c3_ : w3.cell? ⟨w.heap.size, 3, none⟩ = some (.int .i64 0) := by rw [k3, k2, k1]; simp
    have e3_ : w3.frozen? ⟨w.heap.size, 3, none⟩ = false := by rw [f3, f2, f1]; simp
    have c4_ : w3.cell? ⟨w.heap.size, 4, none⟩ = some (.int .i64 0) := by rw [k3, k2, k1]; simp
    have e4_ : w3.frozen? ⟨w.heap.size, 4, none⟩ = false := by rw [f3, f2, f1]; simp
    clear k1 f1 k2 f2 k3 f3
    go_wp2_with fail
    refine bodyPost_ret (v := .agg #[.int .i64 (4), .int .i64 (1 + d0), .int .i64 (d1), .int .i64 (0), .int .i64 (0)]) (by simp [results, Try.results106, go_sem, c0_, c1_, c2_, c3_, c4_]) rfl ?_
    exact ⟨⟨4, 1 + d0, d1, 0, 0⟩, rfl, by simp [opOk, btw]; omega, hd3.upd (set5_upd _ _ _ _ _ _ _) (.inl hg), Upd.past ((((hu0).trans hu1).trans hu2).trans hu3) (set5_upd _ _ _ _ _ _ _) (Nat.le_refl _)⟩
  · go_wp2_with fail
    (with_reducible refine (below_any _ _ _ _ _ 40 _ (by omega) (by omega) hd1).mono ?_); rintro _ w2 ⟨d0, rfl, l0, h0, hd2, hu2⟩
    obtain ⟨k2, f2⟩ := ucell hu2 (b := w.heap.size) (by omega) (by omega)
    have y2 := hu2.size
    have c0_ : w2.cell? ⟨w.heap.size, 0, none⟩ = some (.int .i64 0) := by rw [k2, k1]; simp
    have e0_ : w2.frozen? ⟨w.heap.size, 0, none⟩ = false := by rw [f2, f1]; simp
    have c1_ : w2.cell? ⟨w.heap.size, 1, none⟩ = some (.int .i64 0) := by rw [k2, k1]; simp
    have e1_ : w2.frozen? ⟨w.heap.size, 1, none⟩ = false := by rw [f2, f1]; simp
    have c2_ : w2.cell? ⟨w.heap.size, 2, none⟩ = some (.int .i64 0) := by rw [k2, k1]; simp
    have e2_ : w2.frozen? ⟨w.heap.size, 2, none⟩ = false := by rw [f2, f1]; simp
    have c3_ : w2.cell? ⟨w.heap.size, 3, none⟩ = some (.int .i64 0) := by rw [k2, k1]; simp
    have e3_ : w2.frozen? ⟨w.heap.size, 3, none⟩ = false := by rw [f2, f1]; simp
    have c4_ : w2.cell? ⟨w.heap.size, 4, none⟩ = some (.int .i64 0) := by rw [k2, k1]; simp
    have e4_ : w2.frozen? ⟨w.heap.size, 4, none⟩ = false := by rw [f2, f1]; simp
    clear k1 f1 k2 f2
    go_wp2_with fail
    refine bodyPost_ret (v := .agg #[.int .i64 (5), .int .i64 (1 + d0), .int .i64 (0), .int .i64 (0), .int .i64 (0)]) (by simp [results, Try.results106, go_sem, c0_, c1_, c2_, c3_, c4_]) rfl ?_
    exact ⟨⟨5, 1 + d0, 0, 0, 0⟩, rfl, by simp [opOk, btw]; omega, hd2.upd (set5_upd _ _ _ _ _ _ _) (.inl hg), Upd.past (((hu0).trans hu1).trans hu2) (set5_upd _ _ _ _ _ _ _) (Nat.le_refl _)⟩
  · go_wp2_with fail
    (with_reducible refine (below_any _ _ _ _ _ 10 _ (by omega) (by omega) hd1).mono ?_); rintro _ w2 ⟨d0, rfl, l0, h0, hd2, hu2⟩
    obtain ⟨k2, f2⟩ := ucell hu2 (b := w.heap.size) (by omega) (by omega)
    have y2 := hu2.size
    go_wp2_with fail
    (with_reducible refine (below_any _ _ _ _ _ 1000 _ (by omega) (by omega) hd2).mono ?_); rintro _ w3 ⟨d1, rfl, l1, h1, hd3, hu3⟩
    obtain ⟨k3, f3⟩ := ucell hu3 (b := w.heap.size) (by omega) (by omega)
    have y3 := hu3.size
    have c0_ : w3.cell? ⟨w.heap.size, 0, none⟩ = some (.int .i64 0) := by rw [k3, k2, k1]; simp
    have e0_ : w3.frozen? ⟨w.heap.size, 0, none⟩ = false := by rw [f3, f2, f1]; simp
    have c1_ : w3.cell? ⟨w.heap.size, 1, none⟩ = some (.int .i64 0) := by rw [k3, k2, k1]; simp
    have e1_ : w3.frozen? ⟨w.heap.size, 1, none⟩ = false := by rw [f3, f2, f1]; simp
    have c2_ : w3.cell? ⟨w.heap.size, 2, none⟩ = some (.int .i64 0) := by rw [k3, k2, k1]; simp
    have e2_ : w3.frozen? ⟨w.heap.size, 2, none⟩ = false := by rw [f3, f2, f1]; simp
    have c3_ : w3.cell? ⟨w.heap.size, 3, none⟩ = some (.int .i64 0) := by rw [k3, k2, k1]; simp
    have e3_ : w3.frozen? ⟨w.heap.size, 3, none⟩ = false := by rw [f3, f2, f1]; simp
    have c4_ : w3.cell? ⟨w.heap.size, 4, none⟩ = some (.int .i64 0) := by rw [k3, k2, k1]; simp
    have e4_ : w3.frozen? ⟨w.heap.size, 4, none⟩ = false := by rw [f3, f2, f1]; simp
    clear k1 f1 k2 f2 k3 f3
    go_wp2_with fail
    refine bodyPost_ret (v := .agg #[.int .i64 (1), .int .i64 (d0), .int .i64 (d1), .int .i64 (0), .int .i64 (0)]) (by simp [results, Try.results106, go_sem, c0_, c1_, c2_, c3_, c4_]) rfl ?_
    exact ⟨⟨1, d0, d1, 0, 0⟩, rfl, by simp [opOk, btw]; omega, hd3.upd (set5_upd _ _ _ _ _ _ _) (.inl hg), Upd.past ((((hu0).trans hu1).trans hu2).trans hu3) (set5_upd _ _ _ _ _ _ _) (Nat.le_refl _)⟩
end Go.Proofs.Ytgnilmdaegnaaaa
