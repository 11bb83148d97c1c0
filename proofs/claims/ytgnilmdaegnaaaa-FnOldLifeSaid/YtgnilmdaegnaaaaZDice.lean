/- The laws' dice: numbers that follow from the code. No conditions. -/
import Derived.Test.YtgnilmdaegnaaaaZHelp1
import Derived.Deep.RegionHeld3
import Derived.Lib.QuietBelow
import Derived.IntWalk
import Derived.Laws.BitsLemmas
import Derived.BigQuiet
set_option linter.unusedSimpArgs false
set_option linter.unusedVariables false
namespace Go.Proofs.Ytgnilmdaegnaaaa
open Go.RowKit
/-- The bytes of the code: n of them, readable, in a block below hi. -/
structure CodeAt (w : World) (hi : Nat) (A : Option Addr) (n c : Nat) : Prop where
  cap : n ≤ c
  big : n ≤ 4096
  lie : ∀ j, j < n → ∃ (a : Addr) (b : Int), A = some a ∧ a.block < hi ∧ 0 ≤ b ∧ b ≤ 255 ∧ w.cell? (a.add j) = some (.int .u8 b)
/-- The dice lie in block g. -/
structure DiceAt (w : World) (hi g : Nat) (A : Option Addr) (n c : Nat) : Prop where
  code : CodeAt w hi A n c
  lo : hi ≤ g
  c0 : w.cell? ⟨g, 0, none⟩ = some (.slice A n c)
  at_ : ∃ (i : Nat) (h : Int), i ≤ n ∧ 0 ≤ h ∧ h ≤ 18446744073709551615 ∧ w.cell? ⟨g, 1, none⟩ = some (.int .i64 (i : Nat)) ∧ w.cell? ⟨g, 2, none⟩ = some (.int .u64 h)
  f1 : w.frozen? ⟨g, 1, none⟩ = false
  f2 : w.frozen? ⟨g, 2, none⟩ = false
theorem CodeAt.upd {w w' : World} {hi lo up : Nat} {A : Option Addr} {n c : Nat} (h : CodeAt w hi A n c) (hu : Upd lo up w w') (hl : hi ≤ lo) : CodeAt w' hi A n c :=
  ⟨h.cap, h.big, fun j hj => by
    obtain ⟨a, b, e, h1, h2, h3, h4⟩ := h.lie j hj
    exact ⟨a, b, e, h1, h2, h3, (World.cell?_of_block (w := w) (a := a.add j) (hu.block _ (World.block_lt_of_cell? w _ h4) (by rw [add_block]; omega))).trans h4⟩⟩
theorem DiceAt.upd {w w' : World} {hi g lo up : Nat} {A : Option Addr} {n c : Nat} (h : DiceAt w hi g A n c) (hu : Upd lo up w w') (hl : g < lo ∨ up ≤ hi ∧ lo = up) : DiceAt w' hi g A n c := by
  obtain ⟨hcode, hlo, c0, ⟨i, x, hin, h0, h1, c1, c2⟩, f1, f2⟩ := h
  have hg : w'.heap[g]? = w.heap[g]? := hu.block g (World.block_lt_of_cell? w _ c0) (by omega)
  refine ⟨⟨hcode.cap, hcode.big, fun j hj => ?_⟩, hlo, (World.cell?_of_block (w := w) (a := ⟨g, 0, none⟩) hg).trans c0, ⟨i, x, hin, h0, h1, (World.cell?_of_block (w := w) (a := ⟨g, 1, none⟩) hg).trans c1, (World.cell?_of_block (w := w) (a := ⟨g, 2, none⟩) hg).trans c2⟩, (World.frozen?_of_block (w := w) (a := ⟨g, 1, none⟩) hg).trans f1, (World.frozen?_of_block (w := w) (a := ⟨g, 2, none⟩) hg).trans f2⟩
  obtain ⟨a, b, e, k1, k2, k3, k4⟩ := hcode.lie j hj
  exact ⟨a, b, e, k1, k2, k3, (World.cell?_of_block (w := w) (a := a.add j) (hu.block _ (World.block_lt_of_cell? w _ k4) (by rw [add_block]; omega))).trans k4⟩
theorem DiceAt.below {w w' : World} {hi g B : Nat} {A : Option Addr} {n c : Nat} (h : DiceAt w hi g A n c) (hb : Below B w w') (hg : g < B) : DiceAt w' hi g A n c := by
  obtain ⟨hcode, hlo, c0, ⟨i, x, hin, h0, h1, c1, c2⟩, f1, f2⟩ := h
  refine ⟨⟨hcode.cap, hcode.big, fun j hj => ?_⟩, hlo, (hb.cell (p := ⟨g, 0, none⟩) hg).trans c0, ⟨i, x, hin, h0, h1, (hb.cell (p := ⟨g, 1, none⟩) hg).trans c1, (hb.cell (p := ⟨g, 2, none⟩) hg).trans c2⟩, (hb.frozen (p := ⟨g, 1, none⟩) hg).trans f1, (hb.frozen (p := ⟨g, 2, none⟩) hg).trans f2⟩
  obtain ⟨a, b, e, k1, k2, k3, k4⟩ := hcode.lie j hj
  exact ⟨a, b, e, k1, k2, k3, (hb.cell (p := a.add j) (by rw [add_block]; omega)).trans k4⟩
set_option maxRecDepth 100000 in
set_option maxHeartbeats 400000 in
theorem big_any (A : Option Addr) (n c : Nat) (w : World) : Calls Try.prog 46 #[.slice A n c] w fun e w' => e = .returned (.bool (decide (4096 < n))) ∧ w = w' := by
  go_enter Try.func46, Try.ntmps46
  go_wp2
  go_ret
  exact ⟨by simp; omega, rfl⟩
theorem u64_wrap_btw (n : Int) : 0 ≤ IntKind.u64.wrap n ∧ IntKind.u64.wrap n ≤ 18446744073709551615 := by rw [IntKind.wrap_u64]; omega
theorem wraps63 (n : Int) (h₀ : 0 ≤ n) (h₁ : n < 2 ^ 63) : IntKind.u64.wrap n = n := by rw [IntKind.wrap_u64]; omega
theorem draw_btw (h : Int) (h0 : 0 ≤ h) (h1 : h ≤ 18446744073709551615) : 0 ≤ wrap64 (bits BinOp.and IntKind.u64 (h / 8589934592) 16777215) ∧ wrap64 (bits BinOp.and IntKind.u64 (h / 8589934592) 16777215) ≤ 16777215 := by
  have h2 := bits_mask .u64 63 (by decide) wraps63 24 (by decide) (h / 8589934592) (by omega) (by omega)
  have e : ((2 : Int) ^ 24 - 1) = 16777215 := by decide
  have e2 : ((2 : Int) ^ 24) = 16777216 := by decide
  rw [e, e2] at h2
  rw [h2]
  unfold wrap64
  omega
set_option maxRecDepth 100000 in
set_option maxHeartbeats 1600000 in
theorem below_any (A : Option Addr) (n c hi g : Nat) (N : Int) (w : World) (hN0 : 0 < N) (hN1 : N ≤ 1099511627776) (hd : DiceAt w hi g A n c) :
    Calls Try.prog 49 #[.pointer (some ⟨g, 0, none⟩), .int .i64 N] w fun e w' => ∃ x : Int, e = .returned (.int .i64 x) ∧ 0 ≤ x ∧ x < N ∧ DiceAt w' hi g A n c ∧ Upd g (g + 1) w w' := by
  obtain ⟨hcode, hlo, c0, ⟨i, h, hin, h0, h1, c1, c2⟩, f1, f2⟩ := hd
  have hn : n ≤ 4096 := hcode.big
  have HC := Lib.hid hcode
  clear hcode
  by_cases hlt : i < n
  · obtain ⟨a, b, rfl, hab, hb0, hb1, cb⟩ := HC.out.lie i hlt
    go_enter Try.func49, Try.ntmps49
    go_wp2
    obtain ⟨d0, d1⟩ := u64_wrap_btw (IntKind.u64.wrap (h * 6364136223846793005) + 1442695040888963407)
    generalize IntKind.u64.wrap (IntKind.u64.wrap (h * 6364136223846793005) + 1442695040888963407) = h2 at *
    obtain ⟨x0, x1⟩ := draw_btw h2 d0 d1
    generalize wrap64 (bits BinOp.and IntKind.u64 (h2 / 8589934592) 16777215) = x at *
    obtain ⟨V, hV⟩ : ∃ V, V = w.setCell ⟨g, 2, none⟩ (.int .u64 h2) := ⟨_, rfl⟩
    have hU : Upd g (g + 1) w V := by rw [hV]; exact (Upd.refl _ _ _).setCell (p := ⟨g, 2, none⟩) (Nat.le_refl _) (show g < g + 1 by omega) _
    have v0 : V.cell? ⟨g, 0, none⟩ = some (.slice (some a) n c) := by rw [hV, World.cell?_setCell_other _ _ _ _ (by simp)]; exact c0
    have v1 : V.cell? ⟨g, 1, none⟩ = some (.int .i64 (i : Nat)) := by rw [hV, World.cell?_setCell_other _ _ _ _ (by simp)]; exact c1
    have v2 : V.cell? ⟨g, 2, none⟩ = some (.int .u64 h2) := by rw [hV]; exact World.cell?_setCell_same _ _ _ c2
    have k1 : V.frozen? ⟨g, 1, none⟩ = false := by rw [hV, World.frozen?_setCell]; exact f1
    have k2 : V.frozen? ⟨g, 2, none⟩ = false := by rw [hV, World.frozen?_setCell]; exact f2
    have vb : V.cell? (a.add i) = some (.int .u8 b) := by
      rw [hV, World.cell?_setCell_other _ _ _ _ (by intro e; have h9 : (a.add i).block = g := (by first | rw [e] | rw [← e]); rw [add_block] at h9; omega)]
      exact cb
    rw [← hV]
    have gV := World.block_lt_of_cell? V _ v1
    have aV := World.block_lt_of_cell? V _ vb
    rw [add_block] at aV
    simp only at gV
    clear hV c0 c1 c2 f1 f2 cb
    have q1 := fun d os => cell_regrown v1 d os
    have q0 := fun d os => cell_regrown v0 d os
    refine wp_region_quiet_below (by kernel_rfl) (by kernel_rfl) ?_; (repeat (first | go_big_quiet_step (fail) | quiet_step (fail))); refine wpQuiet_nil ?_; intro _ hw'; obtain ⟨⟨nq, osq⟩, hw''⟩ := hw'; subst hw''; have hq := below_regrown V nq osq; generalize Sort.grow (redrawn V nq) osq = w1 at *
    have z1 := (hq.cell (p := ⟨g, 1, none⟩) gV).trans v1
    have z0 := (hq.cell (p := ⟨g, 0, none⟩) gV).trans v0
    have zb := (hq.cell (p := a.add i) (by rw [add_block]; exact aV)).trans vb
    have q3 := fun d os => cell_regrown z1 d os
    have q4 := fun d os => cell_regrown z0 d os
    have q5 := fun d os => cell_regrown zb d os
    have m1 := (hq.frozen (p := ⟨g, 1, none⟩) gV).trans k1
    have m2 := (hq.frozen (p := ⟨g, 2, none⟩) gV).trans k2
    have z2 := (hq.cell (p := ⟨g, 2, none⟩) gV).trans v2
    have hqa := hq
    have gW := World.block_lt_of_cell? w1 _ z1
    have aW := World.block_lt_of_cell? w1 _ zb
    rw [add_block] at aW
    simp only at gW
    clear q0 q1 v0 v1 v2 vb k1 k2 hq
    go_wp2
    refine wp_region_quiet_below (by kernel_rfl) (by kernel_rfl) ?_; (repeat (first | go_big_quiet_step (fail) | quiet_step (fail))); refine wpQuiet_nil ?_; intro _ hw'; obtain ⟨⟨nq, osq⟩, hw''⟩ := hw'; subst hw''; have hq := below_regrown w1 nq osq; generalize Sort.grow (redrawn w1 nq) osq = w2 at *
    have y1 := (hq.cell (p := ⟨g, 1, none⟩) gW).trans z1
    have y0 := (hq.cell (p := ⟨g, 0, none⟩) gW).trans z0
    have y2 := (hq.cell (p := ⟨g, 2, none⟩) gW).trans z2
    have n1 := (hq.frozen (p := ⟨g, 1, none⟩) gW).trans m1
    have n2 := (hq.frozen (p := ⟨g, 2, none⟩) gW).trans m2
    clear q3 q4 q5 z0 z1 z2 zb m1 m2
    go_wp2
    go_ret
    have hT : Upd g (g + 1) w (w2.setCell ⟨g, 1, none⟩ (.int .i64 ((i : Int) + 1))) := ((hU.trans (Upd.of_below hqa)).trans (Upd.of_below hq)).setCell (p := ⟨g, 1, none⟩) (Nat.le_refl _) (show g < g + 1 by omega) _
    refine ⟨_, rfl, Int.emod_nonneg _ (by omega), Int.emod_lt_of_pos _ hN0, ⟨HC.out.upd hT hlo, hlo, ?_, ⟨i + 1, h2, hlt, d0, d1, ?_, ?_⟩, ?_, ?_⟩, hT⟩
    · rw [World.cell?_setCell_other _ _ _ _ (by simp)]; exact y0
    · exact World.cell?_setCell_same _ _ _ y1
    · rw [World.cell?_setCell_other _ _ _ _ (by simp)]; exact y2
    · rw [World.frozen?_setCell]; exact n1
    · rw [World.frozen?_setCell]; exact n2
  · go_enter Try.func49, Try.ntmps49
    go_wp2
    obtain ⟨d0, d1⟩ := u64_wrap_btw (IntKind.u64.wrap (h * 6364136223846793005) + 1442695040888963407)
    generalize IntKind.u64.wrap (IntKind.u64.wrap (h * 6364136223846793005) + 1442695040888963407) = h2 at *
    obtain ⟨x0, x1⟩ := draw_btw h2 d0 d1
    generalize wrap64 (bits BinOp.and IntKind.u64 (h2 / 8589934592) 16777215) = x at *
    obtain ⟨V, hV⟩ : ∃ V, V = w.setCell ⟨g, 2, none⟩ (.int .u64 h2) := ⟨_, rfl⟩
    have hU : Upd g (g + 1) w V := by rw [hV]; exact (Upd.refl _ _ _).setCell (p := ⟨g, 2, none⟩) (Nat.le_refl _) (show g < g + 1 by omega) _
    have v0 : V.cell? ⟨g, 0, none⟩ = some (.slice A n c) := by rw [hV, World.cell?_setCell_other _ _ _ _ (by simp)]; exact c0
    have v1 : V.cell? ⟨g, 1, none⟩ = some (.int .i64 (i : Nat)) := by rw [hV, World.cell?_setCell_other _ _ _ _ (by simp)]; exact c1
    have v2 : V.cell? ⟨g, 2, none⟩ = some (.int .u64 h2) := by rw [hV]; exact World.cell?_setCell_same _ _ _ c2
    have k1 : V.frozen? ⟨g, 1, none⟩ = false := by rw [hV, World.frozen?_setCell]; exact f1
    have k2 : V.frozen? ⟨g, 2, none⟩ = false := by rw [hV, World.frozen?_setCell]; exact f2
    rw [← hV]
    have gV := World.block_lt_of_cell? V _ v1
    simp only at gV
    clear hV c0 c1 c2 f1 f2
    have q1 := fun d os => cell_regrown v1 d os
    have q0 := fun d os => cell_regrown v0 d os
    refine wp_region_quiet_below (by kernel_rfl) (by kernel_rfl) ?_; (repeat (first | go_big_quiet_step (fail) | quiet_step (fail))); refine wpQuiet_nil ?_; intro _ hw'; obtain ⟨⟨nq, osq⟩, hw''⟩ := hw'; subst hw''; have hq := below_regrown V nq osq; generalize Sort.grow (redrawn V nq) osq = w1 at *
    have z1 := (hq.cell (p := ⟨g, 1, none⟩) gV).trans v1
    have z0 := (hq.cell (p := ⟨g, 0, none⟩) gV).trans v0
    have m1 := (hq.frozen (p := ⟨g, 1, none⟩) gV).trans k1
    have m2 := (hq.frozen (p := ⟨g, 2, none⟩) gV).trans k2
    have z2 := (hq.cell (p := ⟨g, 2, none⟩) gV).trans v2
    clear q0 q1 v0 v1 v2 k1 k2
    go_wp2
    go_ret
    have hT : Upd g (g + 1) w w1 := hU.trans (Upd.of_below hq)
    exact ⟨_, rfl, Int.emod_nonneg _ (by omega), Int.emod_lt_of_pos _ hN0, ⟨HC.out.upd hT hlo, hlo, z0, ⟨i, h2, hin, d0, d1, z1, z2⟩, m1, m2⟩, hT⟩
def RollRel (w : World) (A : Option Addr) (n c : Nat) (i : Value) (wr : World) : Prop :=
  ∃ (m : Nat) (h : Int), m ≤ n ∧ i = .int .i64 (m : Nat) ∧ 0 ≤ h ∧ h ≤ 18446744073709551615 ∧ wr.cell? ⟨w.heap.size, 0, none⟩ = some (.slice A n c) ∧ wr.cell? ⟨w.heap.size, 1, none⟩ = some (.int .i64 (0 : Int)) ∧ wr.cell? ⟨w.heap.size, 2, none⟩ = some (.int .u64 h) ∧
    wr.frozen? ⟨w.heap.size, 1, none⟩ = false ∧ wr.frozen? ⟨w.heap.size, 2, none⟩ = false ∧ Below w.heap.size w wr
set_option maxRecDepth 100000 in
set_option maxHeartbeats 1600000 in
theorem roll_any (A : Option Addr) (n c hi : Nat) (seed : Int) (w : World) (hc : CodeAt w hi A n c) (hhi : hi ≤ w.heap.size) (hs0 : 0 ≤ seed) (hs1 : seed ≤ 1000000) :
    Calls Try.prog 47 #[.slice A n c, .int .u64 seed] w fun e w' => e = .returned (.pointer (some ⟨w.heap.size, 0, none⟩)) ∧ w.heap.size < w'.heap.size ∧ DiceAt w' hi w.heap.size A n c ∧ Below w.heap.size w w' := by
  have hn : n ≤ 4096 := hc.big
  have HC := Lib.hid hc
  clear hc
  go_enter Try.func47, Try.ntmps47
  go_wp2
  go_loopw [6] (fun i wr => RollRel w A n c i wr) (fun i _ => n - (intOf i).toNat)
  case atStart => exact ⟨0, seed * 7919 + (n : Int), Nat.zero_le _, rfl, by omega, by omega, by simp, by simp, by simp, by simp, by simp, by (repeat' (first | with_reducible exact Below.refl _ _ | with_reducible assumption | with_reducible refine Below.drew ?_ | with_reducible refine Below.alloc ?_ ?_ _ | with_reducible refine Below.setCell ?_ ?_ _ | with_reducible refine Below.trans ?_ (Below.mono (by assumption) ?_) | ((try simp only [World.heap_size_alloc, World.heap_size_drew, World.heap_size_setCell]); omega)))⟩
  case round =>
    obtain ⟨m, h, hm, rfl, h0, h1, c0, c1, c2, f1, f2, hb⟩ := hrel
    have hbz := World.block_lt_of_cell? wr _ c0
    simp only at hbz
    by_cases hlt : m < n
    · obtain ⟨a, b, rfl, hab, hb0, hb1, cb⟩ := HC.out.lie m hlt
      have cb1 := (hb.cell (p := a.add m) (by rw [add_block]; omega)).trans cb
      clear cb
      go_wp2
      refine wp_region_still_tail 15 (by kernel_rfl) (by kernel_rfl) ?_; simp only [List.take_succ_cons, List.take_zero, List.drop_succ_cons, List.drop_zero]; change wpStill _ _ (World.drew wr) _ _ _; (repeat still_step); refine wpStill_nil ?_; change wpList _ _ _ _ _ (World.drew wr)
      go_wp2_with fail
      obtain ⟨d0, d1⟩ := u64_wrap_btw (IntKind.u64.wrap (IntKind.u64.wrap (h * 1099511628211) + b) + 3)
      go_roundw
      case rel => exact ⟨m + 1, _, hlt, by go_num, d0, d1, (World.cell?_setCell_other _ _ _ _ (by simp)).trans c0, (World.cell?_setCell_other _ _ _ _ (by simp)).trans c1, World.cell?_setCell_same _ _ _ c2, (World.frozen?_setCell _ _ _ _).trans f1, (World.frozen?_setCell _ _ _ _).trans f2, (hb.setCell (p := ⟨w.heap.size, 2, none⟩) (Nat.le_refl _) _).drew⟩
      case measure => simp [intOf]; omega
    · go_wp2
      go_ret
      have hu : Upd w.heap.size w.heap.size w wr := ⟨hb.os, hb.tape, hb.output, hb.size, fun i hi _ => hb.block i hi⟩
      exact ⟨rfl, hbz, ⟨HC.out.upd hu hhi, hhi, c0, ⟨0, h, Nat.zero_le _, h0, h1, c1, c2⟩, f1, f2⟩, hb⟩
end Go.Proofs.Ytgnilmdaegnaaaa
