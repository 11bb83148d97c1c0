/- What the laws' helpers do: they copy, compare, mark and look at slices of entries and of numbers. No conditions. -/
import Derived.Test.YtgnilmdaegnaaaaConv
import Derived.Test.YtgnilmdaegnaaaaPost
import Derived.StillTailTactics
set_option linter.unusedSimpArgs false
set_option linter.unusedVariables false
namespace Go.Proofs.Ytgnilmdaegnaaaa
open Go.RowKit

set_option maxRecDepth 100000 in
set_option maxHeartbeats 1000000 in
theorem eqOp_same (k a b c d : Int) (w : World) :
    Calls Try.prog 79 #[.agg #[.int .i64 k, .int .i64 a, .int .i64 b, .int .i64 c, .int .i64 d], .agg #[.int .i64 k, .int .i64 a, .int .i64 b, .int .i64 c, .int .i64 d]] w fun e w' => e = .returned (.bool true) ∧ Below w.heap.size w w' := by
  go_enter Try.func79, Try.ntmps79
  go_wp2
  go_ret
  exact ⟨rfl, by (repeat' (first | with_reducible exact Below.refl _ _ | with_reducible assumption | with_reducible refine Below.drew ?_ | with_reducible refine Below.alloc ?_ ?_ _ | with_reducible refine Below.setCell ?_ ?_ _ | with_reducible refine Below.trans ?_ (Below.mono (by assumption) ?_) | ((try simp only [World.heap_size_alloc, World.heap_size_drew, World.heap_size_setCell]); omega)))⟩
set_option maxRecDepth 100000 in
set_option maxHeartbeats 1000000 in
theorem eqEntry_same (i t c s k a b cc d : Int) (w : World) :
    Calls Try.prog 25 #[.agg #[.int .i64 i, .int .i64 t, .int .i64 c, .int .i64 s, .int .i64 k, .int .i64 a, .int .i64 b, .int .i64 cc, .int .i64 d], .agg #[.int .i64 i, .int .i64 t, .int .i64 c, .int .i64 s, .int .i64 k, .int .i64 a, .int .i64 b, .int .i64 cc, .int .i64 d]] w fun e w' => e = .returned (.bool true) ∧ Below w.heap.size w w' := by
  go_enter Try.func25, Try.ntmps25
  go_wp2_with fail
  (with_reducible refine (eqOp_same _ _ _ _ _ _).mono ?_); rintro _ w1 ⟨rfl, b1⟩
  go_wp2_with fail
  go_ret
  exact ⟨rfl, by (repeat' (first | with_reducible exact Below.refl _ _ | with_reducible assumption | with_reducible refine Below.drew ?_ | with_reducible refine Below.alloc ?_ ?_ _ | with_reducible refine Below.setCell ?_ ?_ _ | with_reducible refine Below.trans ?_ (Below.mono (by assumption) ?_) | ((try simp only [World.heap_size_alloc, World.heap_size_drew, World.heap_size_setCell]); omega)))⟩
set_option maxRecDepth 100000 in
set_option maxHeartbeats 1000000 in
theorem eqMark_same (a b c : Int) (w : World) :
    Calls Try.prog 135 #[.agg #[.int .i64 a, .int .i64 b, .int .i64 c], .agg #[.int .i64 a, .int .i64 b, .int .i64 c]] w fun e w' => e = .returned (.bool true) ∧ Below w.heap.size w w' := by
  go_enter Try.func135, Try.ntmps135
  go_wp2
  go_ret
  exact ⟨rfl, by (repeat' (first | with_reducible exact Below.refl _ _ | with_reducible assumption | with_reducible refine Below.drew ?_ | with_reducible refine Below.alloc ?_ ?_ _ | with_reducible refine Below.setCell ?_ ?_ _ | with_reducible refine Below.trans ?_ (Below.mono (by assumption) ?_) | ((try simp only [World.heap_size_alloc, World.heap_size_drew, World.heap_size_setCell]); omega)))⟩
theorem infoMark : (Try.prog.info? 117).map (fun i => (i.zero, i.size, i.bytes)) = some (some (.agg #[.int .i64 0, .int .i64 0, .int .i64 0]), 3, 24) := by kernel_rfl
theorem sizeMark : (Try.prog.info? 117).map (·.size) = some 3 := by kernel_rfl
set_option maxRecDepth 100000 in
set_option maxHeartbeats 1000000 in
theorem toMarkS_any (A : Option Addr) (n c : Nat) (zs : List Int) (w : World) (h : ArgSl w 3 A n c zs) (hn : n ≤ 1048576) :
    Calls Try.prog 85 #[.slice A n c] w (SlRes w 3 n zs) := by
  have hmk := fun W => run_make_n (P := Try.prog) Try.underlying47 infoMark rfl (by omega) n (by omega) (by omega) W
  have H := Lib.hid h
  clear h
  go_enter Try.func85, Try.ntmps85
  go_wp2
  go_loopw [4] (fun i wr => ToRel w w.heap.size 3 n zs i wr) (fun i _ => n - (intOf i).toNat)
  case atStart => exact ⟨0, _, Nat.zero_le _, rfl, by simp, ints_zeroRow _ _ _, fun j hj => absurd hj (by omega), by (repeat' (first | with_reducible exact Below.refl _ _ | with_reducible assumption | with_reducible refine Below.drew ?_ | with_reducible refine Below.alloc ?_ ?_ _ | with_reducible refine Below.setCell ?_ ?_ _ | with_reducible refine Below.trans ?_ (Below.mono (by assumption) ?_) | ((try simp only [World.heap_size_alloc, World.heap_size_drew, World.heap_size_setCell]); omega))), by simp⟩
  case round =>
    clear hmk
    obtain ⟨m, ys, hm, rfl, hy, hI, hz, hb, hg⟩ := hrel
    by_cases hlt : m < n
    · obtain ⟨a, x0, x1, x2, rfl, hx, c0, c1, c2⟩ := H.out.row3 hb hlt
      have hth := hI.there (i := m * 3) (n := 3) (by omega)
      have HX := Lib.hid hx
      have HY := Lib.hid hy
      have HZ := Lib.hid hz
      have HT := Lib.hid hth
      clear hx hy hz hth
      go_wp2_with fail
      (with_reducible refine (toMark_any _ _ _ _).mono ?_); rintro e w1 ⟨rfl, b1⟩; obtain ⟨b1_c, b1_f⟩ := bcell b1; have b1_z := b1.size; (try simp only [World.heap_size_alloc, World.heap_size_drew, World.heap_size_setCell] at b1_z); (first | (have b1_z0 : w.heap.size < w1.heap.size := by omega) | skip); (first | (have b1_z1 : w.heap.size + 1 < w1.heap.size := by omega) | skip); (first | (have b1_z2 : w.heap.size + 1 + 1 < w1.heap.size := by omega) | skip)
      go_wp2_with (refine wpList_store_ints rfl 117 (.tmp 21) (.tmp 20) rfl w.heap.size (m * 3) [x0, x1, x2] rfl rfl sizeMark ?h1 ?_)
      case h1 =>
        have hh := b1.mono (Nat.le_refl _)
        exact fun j hj => by
          have h2 := HT.out j hj
          rw [Nat.zero_add] at h2
          rw [hh.cell (p := ⟨w.heap.size, m * 3 + j, none⟩) hg, hh.frozen (p := ⟨w.heap.size, m * 3 + j, none⟩) hg]
          exact h2
      go_roundw
      case rel => exact ToRel.step hlt HY.out hI HZ.out hb hg (Nat.le_refl _) b1 HX.out rfl (by go_num)
      case measure => simp [intOf]; omega
    · go_wp2
      go_ret
      exact ToRel.done hlt hm H.out.len hy hI hz hb hg (Nat.le_refl _) hn
set_option maxRecDepth 100000 in
set_option maxHeartbeats 1000000 in
theorem szMarkS_ok (A : Option Addr) (n c : Nat) (left : Int) (w : World) (h0 : left ≤ 1048576) (h : (n : Int) ≤ left) :
    Calls Try.prog 80 #[.slice A n c, .int .i64 left] w fun e w' => e = .returned (.int .i64 (left - (n : Int))) ∧ w = w' := by
  go_enter Try.func80, Try.ntmps80
  go_wp2
  go_ret
  exact ⟨rfl, rfl⟩
set_option maxRecDepth 100000 in
set_option maxHeartbeats 1000000 in
theorem szMarkS_big (A : Option Addr) (n c : Nat) (left : Int) (w : World) (h0 : 0 ≤ left) (h1 : left ≤ 1048576) (hn : n ≤ 9223372036854775807) (h : left < (n : Int)) :
    Calls Try.prog 80 #[.slice A n c, .int .i64 left] w fun e w' => e = .returned (.int .i64 (-1)) ∧ w = w' := by
  go_enter Try.func80, Try.ntmps80
  go_wp2
  go_ret
  exact ⟨rfl, rfl⟩
set_option maxRecDepth 100000 in
set_option maxHeartbeats 1000000 in
theorem eqMarkS_same (A B : Option Addr) (n c d lo hi lo' hi' : Nat) (l : List MarkD) (w : World) (h : Sl w lo hi 3 A n c (l.flatMap MarkD.ints)) (k : Sl w lo' hi' 3 B n d (l.flatMap MarkD.ints)) :
    Calls Try.prog 90 #[.slice A n c, .slice B n d] w fun e w' => e = .returned (.bool true) ∧ Below w.heap.size w w' := by
  have H := Lib.hid h
  have K := Lib.hid k
  have hn : n ≤ 9223372036854775807 := Nat.le_trans h.cap h.big
  clear h k
  go_enter Try.func90, Try.ntmps90
  go_wp2
  go_loopw [5] (fun i wr => ∃ m : Nat, m ≤ n ∧ i = .int .i64 m ∧ Below w.heap.size w wr) (fun i _ => n - (intOf i).toNat)
  case atStart => exact ⟨0, Nat.zero_le _, rfl, Below.refl _ _⟩
  case round =>
    obtain ⟨m, hm, rfl, hb⟩ := hrel
    by_cases hlt : m < n
    · obtain ⟨g, off, e, rfl, _, hg, he, p0, p1, p2⟩ := (H.out.fit (by omega)).mark hlt
      obtain ⟨g', off', e', rfl, _, hg', he', q0, q1, q2⟩ := (K.out.fit (by omega)).mark hlt
      obtain rfl : e = e' := by rw [he] at he'; injection he'
      have hg1 := Nat.lt_of_lt_of_le hg (Nat.min_le_right _ _)
      have hg2 := Nat.lt_of_lt_of_le hg' (Nat.min_le_right _ _)
      clear he he' hg hg'
      have r0 := (hb.cell (p := ⟨g, off + m * 3, none⟩) hg1).trans p0
      have r1 := (hb.cell (p := ⟨g, off + m * 3 + 1, none⟩) hg1).trans p1
      have r2 := (hb.cell (p := ⟨g, off + m * 3 + 2, none⟩) hg1).trans p2
      have s0 := (hb.cell (p := ⟨g', off' + m * 3, none⟩) hg2).trans q0
      have s1 := (hb.cell (p := ⟨g', off' + m * 3 + 1, none⟩) hg2).trans q1
      have s2 := (hb.cell (p := ⟨g', off' + m * 3 + 2, none⟩) hg2).trans q2
      clear p0 q0 p1 q1 p2 q2
      go_wp2
      refine wp_region_still_tail 8 (by kernel_rfl) (by kernel_rfl) ?_
      simp only [List.take_succ_cons, List.take_zero, List.drop_succ_cons, List.drop_zero]
      change wpStill _ _ wr.drew _ _ _
      repeat still_step
      refine wpStill_nil ?_
      go_wp2_with fail
      (with_reducible refine (eqMark_same _ _ _ _).mono ?_); rintro _ w1 ⟨rfl, b1⟩
      go_wp2_with fail
      go_roundw
      case rel => exact ⟨m + 1, by omega, by go_num, hb.drew.trans (b1.mono hb.size)⟩
      case measure => simp [intOf]; omega
    · go_wp2
      go_ret
      exact ⟨rfl, hb⟩
set_option maxRecDepth 100000 in
set_option maxHeartbeats 2000000 in
theorem markMarkS_any (A : Option Addr) (n c lo hi : Nat) (zs : List Int) (q0 : Int) (w : World) (h : Sl w lo hi 3 A n c zs) (hn : n ≤ 1048576) (hq0 : 0 ≤ q0) (hq1 : q0 ≤ 1099511627776) :
    Calls Try.prog 91 #[.slice A n c, .int .i64 q0] w (MarkRes w lo hi 3 A n c q0) := by
  by_cases h0 : 0 < n
  · obtain ⟨g, off, rfl, h1, h2, hI0⟩ := h.lie h0
    have H := Lib.hid h
    clear h
    go_enter Try.func91, Try.ntmps91
    go_wp2
    go_loopw [1, 5] (fun q i wr => MarkRel w lo hi g off 3 n q0 q i wr) (fun _ i _ => n - (intOf i).toNat)
    case atStart => exact ⟨0, q0, zs, Nat.zero_le _, rfl, rfl, by simp, H.out.len, hI0, fun j hj => absurd hj (by omega), Upd.refl _ _ _⟩
    case round =>
      clear hI0
      obtain ⟨m, x, ys, hm, rfl, rfl, hx, hy, hI, hz, hu⟩ := hrel
      have hx1 : m * 3 ≤ n * 3 := Nat.mul_le_mul_right 3 hm
      have hxa : 0 ≤ x := by omega
      have hxb : x ≤ 2199023255552 := by omega
      clear hx1
      by_cases hlt : m < n
      · have hlen : m * 3 + 3 ≤ n * 3 := by omega
        obtain ⟨o0, f0⟩ := hI.getD (j := m * 3) (by omega)
        obtain ⟨o1, f1⟩ := hI.getD (j := m * 3 + 1) (by omega)
        rw [← Nat.add_assoc] at o1 f1
        obtain ⟨o2, f2⟩ := hI.getD (j := m * 3 + 2) (by omega)
        rw [← Nat.add_assoc] at o2 f2
        have HX := Lib.hid hx
        have HY := Lib.hid hy
        have HZ := Lib.hid hz
        clear hx hy hz hlen
        go_wp2
        go_roundw
        case rel =>
          rw [← setCells_3]
          exact MarkRel.step (new := [x, x + 1, x + 1 + 1]) hlt HX.out HY.out hI HZ.out hu h1 h2 rfl (fun r z hr => by
          match r, hr with
          | 0, hr => simp at hr; omega
          | 1, hr => simp at hr; omega
          | 2, hr => simp at hr; omega
          | r + 3, hr => simp at hr) (by go_num) (by simp; omega)
        case measure => simp [intOf]; omega
      · have HX := Lib.hid hx
        have HY := Lib.hid hy
        have HZ := Lib.hid hz
        clear hx hy hz
        go_wp2
        go_ret
        exact MarkRel.done hlt hm HX.out HY.out hI HZ.out hu h1 h2 H.out.cap H.out.big
  · obtain rfl : n = 0 := by omega
    have e : zs = [] := List.eq_nil_of_length_eq_zero (by simpa using h.len)
    subst e
    go_enter Try.func91, Try.ntmps91
    go_wp2
    go_loopw [1, 5] (fun q i wr => q = .int .i64 q0 ∧ i = .int .i64 (0 : Nat) ∧ w = wr) (fun _ _ _ => 0)
    case atStart => exact ⟨rfl, rfl, rfl⟩
    case round =>
      obtain ⟨rfl, rfl, rfl⟩ := hrel
      go_wp2
      go_ret
      exact ⟨by simp, by simpa [countUp] using h, Upd.refl _ _ _⟩
set_option maxRecDepth 100000 in
set_option maxHeartbeats 4000000 in
theorem heldMarkS_ok (A : Option Addr) (n c lo hi : Nat) (q0 : Int) (w : World) (h : Sl w lo hi 3 A n c (countUp q0 (n * 3))) (hn : n ≤ 1048576) (hq0 : 0 ≤ q0) (hq1 : q0 ≤ 1099511627776) :
    Calls Try.prog 92 #[.slice A n c, .int .i64 q0] w (HeldRes w 3 n q0) := by
  have H := Lib.hid h
  clear h
  go_enter Try.func92, Try.ntmps92
  go_wp2
  go_loop [1, 5] (fun q i => ∃ (m : Nat) (x : Int), m ≤ n ∧ i = .int .i64 (m : Nat) ∧ q = .int .i64 x ∧ x = q0 + ((m * 3 : Nat) : Int)) (fun _ i => n - (intOf i).toNat)
  case atStart => exact ⟨0, q0, Nat.zero_le _, rfl, rfl, by simp⟩
  case round =>
    obtain ⟨m, x, hm, rfl, rfl, hx⟩ := hrel
    have hx1 : m * 3 ≤ n * 3 := Nat.mul_le_mul_right 3 hm
    have hxa : 0 ≤ x := by omega
    have hxb : x ≤ 2199023255552 := by omega
    clear hx1
    by_cases hlt : m < n
    · obtain ⟨g, off, rfl, _, _, hI⟩ := H.out.lie (by omega)
      have hlen : m * 3 + 3 ≤ n * 3 := by omega
      have o0 : w.cell? ⟨g, off + m * 3, none⟩ = some (.int .i64 (x)) := by
        have h3 := (hI (m * 3 + 0) _ (countUp_get q0 (n * 3) (by omega))).1
        rw [← Nat.add_assoc] at h3
        rw [show (x : Int) = q0 + ((m * 3 + 0 : Nat) : Int) by omega]
        exact h3
      have o1 : w.cell? ⟨g, off + m * 3 + 1, none⟩ = some (.int .i64 (x + 1)) := by
        have h3 := (hI (m * 3 + 1) _ (countUp_get q0 (n * 3) (by omega))).1
        rw [← Nat.add_assoc] at h3
        rw [show (x + 1 : Int) = q0 + ((m * 3 + 1 : Nat) : Int) by omega]
        exact h3
      have o2 : w.cell? ⟨g, off + m * 3 + 2, none⟩ = some (.int .i64 (x + 2)) := by
        have h3 := (hI (m * 3 + 2) _ (countUp_get q0 (n * 3) (by omega))).1
        rw [← Nat.add_assoc] at h3
        rw [show (x + 2 : Int) = q0 + ((m * 3 + 2 : Nat) : Int) by omega]
        exact h3
      have HX := Lib.hid hx
      clear hx hlen hI
      go_wp2
      go_round
      case rel => exact ⟨m + 1, _, hlt, by go_num, rfl, by rw [HX.out]; omega⟩
      case measure => simp [intOf]; omega
    · have HX := Lib.hid hx
      clear hx
      go_wp2
      go_ret
      have : m = n := by omega
      subst this
      exact ⟨by rw [← HX.out]; rfl, rfl⟩

end Go.Proofs.Ytgnilmdaegnaaaa
