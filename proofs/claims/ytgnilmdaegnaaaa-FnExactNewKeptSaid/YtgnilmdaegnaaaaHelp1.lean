/- What the laws' helpers do: they copy, compare, mark and look at slices of numbers. No conditions. -/
import Derived.Test.YtgnilmdaegnaaaaScal
import Derived.Test.YtgnilmdaegnaaaaPost
import Derived.StillTailTactics
import Derived.Deep.QuietTactic
import Derived.BigQuiet
set_option linter.unusedSimpArgs false
set_option linter.unusedVariables false
namespace Go.Proofs.Ytgnilmdaegnaaaa
open Go.RowKit

theorem info64 : (Try.prog.info? 2).map (fun i => (i.zero, i.size, i.bytes)) = some (some (.int .i64 0), 1, 8) := by kernel_rfl
set_option maxRecDepth 100000 in
set_option maxHeartbeats 1000000 in
theorem toInt64S_any (A : Option Addr) (n c : Nat) (zs : List Int) (w : World) (h : ArgSl w 1 A n c zs) (hn : n ≤ 1048576) :
    Calls Try.prog 23 #[.slice A n c] w (SlRes w 1 n zs) := by
  have hmk := fun W => run_make_n (P := Try.prog) Try.underlying28 info64 rfl (by omega) n (by omega) (by omega) W
  have H := Lib.hid h
  clear h
  go_enter Try.func23, Try.ntmps23
  go_wp2
  go_loopw [4] (fun i wr => ToRel w w.heap.size 1 n zs i wr) (fun i _ => n - (intOf i).toNat)
  case atStart => exact ⟨0, List.replicate n 0, Nat.zero_le _, rfl, by simp, ints_zeroRow _ _ _, fun j hj => absurd hj (by omega), by (repeat' (first | with_reducible exact Below.refl _ _ | with_reducible assumption | with_reducible refine Below.drew ?_ | with_reducible refine Below.alloc ?_ ?_ _ | with_reducible refine Below.setCell ?_ ?_ _ | with_reducible refine Below.trans ?_ (Below.mono (by assumption) ?_) | ((try simp only [World.heap_size_alloc, World.heap_size_drew, World.heap_size_setCell]); omega))), by simp⟩
  case round =>
    clear hmk
    obtain ⟨m, ys, hm, rfl, hy, hI, hz, hb, hg⟩ := hrel
    by_cases hlt : m < n
    · obtain ⟨a, x0, rfl, hx, c0⟩ := H.out.row1 hb hlt
      obtain ⟨o0, f0⟩ := hI.getD (j := m) (by omega)
      rw [Nat.zero_add] at o0 f0
      have HX := Lib.hid hx
      have HY := Lib.hid hy
      have HZ := Lib.hid hz
      clear hx hy hz
      go_wp2
      go_roundw
      case rel =>
        have h5 := ToRel.step (new := [x0]) hlt HY.out hI HZ.out hb hg (Nat.le_refl _) (Below.refl _ _) (by
          rw [Nat.mul_one]
          have h6 : (zs.drop m)[0]? = some x0 := by rw [List.getElem?_drop]; simpa using HX.out
          match hq : zs.drop m, h6 with
          | y :: l, h6 => simp at h6; simp [h6]) rfl (i := .int .i64 ((m : Int) + 1)) (by go_num)
        rw [Nat.mul_one] at h5
        exact h5
      case measure => simp [intOf]; omega
    · have HX := Lib.hid hy
      have HZ := Lib.hid hz
      clear hy hz
      go_wp2
      go_ret
      exact ToRel.done hlt hm H.out.len HX.out hI HZ.out hb hg (Nat.le_refl _) hn
set_option maxRecDepth 100000 in
set_option maxHeartbeats 1000000 in
theorem eqInt64S_same (A B : Option Addr) (n c d lo hi lo' hi' : Nat) (zs : List Int) (w : World) (h : Sl w lo hi 1 A n c zs) (k : Sl w lo' hi' 1 B n d zs) :
    Calls Try.prog 19 #[.slice A n c, .slice B n d] w fun e w' => e = .returned (.bool true) ∧ Below w.heap.size w w' := by
  have H := Lib.hid h
  have K := Lib.hid k
  have hn : n ≤ 9223372036854775807 := Nat.le_trans h.cap h.big
  clear h k
  go_enter Try.func19, Try.ntmps19
  go_wp2
  go_loopw [5] (fun i wr => ∃ m : Nat, m ≤ n ∧ i = .int .i64 m ∧ Below w.heap.size w wr) (fun i _ => n - (intOf i).toNat)
  case atStart => exact ⟨0, Nat.zero_le _, rfl, Below.refl _ _⟩
  case round =>
    obtain ⟨m, hm, rfl, hb⟩ := hrel
    by_cases hlt : m < n
    · obtain ⟨g, off, e, rfl, _, hg, he, p0⟩ := (H.out.fit (by omega)).int hlt
      obtain ⟨g', off', e', rfl, _, hg', he', q0⟩ := (K.out.fit (by omega)).int hlt
      obtain rfl : e = e' := by rw [he] at he'; injection he'
      have r0 := (hb.cell (p := ⟨g, off + m, none⟩) (Nat.lt_of_lt_of_le hg (Nat.min_le_right _ _))).trans p0
      have s0 := (hb.cell (p := ⟨g', off' + m, none⟩) (Nat.lt_of_lt_of_le hg' (Nat.min_le_right _ _))).trans q0
      clear he he' hg hg' p0 q0
      go_wp2
      refine wp_region_still_tail 8 (by kernel_rfl) (by kernel_rfl) ?_
      simp only [List.take_succ_cons, List.take_zero, List.drop_succ_cons, List.drop_zero]
      change wpStill _ _ wr.drew _ _ _
      repeat still_step
      refine wpStill_nil ?_
      go_wp2_with fail
      go_roundw
      case rel => exact ⟨m + 1, by omega, by go_num, hb.drew⟩
      case measure => simp [intOf]; omega
    · go_wp2
      go_ret
      exact ⟨rfl, hb⟩
set_option maxRecDepth 100000 in
set_option maxHeartbeats 1000000 in
theorem markInt64S_any (A : Option Addr) (n c lo hi : Nat) (zs : List Int) (q0 : Int) (w : World) (h : Sl w lo hi 1 A n c zs) (hn : n ≤ 1048576) (hq0 : 0 ≤ q0) (hq1 : q0 ≤ 1099511627776) :
    Calls Try.prog 20 #[.slice A n c, .int .i64 q0] w (MarkRes w lo hi 1 A n c q0) := by
  by_cases h0 : 0 < n
  · obtain ⟨g, off, rfl, h1, h2, hI0⟩ := h.lie h0
    have H := Lib.hid h
    clear h
    go_enter Try.func20, Try.ntmps20
    go_wp2
    go_loopw [1, 5] (fun q i wr => MarkRel w lo hi g off 1 n q0 q i wr) (fun _ i _ => n - (intOf i).toNat)
    case atStart => exact ⟨0, q0, zs, Nat.zero_le _, rfl, rfl, by simp, H.out.len, hI0, fun j hj => absurd hj (by omega), Upd.refl _ _ _⟩
    case round =>
      clear hI0
      obtain ⟨m, x, ys, hm, rfl, rfl, hx, hy, hI, hz, hu⟩ := hrel
      have hxa : 0 ≤ x := by omega
      have hxb : x ≤ 2199023255552 := by omega
      by_cases hlt : m < n
      · obtain ⟨o0, f0⟩ := hI.getD (j := m) (by omega)
        have HX := Lib.hid hx
        have HY := Lib.hid hy
        have HZ := Lib.hid hz
        clear hx hy hz
        go_wp2
        go_roundw
        case rel =>
          have h5 := MarkRel.step (new := [x]) hlt HX.out HY.out hI HZ.out hu h1 h2 rfl (fun r z hr => by
            match r, hr with
            | 0, hr => simp at hr; omega
            | r + 1, hr => simp at hr) (q := .int .i64 (x + 1)) (i := .int .i64 ((m : Int) + 1)) (by go_num) (by simp)
          rw [Nat.mul_one] at h5
          exact h5
        case measure => simp [intOf]; omega
      · have HX := Lib.hid hx
        have HY := Lib.hid hy
        have HZ := Lib.hid hz
        clear hx hy hz
        go_wp2
        go_ret
        exact MarkRel.done hlt hm HX.out HY.out hI HZ.out hu h1 h2 H.out.cap H.out.big
  · obtain rfl : n = 0 := by omega
    have e : zs = [] := List.eq_nil_of_length_eq_zero (by simpa using h.len)
    subst e
    go_enter Try.func20, Try.ntmps20
    go_wp2
    go_loopw [1, 5] (fun q i wr => q = .int .i64 q0 ∧ i = .int .i64 (0 : Nat) ∧ w = wr) (fun _ _ _ => 0)
    case atStart => exact ⟨rfl, rfl, rfl⟩
    case round =>
      obtain ⟨rfl, rfl, rfl⟩ := hrel
      go_wp2
      go_ret
      exact ⟨by simp, by simpa [countUp] using h, Upd.refl _ _ _⟩
set_option maxRecDepth 100000 in
set_option maxHeartbeats 1000000 in
theorem heldInt64S_ok (A : Option Addr) (n c lo hi : Nat) (q0 : Int) (w : World) (h : Sl w lo hi 1 A n c (countUp q0 (n * 1))) (hn : n ≤ 1048576) (hq0 : 0 ≤ q0) (hq1 : q0 ≤ 1099511627776) :
    Calls Try.prog 21 #[.slice A n c, .int .i64 q0] w (HeldRes w 1 n q0) := by
  have H := Lib.hid h
  clear h
  go_enter Try.func21, Try.ntmps21
  go_wp2
  go_loop [1, 5] (fun q i => ∃ (m : Nat) (x : Int), m ≤ n ∧ i = .int .i64 (m : Nat) ∧ q = .int .i64 x ∧ x = q0 + ((m * 1 : Nat) : Int)) (fun _ i => n - (intOf i).toNat)
  case atStart => exact ⟨0, q0, Nat.zero_le _, rfl, rfl, by simp⟩
  case round =>
    obtain ⟨m, x, hm, rfl, rfl, hx⟩ := hrel
    have hxa : 0 ≤ x := by omega
    have hxb : x ≤ 2199023255552 := by omega
    by_cases hlt : m < n
    · obtain ⟨g, off, rfl, _, _, hI⟩ := H.out.lie (by omega)
      have o0 : w.cell? ⟨g, off + m, none⟩ = some (.int .i64 x) := by
        have h3 := (hI m _ (countUp_get q0 (n * 1) (by omega))).1
        rw [show (x : Int) = q0 + ((m : Nat) : Int) by omega]
        exact h3
      have HX := Lib.hid hx
      clear hx hI
      go_wp2
      go_round
      case rel => exact ⟨m + 1, _, hlt, by go_num, rfl, by rw [HX.out]; omega⟩
      case measure => simp [intOf]; omega
    · have HX := Lib.hid hx
      clear hx
      go_wp2
      go_ret
      have : m = n := by omega
      subst this
      exact ⟨by rw [← HX.out]; rfl, rfl⟩

end Go.Proofs.Ytgnilmdaegnaaaa
