/- Disks: what the laws' helpers do with them: sizes and copies. No conditions. -/
import Derived.Test.YtgnilmdaegnaaaaDk0
set_option linter.unusedSimpArgs false
set_option linter.unusedVariables false
namespace Go.Proofs.Ytgnilmdaegnaaaa
open Go.RowKit

/-- What a measure of size answers: below zero where it is too large, else what is left; P then holds. -/
def SzRes (w : World) (left : Int) (P : Prop) (e : Ending) (w' : World) : Prop :=
  ∃ r : Int, e = .returned (.int .i64 r) ∧ Below w.heap.size w w' ∧ -1 ≤ r ∧ r ≤ left ∧ (0 ≤ r → P)
set_option maxRecDepth 100000 in
set_option maxHeartbeats 1000000 in
theorem szInt64S_res (A : Option Addr) (n c : Nat) (left : Int) (w : World) (h0 : 0 ≤ left) (h1 : left ≤ 1048576) (hn : n ≤ 9223372036854775807) :
    Calls Try.prog 167 #[.slice A n c, .int .i64 left] w (SzRes w left (n ≤ 1048576)) := by
  by_cases h : left < (n : Int)
  · go_enter Try.func167, Try.ntmps167
    go_wp2
    go_ret
    exact ⟨-1, rfl, Below.refl _ _, by omega, by omega, fun h9 => by omega⟩
  · go_enter Try.func167, Try.ntmps167
    go_wp2
    go_ret
    exact ⟨left - n, rfl, Below.refl _ _, by omega, by omega, fun h9 => by omega⟩
set_option maxRecDepth 100000 in
set_option maxHeartbeats 2000000 in
theorem szInt64SS_res (A : Option Addr) (n c : Nat) (rows : List (List Int)) (left : Int) (w : World) (h : ArgR w A n c rows) (h0 : 0 ≤ left) (h1 : left ≤ 1048576) :
    Calls Try.prog 136 #[.slice A n c, .int .i64 left] w (SzRes w left (n ≤ 1048576 ∧ ∀ r ∈ rows, (r).length ≤ 1048576)) := by
  have hn : n ≤ 9223372036854775807 := Nat.le_trans h.cap h.big
  have H := Lib.hid h
  clear h
  by_cases hbig : left < (n : Int)
  · go_enter Try.func136, Try.ntmps136
    go_wp2
    go_ret
    exact ⟨-1, rfl, Below.refl _ _, by omega, by omega, fun h9 => by omega⟩
  · have hw : IntKind.i64.wrap (left - (n : Int)) = left - (n : Int) := IntWalk.i64_in _ (by omega)
    go_enter Try.func136, Try.ntmps136
    go_wp2_with fail
    go_loopw [1, 5] (fun u i wr => ∃ (m : Nat) (L : Int), m ≤ n ∧ i = .int .i64 (m : Nat) ∧ u = .int .i64 L ∧ 0 ≤ L ∧ L ≤ left ∧ Below w.heap.size w wr ∧ Hid (∀ j r, j < m → rows[j]? = some r → (r).length ≤ 1048576)) (fun _ i _ => n - (intOf i).toNat)
    case atStart => exact ⟨0, _, Nat.zero_le _, rfl, rfl, by omega, by omega, Below.refl _ _, fun j r hj => absurd hj (by omega)⟩
    case round =>
      clear hw
      obtain ⟨m, L, hm, rfl, rfl, hL0, hL1, hb, hp⟩ := hrel
      by_cases hlt : m < n
      · obtain ⟨r, hr⟩ : ∃ r, rows[m]? = some r := ⟨rows[m]'(by rw [H.out.len]; exact hlt), List.getElem?_eq_getElem _⟩
        obtain ⟨a, Aj, nj, cj, rfl, ha, hc0, hsl⟩ := H.out.lie m r hr
        have k0 := (hb.cell (p := a.add m) (by rw [add_block]; exact ha)).trans hc0
        clear hc0
        have hlen := hsl.len
        have hnj : nj ≤ 9223372036854775807 := Nat.le_trans hsl.cap hsl.big
        have HR := Lib.hid hr
        have HLEN := Lib.hid hlen
        clear hr hsl hlen
        go_wp2_with fail
        (with_reducible refine (szInt64S_res _ _ _ _ _ (by omega) (by omega) hnj).mono ?_); rintro _ w1 ⟨q, rfl, b1, q0, q1, hq⟩
        have hb1 : Below w.heap.size w w1 := hb.trans (b1.mono hb.size)
        by_cases hq0 : q < 0
        · go_wp2
          go_ret
          exact ⟨-1, rfl, hb1, by omega, by omega, fun h9 => by omega⟩
        · have hnj2 := hq (by omega)
          clear hq
          go_wp2
          go_roundw
          case rel => exact ⟨m + 1, q, hlt, by go_num, rfl, by omega, by omega, hb1, fun j r' hj hr' => by
            rcases Nat.lt_succ_iff_lt_or_eq.1 hj with h5 | rfl
            · exact hp.out j r' h5 hr'
            · rw [HR.out] at hr'
              injection hr' with hr'
              subst hr'
              have := HLEN.out
              omega⟩
          case measure => simp [intOf]; omega
      · go_wp2
        go_ret
        exact ⟨L, rfl, hb, by omega, by omega, fun h9 => ⟨by omega, fun r hr => by
          obtain ⟨j, hj, rfl⟩ := List.getElem_of_mem hr
          exact hp.out j _ (by have := H.out.len; omega) (List.getElem?_eq_getElem hj)⟩⟩
set_option maxRecDepth 100000 in
set_option maxHeartbeats 1000000 in
theorem szWrite_res (q : Int) (A : Option Addr) (n c : Nat) (left : Int) (w : World) (h0 : 0 ≤ left) (h1 : left ≤ 1048576) (hn : n ≤ 9223372036854775807) :
    Calls Try.prog 168 #[.agg #[.int .i64 q, .slice A n c], .int .i64 left] w (SzRes w left (n ≤ 1048576)) := by
  go_enter Try.func168, Try.ntmps168
  go_wp2_with fail
  (with_reducible refine (szInt64S_res _ _ _ _ _ h0 h1 hn).mono ?_); rintro _ w1 ⟨r, rfl, b1, r0, r1, hr⟩
  have y1 := b1.size
  have hb1 : Below w.heap.size w w1 := by (repeat' (first | with_reducible exact Below.refl _ _ | with_reducible assumption | with_reducible refine Below.drew ?_ | with_reducible refine Below.alloc ?_ ?_ _ | with_reducible refine Below.setCell ?_ ?_ _ | with_reducible refine Below.trans ?_ (Below.mono (by assumption) ?_) | ((try simp only [World.heap_size_alloc, World.heap_size_drew, World.heap_size_setCell]); omega)))
  by_cases hq0 : r < 0
  · go_wp2
    go_ret
    exact ⟨-1, rfl, hb1, by omega, by omega, fun h9 => by omega⟩
  · go_wp2
    go_ret
    exact ⟨r, rfl, hb1, by omega, by omega, hr⟩
set_option maxRecDepth 100000 in
set_option maxHeartbeats 2000000 in
theorem szWriteS_res (A : Option Addr) (n c : Nat) (rows : List WriteD) (left : Int) (w : World) (h : ArgW w A n c rows) (h0 : 0 ≤ left) (h1 : left ≤ 1048576) :
    Calls Try.prog 137 #[.slice A n c, .int .i64 left] w (SzRes w left (n ≤ 1048576 ∧ ∀ r ∈ rows, (r.row).length ≤ 1048576)) := by
  have hn : n ≤ 9223372036854775807 := Nat.le_trans h.cap h.big
  have H := Lib.hid h
  clear h
  by_cases hbig : left < (n : Int)
  · go_enter Try.func137, Try.ntmps137
    go_wp2
    go_ret
    exact ⟨-1, rfl, Below.refl _ _, by omega, by omega, fun h9 => by omega⟩
  · have hw : IntKind.i64.wrap (left - (n : Int)) = left - (n : Int) := IntWalk.i64_in _ (by omega)
    go_enter Try.func137, Try.ntmps137
    go_wp2_with fail
    go_loopw [1, 5] (fun u i wr => ∃ (m : Nat) (L : Int), m ≤ n ∧ i = .int .i64 (m : Nat) ∧ u = .int .i64 L ∧ 0 ≤ L ∧ L ≤ left ∧ Below w.heap.size w wr ∧ Hid (∀ j r, j < m → rows[j]? = some r → (r.row).length ≤ 1048576)) (fun _ i _ => n - (intOf i).toNat)
    case atStart => exact ⟨0, _, Nat.zero_le _, rfl, rfl, by omega, by omega, Below.refl _ _, fun j r hj => absurd hj (by omega)⟩
    case round =>
      clear hw
      obtain ⟨m, L, hm, rfl, rfl, hL0, hL1, hb, hp⟩ := hrel
      by_cases hlt : m < n
      · obtain ⟨r, hr⟩ : ∃ r, rows[m]? = some r := ⟨rows[m]'(by rw [H.out.len]; exact hlt), List.getElem?_eq_getElem _⟩
        obtain ⟨a, Aj, nj, cj, rfl, ha, hc0, hc1, hsl⟩ := H.out.lie m r hr
        have k0 := (hb.cell (p := a.add (m * 2)) (by rw [add_block]; exact ha)).trans hc0
        have k1 := (hb.cell (p := ⟨(a.add (m * 2)).block, (a.add (m * 2)).off + 1, none⟩) (by simp only; rw [add_block]; exact ha)).trans hc1
        clear hc0 hc1
        have hlen := hsl.len
        have hnj : nj ≤ 9223372036854775807 := Nat.le_trans hsl.cap hsl.big
        have HR := Lib.hid hr
        have HLEN := Lib.hid hlen
        clear hr hsl hlen
        go_wp2_with fail
        (with_reducible refine (szWrite_res _ _ _ _ _ _ (by omega) (by omega) hnj).mono ?_); rintro _ w1 ⟨q, rfl, b1, q0, q1, hq⟩
        have hb1 : Below w.heap.size w w1 := hb.trans (b1.mono hb.size)
        by_cases hq0 : q < 0
        · go_wp2
          go_ret
          exact ⟨-1, rfl, hb1, by omega, by omega, fun h9 => by omega⟩
        · have hnj2 := hq (by omega)
          clear hq
          go_wp2
          go_roundw
          case rel => exact ⟨m + 1, q, hlt, by go_num, rfl, by omega, by omega, hb1, fun j r' hj hr' => by
            rcases Nat.lt_succ_iff_lt_or_eq.1 hj with h5 | rfl
            · exact hp.out j r' h5 hr'
            · rw [HR.out] at hr'
              injection hr' with hr'
              subst hr'
              have := HLEN.out
              omega⟩
          case measure => simp [intOf]; omega
      · go_wp2
        go_ret
        exact ⟨L, rfl, hb, by omega, by omega, fun h9 => ⟨by omega, fun r hr => by
          obtain ⟨j, hj, rfl⟩ := List.getElem_of_mem hr
          exact hp.out j _ (by have := H.out.len; omega) (List.getElem?_eq_getElem hj)⟩⟩
set_option maxRecDepth 100000 in
set_option maxHeartbeats 1000000 in
theorem szDisk_res (A0 : Option Addr) (n0 c0 : Nat) (k0 : List (List Int)) (A1 : Option Addr) (n1 c1 : Nat) (w0 : List WriteD) (left : Int) (w : World) (ha : ArgR w A0 n0 c0 k0) (hw : ArgW w A1 n1 c1 w0) (h0 : 0 ≤ left) (h1 : left ≤ 1048576) :
    Calls Try.prog 95 #[.agg #[.slice A0 n0 c0, .slice A1 n1 c1], .int .i64 left] w (SzRes w left ((n0 ≤ 1048576 ∧ ∀ r ∈ k0, r.length ≤ 1048576) ∧ (n1 ≤ 1048576 ∧ ∀ r ∈ w0, r.row.length ≤ 1048576))) := by
  go_enter Try.func95, Try.ntmps95
  go_wp2_with fail
  (with_reducible refine (szInt64SS_res _ _ _ _ _ _ (ha.below (by (repeat' (first | with_reducible exact Below.refl _ _ | with_reducible assumption | with_reducible refine Below.drew ?_ | with_reducible refine Below.alloc ?_ ?_ _ | with_reducible refine Below.setCell ?_ ?_ _ | with_reducible refine Below.trans ?_ (Below.mono (by assumption) ?_) | ((try simp only [World.heap_size_alloc, World.heap_size_drew, World.heap_size_setCell]); omega))))) h0 h1).mono ?_); rintro _ w1 ⟨r, rfl, b1, r0, r1, hr⟩
  have y1 := b1.size
  simp only [World.heap_size_alloc] at y1
  have hb1 : Below w.heap.size w w1 := by (repeat' (first | with_reducible exact Below.refl _ _ | with_reducible assumption | with_reducible refine Below.drew ?_ | with_reducible refine Below.alloc ?_ ?_ _ | with_reducible refine Below.setCell ?_ ?_ _ | with_reducible refine Below.trans ?_ (Below.mono (by assumption) ?_) | ((try simp only [World.heap_size_alloc, World.heap_size_drew, World.heap_size_setCell]); omega)))
  by_cases hq0 : r < 0
  · go_wp2
    go_ret
    exact ⟨-1, rfl, hb1, by omega, by omega, fun h9 => by omega⟩
  · have hr1 := hr (by omega)
    clear hr
    have e1 : w1.cell? ⟨w.heap.size, 1, none⟩ = some (.slice A1 n1 c1) := (b1.cell (p := ⟨w.heap.size, 1, none⟩) (by (try simp only [World.heap_size_alloc, World.heap_size_drew, World.heap_size_setCell]); omega)).trans (by simp)
    go_wp2_with fail
    (with_reducible refine (szWriteS_res _ _ _ _ _ _ (hw.below hb1) (by omega) (by omega)).mono ?_); rintro _ w2 ⟨s, rfl, b2, s0, s1, hs⟩
    have hb2 : Below w.heap.size w w2 := hb1.trans (b2.mono hb1.size)
    by_cases hs0 : s < 0
    · go_wp2
      go_ret
      exact ⟨-1, rfl, hb2, by omega, by omega, fun h9 => by omega⟩
    · go_wp2
      go_ret
      exact ⟨s, rfl, hb2, by omega, by omega, fun h9 => ⟨hr1, hs (by omega)⟩⟩
set_option maxRecDepth 100000 in
set_option maxHeartbeats 1000000 in
theorem szTwo_res (A0 : Option Addr) (n0 c0 : Nat) (k0 : List (List Int)) (A1 : Option Addr) (n1 c1 : Nat) (v0 : List WriteD) (A2 : Option Addr) (n2 c2 : Nat) (k2 : List (List Int)) (A3 : Option Addr) (n3 c3 : Nat) (v2 : List WriteD) (left : Int) (w : World) (ha : ArgR w A0 n0 c0 k0) (hw : ArgW w A1 n1 c1 v0) (ha2 : ArgR w A2 n2 c2 k2) (hw2 : ArgW w A3 n3 c3 v2) (h0 : 0 ≤ left) (h1 : left ≤ 1048576) :
    Calls Try.prog 37 #[.agg #[.slice A0 n0 c0, .slice A1 n1 c1, .slice A2 n2 c2, .slice A3 n3 c3], .int .i64 left] w (SzRes w left (((n0 ≤ 1048576 ∧ ∀ r ∈ k0, r.length ≤ 1048576) ∧ (n1 ≤ 1048576 ∧ ∀ r ∈ v0, r.row.length ≤ 1048576)) ∧ ((n2 ≤ 1048576 ∧ ∀ r ∈ k2, r.length ≤ 1048576) ∧ (n3 ≤ 1048576 ∧ ∀ r ∈ v2, r.row.length ≤ 1048576)))) := by
  go_enter Try.func37, Try.ntmps37
  go_wp2_with fail
  (with_reducible refine (szDisk_res _ _ _ _ _ _ _ _ _ _ (ha.below (by (repeat' (first | with_reducible exact Below.refl _ _ | with_reducible assumption | with_reducible refine Below.drew ?_ | with_reducible refine Below.alloc ?_ ?_ _ | with_reducible refine Below.setCell ?_ ?_ _ | with_reducible refine Below.trans ?_ (Below.mono (by assumption) ?_) | ((try simp only [World.heap_size_alloc, World.heap_size_drew, World.heap_size_setCell]); omega))))) (hw.below (by (repeat' (first | with_reducible exact Below.refl _ _ | with_reducible assumption | with_reducible refine Below.drew ?_ | with_reducible refine Below.alloc ?_ ?_ _ | with_reducible refine Below.setCell ?_ ?_ _ | with_reducible refine Below.trans ?_ (Below.mono (by assumption) ?_) | ((try simp only [World.heap_size_alloc, World.heap_size_drew, World.heap_size_setCell]); omega))))) h0 h1).mono ?_); rintro _ w1 ⟨r, rfl, b1, r0, r1, hr⟩
  have y1 := b1.size
  simp only [World.heap_size_alloc] at y1
  have hb1 : Below w.heap.size w w1 := by (repeat' (first | with_reducible exact Below.refl _ _ | with_reducible assumption | with_reducible refine Below.drew ?_ | with_reducible refine Below.alloc ?_ ?_ _ | with_reducible refine Below.setCell ?_ ?_ _ | with_reducible refine Below.trans ?_ (Below.mono (by assumption) ?_) | ((try simp only [World.heap_size_alloc, World.heap_size_drew, World.heap_size_setCell]); omega)))
  by_cases hq0 : r < 0
  · go_wp2
    go_ret
    exact ⟨-1, rfl, hb1, by omega, by omega, fun h9 => by omega⟩
  · have hr1 := hr (by omega)
    clear hr
    have e2 : w1.cell? ⟨w.heap.size, 2, none⟩ = some (.slice A2 n2 c2) := (b1.cell (p := ⟨w.heap.size, 2, none⟩) (by (try simp only [World.heap_size_alloc, World.heap_size_drew, World.heap_size_setCell]); omega)).trans (by simp)
    have e3 : w1.cell? ⟨w.heap.size, 3, none⟩ = some (.slice A3 n3 c3) := (b1.cell (p := ⟨w.heap.size, 3, none⟩) (by (try simp only [World.heap_size_alloc, World.heap_size_drew, World.heap_size_setCell]); omega)).trans (by simp)
    go_wp2_with fail
    (with_reducible refine (szDisk_res _ _ _ _ _ _ _ _ _ _ (ha2.below hb1) (hw2.below hb1) (by omega) (by omega)).mono ?_); rintro _ w2 ⟨s, rfl, b2, s0, s1, hs⟩
    have hb2 : Below w.heap.size w w2 := hb1.trans (b2.mono hb1.size)
    by_cases hs0 : s < 0
    · go_wp2
      go_ret
      exact ⟨-1, rfl, hb2, by omega, by omega, fun h9 => by omega⟩
    · go_wp2
      go_ret
      exact ⟨s, rfl, hb2, by omega, by omega, fun h9 => ⟨hr1, hs (by omega)⟩⟩

end Go.Proofs.Ytgnilmdaegnaaaa
