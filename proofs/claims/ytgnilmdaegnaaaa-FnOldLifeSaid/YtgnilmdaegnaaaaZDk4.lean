/- Disks: comparisons, and which are valid. No conditions. -/
import Derived.Test.YtgnilmdaegnaaaaZDk3
import Derived.Test.YtgnilmdaegnaaaaZEnts
set_option linter.unusedSimpArgs false
set_option linter.unusedVariables false
namespace Go.Proofs.Ytgnilmdaegnaaaa
open Go.RowKit
def rowOk (r : List Int) : Bool := decide (r.length ≤ 48) && r.all (fun x => btw x 0 1000000000)
theorem rowOk_of {r : List Int} (h : r.length ≤ 48) (h2 : ∀ (j : Nat) (x : Int), r[j]? = some x → btw x 0 1000000000 = true) : rowOk r = true := by
  simp only [rowOk, Bool.and_eq_true, decide_eq_true_eq, List.all_eq_true]
  exact ⟨h, fun x hx => by
    obtain ⟨j, hj, rfl⟩ := List.getElem_of_mem hx
    exact h2 j _ (List.getElem?_eq_getElem hj)⟩
theorem rowOk_long {r : List Int} (h : 48 < r.length) : rowOk r = false := by
  simp only [rowOk, Bool.and_eq_false_iff, decide_eq_false_iff_not]
  exact .inl (by omega)
theorem rowOk_bad {r : List Int} {j : Nat} {x : Int} (h : r[j]? = some x) (h2 : btw x 0 1000000000 = false) : rowOk r = false := by
  simp only [rowOk, Bool.and_eq_false_iff, List.all_eq_false]
  exact .inr ⟨x, List.mem_of_getElem? h, by simp [h2]⟩
set_option maxRecDepth 100000 in
set_option maxHeartbeats 1000000 in
theorem rowOk_any (A : Option Addr) (n c lo hi : Nat) (zs : List Int) (w : World) (h : Sl w lo hi 1 A n c zs) :
    Calls Try.prog 111 #[.slice A n c] w fun e w' => e = .returned (.bool (rowOk zs)) ∧ w = w' := by
  have hn : n ≤ 9223372036854775807 := Nat.le_trans h.cap h.big
  have HL : Hid (zs.length = n) := Lib.hid (by have := h.len; omega)
  rcases Nat.lt_or_ge 48 n with hbig | hsm
  · rw [rowOk_long (by rw [HL.out]; exact hbig)]
    clear h
    go_enter Try.func111, Try.ntmps111
    go_wp2
    go_ret
    exact ⟨rfl, rfl⟩
  have H := Lib.hid h
  clear h
  go_enter Try.func111, Try.ntmps111
  go_wp2
  go_loop [4, 10] (fun _ i => ∃ m : Nat, m ≤ n ∧ i = .int .i64 m ∧ Hid (∀ (j : Nat) (x : Int), j < m → zs[j]? = some x → btw x 0 1000000000 = true)) (fun _ i => n - (intOf i).toNat)
  case atStart => exact ⟨0, Nat.zero_le _, rfl, fun j x hj => absurd hj (by omega)⟩
  case round =>
    obtain ⟨m, hm, rfl, hp⟩ := hrel
    by_cases hlt : m < n
    · obtain ⟨g, off, x, rfl, _, _, hx, p0⟩ := H.out.int hlt
      have HX := Lib.hid hx
      clear hx
      cases hb : btw x 0 1000000000 with
      | true =>
        have HB := Lib.hid hb
        go_wp2_with (go_at_call 86; refine (between_any _ _ _ _).mono ?_; rintro e2 w2 ⟨rfl, rfl⟩)
        go_round
        case rel => exact ⟨m + 1, hlt, by go_num, Lib.hid (fun j y hj hy => by
          rcases Nat.lt_succ_iff_lt_or_eq.1 hj with h5 | rfl
          · exact hp.out j y h5 hy
          · rw [HX.out] at hy; injection hy with hy; subst hy; exact HB.out)⟩
        case measure => simp [intOf]; omega
      | false =>
        have HB := Lib.hid hb
        go_wp2_with (go_at_call 86; refine (between_any _ _ _ _).mono ?_; rintro e2 w2 ⟨rfl, rfl⟩)
        go_ret
        exact ⟨by rw [rowOk_bad HX.out HB.out]; rfl, rfl⟩
    · go_wp2
      go_ret
      have hmn : m = n := by omega
      exact ⟨by rw [rowOk_of (by rw [HL.out]; exact hsm) (fun j x hx => hp.out j x (by have := (List.getElem?_eq_some_iff.1 hx).1; have := HL.out; omega) hx)]; rfl, rfl⟩
set_option maxRecDepth 100000 in
set_option maxHeartbeats 1000000 in
theorem sectorOk_any (A0 : Option Addr) (n0 c0 : Nat) (A1 : Option Addr) (n1 c1 : Nat) (q : Int) (w : World) (hn : n0 ≤ 1000000) :
    Calls Try.prog 110 #[.agg #[.slice A0 n0 c0, .slice A1 n1 c1], .int .i64 q] w (BoolRes w (btw q 0 ((n0 : Int) - 1))) := by
  have hw : IntKind.i64.wrap ((n0 : Int) - 1) = (n0 : Int) - 1 := IntWalk.i64_in _ (by omega)
  go_enter Try.func110, Try.ntmps110
  go_wp2_with (go_at_call 86; refine (between_any _ _ _ _).mono ?_; rintro e2 w2 ⟨rfl, rfl⟩)
  go_ret
  exact ⟨rfl, by (repeat' (first | with_reducible exact Below.refl _ _ | with_reducible assumption | with_reducible refine Below.drew ?_ | with_reducible refine Below.alloc ?_ ?_ _ | with_reducible refine Below.setCell ?_ ?_ _ | with_reducible refine Below.trans ?_ (Below.mono (by assumption) ?_) | ((try simp only [World.heap_size_alloc, World.heap_size_drew, World.heap_size_setCell]); omega)))⟩
def wrOk (k : Nat) (x : WriteD) : Bool := btw x.at_ 0 ((k : Int) - 1) && rowOk x.row
def diskOk (k0 : List (List Int)) (v0 : List WriteD) : Bool := decide (1 ≤ k0.length) && (decide (k0.length ≤ 40) && (decide (v0.length ≤ 60) && (k0.all rowOk && v0.all (wrOk k0.length))))
theorem diskOk_of {k0 : List (List Int)} {v0 : List WriteD} (h0 : 1 ≤ k0.length) (h1 : k0.length ≤ 40) (h2 : v0.length ≤ 60) (h3 : ∀ (j : Nat) r, k0[j]? = some r → rowOk r = true) (h4 : ∀ (j : Nat) r, v0[j]? = some r → wrOk k0.length r = true) : diskOk k0 v0 = true := by
  simp only [diskOk, Bool.and_eq_true, decide_eq_true_eq, List.all_eq_true]
  refine ⟨h0, h1, h2, fun x hx => ?_, fun x hx => ?_⟩
  · obtain ⟨j, hj, rfl⟩ := List.getElem_of_mem hx
    exact h3 j _ (List.getElem?_eq_getElem hj)
  · obtain ⟨j, hj, rfl⟩ := List.getElem_of_mem hx
    exact h4 j _ (List.getElem?_eq_getElem hj)
theorem diskOk_size {k0 : List (List Int)} {v0 : List WriteD} (h : k0.length < 1 ∨ 40 < k0.length ∨ 60 < v0.length) : diskOk k0 v0 = false := by
  cases hd : diskOk k0 v0 with
  | false => rfl
  | true =>
    simp only [diskOk, Bool.and_eq_true, decide_eq_true_eq] at hd
    omega
theorem diskOk_row {k0 : List (List Int)} {v0 : List WriteD} {j : Nat} {r : List Int} (h : k0[j]? = some r) (h2 : rowOk r = false) : diskOk k0 v0 = false := by
  cases hd : diskOk k0 v0 with
  | false => rfl
  | true =>
    simp only [diskOk, Bool.and_eq_true, List.all_eq_true] at hd
    rw [hd.2.2.2.1 r (List.mem_of_getElem? h)] at h2
    cases h2
theorem diskOk_wr {k0 : List (List Int)} {v0 : List WriteD} {j : Nat} {r : WriteD} (h : v0[j]? = some r) (h2 : wrOk k0.length r = false) : diskOk k0 v0 = false := by
  cases hd : diskOk k0 v0 with
  | false => rfl
  | true =>
    simp only [diskOk, Bool.and_eq_true, List.all_eq_true] at hd
    rw [hd.2.2.2.2 r (List.mem_of_getElem? h)] at h2
    cases h2
def twoOk (k0 : List (List Int)) (v0 : List WriteD) (k2 : List (List Int)) (v2 : List WriteD) : Bool := diskOk k0 v0 && (diskOk k2 v2 && decide (k0.length = k2.length))
set_option maxRecDepth 100000 in
set_option maxHeartbeats 4000000 in
theorem diskOk_any (A0 : Option Addr) (n0 c0 : Nat) (k0 : List (List Int)) (A1 : Option Addr) (n1 c1 : Nat) (v0 : List WriteD) (lo hi : Nat) (w : World) (h0 : SlR w lo hi A0 n0 c0 k0) (h1 : SlW w lo hi A1 n1 c1 v0) (hhi : hi ≤ w.heap.size) :
    Calls Try.prog 108 #[.agg #[.slice A0 n0 c0, .slice A1 n1 c1]] w (BoolRes w (diskOk k0 v0)) := by
  have L0 := Lib.hid h0.len
  have L1 := Lib.hid h1.len
  have hn0 : n0 ≤ 9223372036854775807 := Nat.le_trans h0.cap h0.big
  have hn1 : n1 ≤ 9223372036854775807 := Nat.le_trans h1.cap h1.big
  have H0 := Lib.hid h0
  have H1 := Lib.hid h1
  clear h0 h1
  by_cases z0 : n0 < 1
  · rw [diskOk_size (by rw [L0.out, L1.out]; omega)]
    have hz0 : n0 = 0 := by omega
    subst hz0
    go_enter Try.func108, Try.ntmps108
    go_wp2
    go_ret
    exact ⟨rfl, by (repeat' (first | with_reducible exact Below.refl _ _ | with_reducible assumption | with_reducible refine Below.drew ?_ | with_reducible refine Below.alloc ?_ ?_ _ | with_reducible refine Below.setCell ?_ ?_ _ | with_reducible refine Below.trans ?_ (Below.mono (by assumption) ?_) | ((try simp only [World.heap_size_alloc, World.heap_size_drew, World.heap_size_setCell]); omega)))⟩
  by_cases z1 : 40 < n0
  · rw [diskOk_size (by rw [L0.out, L1.out]; omega)]
    have z2 : 0 < n0 := by omega
    have z3 : 1 ≤ n0 := by omega
    go_enter Try.func108, Try.ntmps108
    go_wp2
    go_ret
    exact ⟨rfl, by (repeat' (first | with_reducible exact Below.refl _ _ | with_reducible assumption | with_reducible refine Below.drew ?_ | with_reducible refine Below.alloc ?_ ?_ _ | with_reducible refine Below.setCell ?_ ?_ _ | with_reducible refine Below.trans ?_ (Below.mono (by assumption) ?_) | ((try simp only [World.heap_size_alloc, World.heap_size_drew, World.heap_size_setCell]); omega)))⟩
  by_cases z4 : 60 < n1
  · rw [diskOk_size (by rw [L0.out, L1.out]; omega)]
    have z2 : 0 < n0 := by omega
    have z3 : 1 ≤ n0 := by omega
    have z5 : n0 ≤ 40 := by omega
    go_enter Try.func108, Try.ntmps108
    go_wp2
    go_ret
    exact ⟨rfl, by (repeat' (first | with_reducible exact Below.refl _ _ | with_reducible assumption | with_reducible refine Below.drew ?_ | with_reducible refine Below.alloc ?_ ?_ _ | with_reducible refine Below.setCell ?_ ?_ _ | with_reducible refine Below.trans ?_ (Below.mono (by assumption) ?_) | ((try simp only [World.heap_size_alloc, World.heap_size_drew, World.heap_size_setCell]); omega)))⟩
  have z2 : 0 < n0 := by omega
  have z3 : 1 ≤ n0 := by omega
  have z5 : n0 ≤ 40 := by omega
  have z6 : n1 ≤ 60 := by omega
  obtain ⟨bo, hbo⟩ : ∃ bo, diskOk k0 v0 = bo := ⟨_, rfl⟩
  rw [hbo]
  have HBO := Lib.hid hbo
  clear hbo z0 z1 z4
  go_enter Try.func108, Try.ntmps108
  go_wp2_with fail
  go_loopw [4, 26] (fun _ i wr => ∃ m : Nat, m ≤ n0 ∧ i = .int .i64 m ∧ Below (w.heap.size + 1) (w.alloc (.cells #[.slice A0 n0 c0, .slice A1 n1 c1] 67)) wr ∧ Hid (∀ (j : Nat) r, j < m → k0[j]? = some r → rowOk r = true)) (fun _ i _ => n0 - (intOf i).toNat)
  case atStart => exact ⟨0, Nat.zero_le _, rfl, Below.refl _ _, fun j r hj => absurd hj (by omega)⟩
  case round =>
    obtain ⟨m, hm, rfl, hb, hp⟩ := hrel
    have hbz := hb.size
    simp only [World.heap_size_alloc] at hbz
    have d0 : wr.cell? ⟨w.heap.size, 0, none⟩ = some (.slice A0 n0 c0) := (hb.cell (p := ⟨w.heap.size, 0, none⟩) (show w.heap.size < w.heap.size + 1 by omega)).trans (by simp)
    have d1 : wr.cell? ⟨w.heap.size, 1, none⟩ = some (.slice A1 n1 c1) := (hb.cell (p := ⟨w.heap.size, 1, none⟩) (show w.heap.size < w.heap.size + 1 by omega)).trans (by simp)
    have hw : Below w.heap.size w wr := ((Below.refl _ _).alloc (Nat.le_refl _) _).trans (hb.mono (by omega))
    by_cases hlt : m < n0
    · obtain ⟨r, hr⟩ : ∃ r, k0[m]? = some r := ⟨k0[m]'(by rw [L0.out]; exact hlt), List.getElem?_eq_getElem _⟩
      obtain ⟨g, off, Aj, nj, cj, rfl, _, hg, p0, hs⟩ := H0.out.lie m r hr
      have r0 := (hw.cell (p := ⟨g, off + m, none⟩) (show g < w.heap.size by omega)).trans p0
      have HS := Lib.hid (hs.below hw hhi)
      have HR := Lib.hid hr
      clear p0 hs hr
      cases hrk : rowOk r with
      | true =>
        have HRK := Lib.hid hrk
        have CO : Calls Try.prog 111 #[.slice Aj nj cj] wr fun e w' => e = .returned (.bool true) ∧ wr = w' := by
          have h7 := rowOk_any _ _ _ _ _ r wr HS.out
          rw [hrk] at h7
          exact h7
        have HCO := Lib.hid CO
        clear CO hrk
        go_wp2_with fail
        (with_reducible refine (HCO.out).mono ?_); rintro _ _ ⟨rfl, rfl⟩
        go_wp2_with fail
        go_roundw
        case rel => exact ⟨m + 1, hlt, by go_num, hb, Lib.hid (fun j r' hj hr' => by
          rcases Nat.lt_succ_iff_lt_or_eq.1 hj with h5 | rfl
          · exact hp.out j r' h5 hr'
          · rw [HR.out] at hr'; injection hr' with hr'; subst hr'; exact HRK.out)⟩
        case measure => simp [intOf]; omega
      | false =>
        have hbf : bo = false := HBO.out.symm.trans (diskOk_row HR.out hrk)
        have CO : Calls Try.prog 111 #[.slice Aj nj cj] wr fun e w' => e = .returned (.bool false) ∧ wr = w' := by
          have h7 := rowOk_any _ _ _ _ _ r wr HS.out
          rw [hrk] at h7
          exact h7
        have HCO := Lib.hid CO
        have HBF := Lib.hid hbf
        clear CO hrk hbf
        go_wp2_with fail
        (with_reducible refine (HCO.out).mono ?_); rintro _ _ ⟨rfl, rfl⟩
        go_wp2_with fail
        go_ret
        rw [HBF.out]
        exact ⟨rfl, hw⟩
    · have hmn : m = n0 := by omega
      have HP : Hid (∀ (j : Nat) r, k0[j]? = some r → rowOk r = true) := Lib.hid (fun j r hr => hp.out j r (by have := (List.getElem?_eq_some_iff.1 hr).1; rw [L0.out] at this; omega) hr)
      have HB1 := Lib.hid hb
      clear hb hp hw d0 d1 hmn
      have d0 : wr.cell? ⟨w.heap.size, 0, none⟩ = some (.slice A0 n0 c0) := (HB1.out.cell (p := ⟨w.heap.size, 0, none⟩) (show w.heap.size < w.heap.size + 1 by omega)).trans (by simp)
      have d1 : wr.cell? ⟨w.heap.size, 1, none⟩ = some (.slice A1 n1 c1) := (HB1.out.cell (p := ⟨w.heap.size, 1, none⟩) (show w.heap.size < w.heap.size + 1 by omega)).trans (by simp)
      go_wp2_with fail
      clear d0 d1
      obtain ⟨wo, rfl⟩ : ∃ wo, wo = wr := ⟨wr, rfl⟩
      go_loopw [6, 37] (fun _ i wr => ∃ q : Nat, q ≤ n1 ∧ i = .int .i64 q ∧ Below (w.heap.size + 1) (w.alloc (.cells #[.slice A0 n0 c0, .slice A1 n1 c1] 67)) wr ∧ Hid (∀ (j : Nat) r, j < q → v0[j]? = some r → wrOk n0 r = true)) (fun _ i _ => n1 - (intOf i).toNat)
      case atStart => exact ⟨0, Nat.zero_le _, rfl, HB1.out, fun j r hj => absurd hj (by omega)⟩
      case round =>
        clear HB1 hbz
        obtain ⟨q, hq9, rfl, hb, hp⟩ := hrel
        have hbz := hb.size
        simp only [World.heap_size_alloc] at hbz
        have d0 : wr.cell? ⟨w.heap.size, 0, none⟩ = some (.slice A0 n0 c0) := (hb.cell (p := ⟨w.heap.size, 0, none⟩) (show w.heap.size < w.heap.size + 1 by omega)).trans (by simp)
        have d1 : wr.cell? ⟨w.heap.size, 1, none⟩ = some (.slice A1 n1 c1) := (hb.cell (p := ⟨w.heap.size, 1, none⟩) (show w.heap.size < w.heap.size + 1 by omega)).trans (by simp)
        have hw : Below w.heap.size w wr := ((Below.refl _ _).alloc (Nat.le_refl _) _).trans (hb.mono (by omega))
        by_cases hlt2 : q < n1
        · obtain ⟨r, hr⟩ : ∃ r, v0[q]? = some r := ⟨v0[q]'(by rw [L1.out]; exact hlt2), List.getElem?_eq_getElem _⟩
          obtain ⟨g, off, Aj, nj, cj, rfl, _, hg, p0, p1, hs⟩ := H1.out.lie q r hr
          have r0 := (hw.cell (p := ⟨g, off + q * 2, none⟩) (show g < w.heap.size by omega)).trans p0
          have r1 := (hw.cell (p := ⟨g, off + q * 2 + 1, none⟩) (show g < w.heap.size by omega)).trans p1
          have HS := Lib.hid (hs.below hw hhi)
          have HR := Lib.hid hr
          have HB := Lib.hid hb
          have HW := Lib.hid hw
          clear p0 p1 hs hr hb hw
          cases hs1 : btw r.at_ 0 ((n0 : Int) - 1) with
          | false =>
            have hbf : bo = false := HBO.out.symm.trans (diskOk_wr HR.out (by rw [L0.out]; unfold wrOk; rw [hs1]; rfl))
            have HBF := Lib.hid hbf
            have C1 : ∀ W, Calls Try.prog 110 #[.agg #[.slice A0 n0 c0, .slice (some ⟨g, off, none⟩) n1 c1], .int .i64 r.at_] W fun e w' => e = .returned (.bool false) ∧ Below W.heap.size W w' := fun W => by
              have h7 := sectorOk_any A0 n0 c0 (some ⟨g, off, none⟩) n1 c1 r.at_ W (by omega)
              rw [hs1] at h7
              exact h7
            have HC1 := Lib.hid C1
            clear C1
            clear hs1 hbf
            have hbw0 : Below wr.heap.size wr (wr.alloc (.cells #[.int .i64 r.at_, .slice Aj nj cj] 135)) := by (repeat' (first | with_reducible exact Below.refl _ _ | with_reducible assumption | with_reducible refine Below.drew ?_ | with_reducible refine Below.alloc ?_ ?_ _ | with_reducible refine Below.setCell ?_ ?_ _ | with_reducible refine Below.trans ?_ (Below.mono (by assumption) ?_) | ((try simp only [World.heap_size_alloc, World.heap_size_drew, World.heap_size_setCell]); omega)))
            have hwz : w.heap.size < wr.heap.size := by omega
            have g0 : (wr.alloc (.cells #[.int .i64 r.at_, .slice Aj nj cj] 135)).cell? ⟨w.heap.size, 0, none⟩ = some (.slice A0 n0 c0) := (World.cell?_alloc_lt _ _ _ hwz).trans d0
            have g1 : (wr.alloc (.cells #[.int .i64 r.at_, .slice Aj nj cj] 135)).cell? ⟨w.heap.size, 1, none⟩ = some (.slice (some ⟨g, off, none⟩) n1 c1) := (World.cell?_alloc_lt _ _ _ hwz).trans d1
            go_wp2_with fail
            (with_reducible refine (HC1.out _).mono ?_); rintro _ w2 ⟨rfl, b2⟩
            have y2 := b2.size
            simp only [World.heap_size_alloc] at y2
            have hb2 : Below wr.heap.size wr w2 := hbw0.trans (b2.mono (by (try simp only [World.heap_size_alloc, World.heap_size_drew, World.heap_size_setCell]); omega))
            have e1 : w2.cell? ⟨wr.heap.size, 1, none⟩ = some (.slice Aj nj cj) := (b2.cell (p := ⟨wr.heap.size, 1, none⟩) (by (try simp only [World.heap_size_alloc, World.heap_size_drew, World.heap_size_setCell]); omega)).trans (by simp)
            clear b2 g0 g1
            have hb3 := hb2
            go_wp2_with fail
            go_ret
            rw [HBF.out]
            exact ⟨rfl, HW.out.trans (hb3.mono HW.out.size)⟩
          | true =>
            cases hs2 : rowOk r.row with
            | false =>
              have hbf : bo = false := HBO.out.symm.trans (diskOk_wr HR.out (by rw [L0.out]; unfold wrOk; rw [hs1, hs2]; rfl))
              have HBF := Lib.hid hbf
              have C1 : ∀ W, Calls Try.prog 110 #[.agg #[.slice A0 n0 c0, .slice (some ⟨g, off, none⟩) n1 c1], .int .i64 r.at_] W fun e w' => e = .returned (.bool true) ∧ Below W.heap.size W w' := fun W => by
                have h7 := sectorOk_any A0 n0 c0 (some ⟨g, off, none⟩) n1 c1 r.at_ W (by omega)
                rw [hs1] at h7
                exact h7
              have HC1 := Lib.hid C1
              clear C1
              have C2 : ∀ W, Below wr.heap.size wr W → Calls Try.prog 111 #[.slice Aj nj cj] W fun e w' => e = .returned (.bool false) ∧ Below W.heap.size W w' := fun W hW => by
                have h7 := rowOk_any _ _ _ _ _ r.row W (HS.out.below hW (by omega))
                rw [hs2] at h7
                exact h7.mono fun e w' h8 => ⟨h8.1, by rw [← h8.2]; exact Below.refl _ _⟩
              have HC2 := Lib.hid C2
              clear C2
              clear hs1 hs2 hbf
              have hbw0 : Below wr.heap.size wr (wr.alloc (.cells #[.int .i64 r.at_, .slice Aj nj cj] 135)) := by (repeat' (first | with_reducible exact Below.refl _ _ | with_reducible assumption | with_reducible refine Below.drew ?_ | with_reducible refine Below.alloc ?_ ?_ _ | with_reducible refine Below.setCell ?_ ?_ _ | with_reducible refine Below.trans ?_ (Below.mono (by assumption) ?_) | ((try simp only [World.heap_size_alloc, World.heap_size_drew, World.heap_size_setCell]); omega)))
              have hwz : w.heap.size < wr.heap.size := by omega
              have g0 : (wr.alloc (.cells #[.int .i64 r.at_, .slice Aj nj cj] 135)).cell? ⟨w.heap.size, 0, none⟩ = some (.slice A0 n0 c0) := (World.cell?_alloc_lt _ _ _ hwz).trans d0
              have g1 : (wr.alloc (.cells #[.int .i64 r.at_, .slice Aj nj cj] 135)).cell? ⟨w.heap.size, 1, none⟩ = some (.slice (some ⟨g, off, none⟩) n1 c1) := (World.cell?_alloc_lt _ _ _ hwz).trans d1
              go_wp2_with fail
              (with_reducible refine (HC1.out _).mono ?_); rintro _ w2 ⟨rfl, b2⟩
              have y2 := b2.size
              simp only [World.heap_size_alloc] at y2
              have hb2 : Below wr.heap.size wr w2 := hbw0.trans (b2.mono (by (try simp only [World.heap_size_alloc, World.heap_size_drew, World.heap_size_setCell]); omega))
              have e1 : w2.cell? ⟨wr.heap.size, 1, none⟩ = some (.slice Aj nj cj) := (b2.cell (p := ⟨wr.heap.size, 1, none⟩) (by (try simp only [World.heap_size_alloc, World.heap_size_drew, World.heap_size_setCell]); omega)).trans (by simp)
              clear b2 g0 g1
              go_wp2_with fail
              (with_reducible refine (HC2.out _ hb2).mono ?_); rintro _ w3 ⟨rfl, b3⟩
              have hb3 : Below wr.heap.size wr w3 := hb2.trans (b3.mono hb2.size)
              go_wp2_with fail
              go_ret
              rw [HBF.out]
              exact ⟨rfl, HW.out.trans (hb3.mono HW.out.size)⟩
            | true =>
              have hok : wrOk n0 r = true := by unfold wrOk; rw [hs1, hs2]; rfl
              have HOK := Lib.hid hok
              have C1 : ∀ W, Calls Try.prog 110 #[.agg #[.slice A0 n0 c0, .slice (some ⟨g, off, none⟩) n1 c1], .int .i64 r.at_] W fun e w' => e = .returned (.bool true) ∧ Below W.heap.size W w' := fun W => by
                have h7 := sectorOk_any A0 n0 c0 (some ⟨g, off, none⟩) n1 c1 r.at_ W (by omega)
                rw [hs1] at h7
                exact h7
              have HC1 := Lib.hid C1
              clear C1
              have C2 : ∀ W, Below wr.heap.size wr W → Calls Try.prog 111 #[.slice Aj nj cj] W fun e w' => e = .returned (.bool true) ∧ Below W.heap.size W w' := fun W hW => by
                have h7 := rowOk_any _ _ _ _ _ r.row W (HS.out.below hW (by omega))
                rw [hs2] at h7
                exact h7.mono fun e w' h8 => ⟨h8.1, by rw [← h8.2]; exact Below.refl _ _⟩
              have HC2 := Lib.hid C2
              clear C2
              clear hs1 hs2 hok
              have hbw0 : Below wr.heap.size wr (wr.alloc (.cells #[.int .i64 r.at_, .slice Aj nj cj] 135)) := by (repeat' (first | with_reducible exact Below.refl _ _ | with_reducible assumption | with_reducible refine Below.drew ?_ | with_reducible refine Below.alloc ?_ ?_ _ | with_reducible refine Below.setCell ?_ ?_ _ | with_reducible refine Below.trans ?_ (Below.mono (by assumption) ?_) | ((try simp only [World.heap_size_alloc, World.heap_size_drew, World.heap_size_setCell]); omega)))
              have hwz : w.heap.size < wr.heap.size := by omega
              have g0 : (wr.alloc (.cells #[.int .i64 r.at_, .slice Aj nj cj] 135)).cell? ⟨w.heap.size, 0, none⟩ = some (.slice A0 n0 c0) := (World.cell?_alloc_lt _ _ _ hwz).trans d0
              have g1 : (wr.alloc (.cells #[.int .i64 r.at_, .slice Aj nj cj] 135)).cell? ⟨w.heap.size, 1, none⟩ = some (.slice (some ⟨g, off, none⟩) n1 c1) := (World.cell?_alloc_lt _ _ _ hwz).trans d1
              go_wp2_with fail
              (with_reducible refine (HC1.out _).mono ?_); rintro _ w2 ⟨rfl, b2⟩
              have y2 := b2.size
              simp only [World.heap_size_alloc] at y2
              have hb2 : Below wr.heap.size wr w2 := hbw0.trans (b2.mono (by (try simp only [World.heap_size_alloc, World.heap_size_drew, World.heap_size_setCell]); omega))
              have e1 : w2.cell? ⟨wr.heap.size, 1, none⟩ = some (.slice Aj nj cj) := (b2.cell (p := ⟨wr.heap.size, 1, none⟩) (by (try simp only [World.heap_size_alloc, World.heap_size_drew, World.heap_size_setCell]); omega)).trans (by simp)
              clear b2 g0 g1
              go_wp2_with fail
              (with_reducible refine (HC2.out _ hb2).mono ?_); rintro _ w3 ⟨rfl, b3⟩
              have hb3 : Below wr.heap.size wr w3 := hb2.trans (b3.mono hb2.size)
              go_wp2_with fail
              go_roundw
              case rel => exact ⟨q + 1, hlt2, by go_num, HB.out.trans (hb3.mono (by omega)), Lib.hid (fun j r' hj hr' => by
                rcases Nat.lt_succ_iff_lt_or_eq.1 hj with h5 | rfl
                · exact hp.out j r' h5 hr'
                · rw [HR.out] at hr'; injection hr' with hr'; subst hr'; exact HOK.out)⟩
              case measure => simp [intOf]; omega
        · have hbt : bo = true := HBO.out.symm.trans (diskOk_of (by rw [L0.out]; exact z3) (by rw [L0.out]; exact z5) (by rw [L1.out]; exact z6) HP.out (fun j r hr => by
            rw [L0.out]
            exact hp.out j r (by have := (List.getElem?_eq_some_iff.1 hr).1; rw [L1.out] at this; omega) hr))
          have HBT := Lib.hid hbt
          clear hbt
          go_wp2_with fail
          go_ret
          rw [HBT.out]
          exact ⟨rfl, hw⟩
set_option maxRecDepth 100000 in
set_option maxHeartbeats 4000000 in
theorem twoOk_any (A0 : Option Addr) (n0 c0 : Nat) (k0 : List (List Int)) (A1 : Option Addr) (n1 c1 : Nat) (v0 : List WriteD) (A2 : Option Addr) (n2 c2 : Nat) (k2 : List (List Int)) (A3 : Option Addr) (n3 c3 : Nat) (v2 : List WriteD) (lo hi : Nat) (w : World) (h0 : SlR w lo hi A0 n0 c0 k0) (h1 : SlW w lo hi A1 n1 c1 v0) (h2 : SlR w lo hi A2 n2 c2 k2) (h3 : SlW w lo hi A3 n3 c3 v2) (hhi : hi ≤ w.heap.size) :
    Calls Try.prog 98 #[.agg #[.slice A0 n0 c0, .slice A1 n1 c1, .slice A2 n2 c2, .slice A3 n3 c3]] w (BoolRes w (twoOk k0 v0 k2 v2)) := by
  have L0 := Lib.hid h0.len
  have L2 := Lib.hid h2.len
  have C1 : ∀ W, Below w.heap.size w W → Calls Try.prog 108 #[.agg #[.slice A0 n0 c0, .slice A1 n1 c1]] W (BoolRes W (diskOk k0 v0)) := fun W hW => diskOk_any A0 n0 c0 k0 A1 n1 c1 v0 lo hi W (h0.below hW hhi) (h1.below hW hhi) (Nat.le_trans hhi hW.size)
  have C2 : ∀ W, Below w.heap.size w W → Calls Try.prog 108 #[.agg #[.slice A2 n2 c2, .slice A3 n3 c3]] W (BoolRes W (diskOk k2 v2)) := fun W hW => diskOk_any A2 n2 c2 k2 A3 n3 c3 v2 lo hi W (h2.below hW hhi) (h3.below hW hhi) (Nat.le_trans hhi hW.size)
  have hn0 : n0 ≤ 9223372036854775807 := Nat.le_trans h0.cap h0.big
  have hn2 : n2 ≤ 9223372036854775807 := Nat.le_trans h2.cap h2.big
  have e9 : twoOk k0 v0 k2 v2 = (diskOk k0 v0 && (diskOk k2 v2 && decide ((n0 : Int) = (n2 : Int)))) := by
    unfold twoOk
    rw [L0.out, L2.out]
    rw [show decide (n0 = n2) = decide ((n0 : Int) = (n2 : Int)) from decide_eq_decide.2 (by omega)]
  rw [e9]
  clear e9 h0 h1 h2 h3
  generalize diskOk k0 v0 = d0 at *
  generalize diskOk k2 v2 = d2 at *
  have H1 := Lib.hid C1
  have H2 := Lib.hid C2
  clear C1 C2
  cases d0 with
  | false =>
    go_enter Try.func98, Try.ntmps98
    go_wp2_with fail
    (with_reducible refine (H1.out _ (by (repeat' (first | with_reducible exact Below.refl _ _ | with_reducible assumption | with_reducible refine Below.drew ?_ | with_reducible refine Below.alloc ?_ ?_ _ | with_reducible refine Below.setCell ?_ ?_ _ | with_reducible refine Below.trans ?_ (Below.mono (by assumption) ?_) | ((try simp only [World.heap_size_alloc, World.heap_size_drew, World.heap_size_setCell]); omega))))).mono ?_); rintro _ w1 ⟨rfl, b1⟩
    have y1 := b1.size
    go_wp2_with fail
    go_ret
    exact ⟨rfl, by (repeat' (first | with_reducible exact Below.refl _ _ | with_reducible assumption | with_reducible refine Below.drew ?_ | with_reducible refine Below.alloc ?_ ?_ _ | with_reducible refine Below.setCell ?_ ?_ _ | with_reducible refine Below.trans ?_ (Below.mono (by assumption) ?_) | ((try simp only [World.heap_size_alloc, World.heap_size_drew, World.heap_size_setCell]); omega)))⟩
  | true =>
    go_enter Try.func98, Try.ntmps98
    go_wp2_with fail
    (with_reducible refine (H1.out _ (by (repeat' (first | with_reducible exact Below.refl _ _ | with_reducible assumption | with_reducible refine Below.drew ?_ | with_reducible refine Below.alloc ?_ ?_ _ | with_reducible refine Below.setCell ?_ ?_ _ | with_reducible refine Below.trans ?_ (Below.mono (by assumption) ?_) | ((try simp only [World.heap_size_alloc, World.heap_size_drew, World.heap_size_setCell]); omega))))).mono ?_); rintro _ w1 ⟨rfl, b1⟩
    have y1 := b1.size
    simp only [World.heap_size_alloc] at y1
    have hw1 : Below w.heap.size w w1 := by (repeat' (first | with_reducible exact Below.refl _ _ | with_reducible assumption | with_reducible refine Below.drew ?_ | with_reducible refine Below.alloc ?_ ?_ _ | with_reducible refine Below.setCell ?_ ?_ _ | with_reducible refine Below.trans ?_ (Below.mono (by assumption) ?_) | ((try simp only [World.heap_size_alloc, World.heap_size_drew, World.heap_size_setCell]); omega)))
    have e0 : w1.cell? ⟨w.heap.size, 0, none⟩ = some (.slice A0 n0 c0) := (b1.cell (p := ⟨w.heap.size, 0, none⟩) (by (try simp only [World.heap_size_alloc, World.heap_size_drew, World.heap_size_setCell]); omega)).trans (by simp)
    have e1 : w1.cell? ⟨w.heap.size, 1, none⟩ = some (.slice A1 n1 c1) := (b1.cell (p := ⟨w.heap.size, 1, none⟩) (by (try simp only [World.heap_size_alloc, World.heap_size_drew, World.heap_size_setCell]); omega)).trans (by simp)
    have e2 : w1.cell? ⟨w.heap.size, 2, none⟩ = some (.slice A2 n2 c2) := (b1.cell (p := ⟨w.heap.size, 2, none⟩) (by (try simp only [World.heap_size_alloc, World.heap_size_drew, World.heap_size_setCell]); omega)).trans (by simp)
    have e3 : w1.cell? ⟨w.heap.size, 3, none⟩ = some (.slice A3 n3 c3) := (b1.cell (p := ⟨w.heap.size, 3, none⟩) (by (try simp only [World.heap_size_alloc, World.heap_size_drew, World.heap_size_setCell]); omega)).trans (by simp)
    go_wp2_with fail
    (with_reducible refine (H2.out _ hw1).mono ?_); rintro _ w2 ⟨rfl, b2⟩
    have y2 := b2.size
    have hw2 : Below w.heap.size w w2 := hw1.trans (b2.mono hw1.size)
    have f0 := (b2.cell (p := ⟨w.heap.size, 0, none⟩) (show w.heap.size < w1.heap.size by omega)).trans e0
    have f2 := (b2.cell (p := ⟨w.heap.size, 2, none⟩) (show w.heap.size < w1.heap.size by omega)).trans e2
    cases d2 with
    | false =>
      go_wp2_with fail
      go_ret
      exact ⟨rfl, hw2⟩
    | true =>
      by_cases hnn : n0 = n2
      · have hd : decide ((n0 : Int) = (n2 : Int)) = true := by simp [hnn]
        have hd1 : ((n0 : Int) == (n2 : Int)) = true := by simp [hnn]
        have HD := Lib.hid hd
        clear hd hnn
        go_wp2_with fail
        go_ret
        refine ⟨?_, hw2⟩
        rw [HD.out]
        rfl
      · have hd : decide ((n0 : Int) = (n2 : Int)) = false := by simp; omega
        have hd1 : ((n0 : Int) == (n2 : Int)) = false := by simp; omega
        have HD := Lib.hid hd
        clear hd
        go_wp2_with fail
        go_ret
        refine ⟨?_, hw2⟩
        rw [HD.out]
        rfl
set_option maxRecDepth 100000 in
set_option maxHeartbeats 4000000 in
theorem keptOk_any (A0 : Option Addr) (n0 c0 : Nat) (k0 : List (List Int)) (A1 : Option Addr) (n1 c1 : Nat) (v0 : List WriteD) (A2 : Option Addr) (n2 c2 : Nat) (k2 : List (List Int)) (A3 : Option Addr) (n3 c3 : Nat) (v2 : List WriteD) (lo hi : Nat) (w : World) (h0 : SlR w lo hi A0 n0 c0 k0) (h1 : SlW w lo hi A1 n1 c1 v0) (h2 : SlR w lo hi A2 n2 c2 k2) (h3 : SlW w lo hi A3 n3 c3 v2) (hhi : hi ≤ w.heap.size) :
    Calls Try.prog 40 #[.agg #[.slice A0 n0 c0, .slice A1 n1 c1, .slice A2 n2 c2, .slice A3 n3 c3]] w (BoolRes w (twoOk k0 v0 k2 v2 && decide (k0.length = 22))) := by
  have L0 := Lib.hid h0.len
  have C1 : ∀ W, Below w.heap.size w W → Calls Try.prog 98 #[.agg #[.slice A0 n0 c0, .slice A1 n1 c1, .slice A2 n2 c2, .slice A3 n3 c3]] W (BoolRes W (twoOk k0 v0 k2 v2)) := fun W hW => twoOk_any A0 n0 c0 k0 A1 n1 c1 v0 A2 n2 c2 k2 A3 n3 c3 v2 lo hi W (h0.below hW hhi) (h1.below hW hhi) (h2.below hW hhi) (h3.below hW hhi) (Nat.le_trans hhi hW.size)
  have hn0 : n0 ≤ 9223372036854775807 := Nat.le_trans h0.cap h0.big
  rw [L0.out]
  clear h0 h1 h2 h3
  generalize twoOk k0 v0 k2 v2 = d0 at *
  have H1 := Lib.hid C1
  clear C1
  cases d0 with
  | false =>
    go_enter Try.func40, Try.ntmps40
    go_wp2_with fail
    (with_reducible refine (H1.out _ (by (repeat' (first | with_reducible exact Below.refl _ _ | with_reducible assumption | with_reducible refine Below.drew ?_ | with_reducible refine Below.alloc ?_ ?_ _ | with_reducible refine Below.setCell ?_ ?_ _ | with_reducible refine Below.trans ?_ (Below.mono (by assumption) ?_) | ((try simp only [World.heap_size_alloc, World.heap_size_drew, World.heap_size_setCell]); omega))))).mono ?_); rintro _ w1 ⟨rfl, b1⟩
    have y1 := b1.size
    go_wp2_with fail
    go_ret
    exact ⟨rfl, by (repeat' (first | with_reducible exact Below.refl _ _ | with_reducible assumption | with_reducible refine Below.drew ?_ | with_reducible refine Below.alloc ?_ ?_ _ | with_reducible refine Below.setCell ?_ ?_ _ | with_reducible refine Below.trans ?_ (Below.mono (by assumption) ?_) | ((try simp only [World.heap_size_alloc, World.heap_size_drew, World.heap_size_setCell]); omega)))⟩
  | true =>
    by_cases hnn : n0 = 22
    · subst hnn
      go_enter Try.func40, Try.ntmps40
      go_wp2_with fail
      (with_reducible refine (H1.out _ (by (repeat' (first | with_reducible exact Below.refl _ _ | with_reducible assumption | with_reducible refine Below.drew ?_ | with_reducible refine Below.alloc ?_ ?_ _ | with_reducible refine Below.setCell ?_ ?_ _ | with_reducible refine Below.trans ?_ (Below.mono (by assumption) ?_) | ((try simp only [World.heap_size_alloc, World.heap_size_drew, World.heap_size_setCell]); omega))))).mono ?_); rintro _ w1 ⟨rfl, b1⟩
      have y1 := b1.size
      simp only [World.heap_size_alloc] at y1
      have e0 : w1.cell? ⟨w.heap.size, 0, none⟩ = some (.slice A0 22 c0) := (b1.cell (p := ⟨w.heap.size, 0, none⟩) (by (try simp only [World.heap_size_alloc, World.heap_size_drew, World.heap_size_setCell]); omega)).trans (by simp)
      go_wp2_with fail
      go_ret
      exact ⟨rfl, by (repeat' (first | with_reducible exact Below.refl _ _ | with_reducible assumption | with_reducible refine Below.drew ?_ | with_reducible refine Below.alloc ?_ ?_ _ | with_reducible refine Below.setCell ?_ ?_ _ | with_reducible refine Below.trans ?_ (Below.mono (by assumption) ?_) | ((try simp only [World.heap_size_alloc, World.heap_size_drew, World.heap_size_setCell]); omega)))⟩
    · have hd : decide (n0 = 22) = false := by simp [hnn]
      have hd1 : ((n0 : Int) == 22) = false := by simp; omega
      rw [hd]
      clear hd
      go_enter Try.func40, Try.ntmps40
      go_wp2_with fail
      (with_reducible refine (H1.out _ (by (repeat' (first | with_reducible exact Below.refl _ _ | with_reducible assumption | with_reducible refine Below.drew ?_ | with_reducible refine Below.alloc ?_ ?_ _ | with_reducible refine Below.setCell ?_ ?_ _ | with_reducible refine Below.trans ?_ (Below.mono (by assumption) ?_) | ((try simp only [World.heap_size_alloc, World.heap_size_drew, World.heap_size_setCell]); omega))))).mono ?_); rintro _ w1 ⟨rfl, b1⟩
      have y1 := b1.size
      simp only [World.heap_size_alloc] at y1
      have e0 : w1.cell? ⟨w.heap.size, 0, none⟩ = some (.slice A0 n0 c0) := (b1.cell (p := ⟨w.heap.size, 0, none⟩) (by (try simp only [World.heap_size_alloc, World.heap_size_drew, World.heap_size_setCell]); omega)).trans (by simp)
      go_wp2_with fail
      go_ret
      exact ⟨rfl, by (repeat' (first | with_reducible exact Below.refl _ _ | with_reducible assumption | with_reducible refine Below.drew ?_ | with_reducible refine Below.alloc ?_ ?_ _ | with_reducible refine Below.setCell ?_ ?_ _ | with_reducible refine Below.trans ?_ (Below.mono (by assumption) ?_) | ((try simp only [World.heap_size_alloc, World.heap_size_drew, World.heap_size_setCell]); omega)))⟩
end Go.Proofs.Ytgnilmdaegnaaaa
