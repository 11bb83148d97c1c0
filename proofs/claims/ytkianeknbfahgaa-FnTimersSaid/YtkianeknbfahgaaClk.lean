/- Clocks: what the program's and the reference's functions return. No conditions. -/
import Derived.Test.YtkianeknbfahgaaHelp1
import Derived.Test.YtkianeknbfahgaaApp
import Derived.StillTailTactics
import Derived.Deep.RegionHeld3
import Derived.Lib.QuietBelow
import Derived.BigQuiet
import Derived.IntWalk
set_option linter.unusedSimpArgs false
set_option linter.unusedVariables false
namespace Go.Proofs.Ytkianeknbfahgaa
open Go.RowKit

def timeOk (x : Int) : Bool := btw x 0 1000000
def clocksOk (zs : List Int) : Bool := decide (zs.length = 6) && zs.all timeOk
def CBoolRes (w : World) (b : Bool) (e : Ending) (w' : World) : Prop := e = .returned (.bool b) ∧ Below w.heap.size w w'
theorem clocksOk_of {zs : List Int} (h : zs.length = 6) (hp : ∀ j, j < 6 → timeOk (zs.getD j 0) = true) : clocksOk zs = true := by
  match zs, h with
  | [a, b, c, d, e, f], _ =>
    have h0 := hp 0 (by omega); have h1 := hp 1 (by omega); have h2 := hp 2 (by omega); have h3 := hp 3 (by omega); have h4 := hp 4 (by omega); have h5 := hp 5 (by omega)
    simp at h0 h1 h2 h3 h4 h5
    simp [clocksOk, *]
theorem clocksOk_not {zs : List Int} {j : Nat} {x : Int} (hj : zs[j]? = some x) (h : timeOk x = false) : clocksOk zs = false := by
  simp only [clocksOk, Bool.and_eq_false_iff, List.all_eq_false]
  exact .inr ⟨x, List.mem_of_getElem? hj, by simp [h]⟩
theorem clocksOk_len {zs : List Int} (h : zs.length ≠ 6) : clocksOk zs = false := by simp [clocksOk, h]
theorem clocksOk_at {zs : List Int} (h : clocksOk zs = true) {j : Nat} {x : Int} (hj : zs[j]? = some x) : 0 ≤ x ∧ x ≤ 1000000 := by
  simp only [clocksOk, Bool.and_eq_true, List.all_eq_true] at h
  exact btw_iff.1 (h.2 x (List.mem_of_getElem? hj))
theorem getD_of {zs : List Int} {j : Nat} {x : Int} (h : zs[j]? = some x) : zs.getD j 0 = x := by simp [List.getD, h]

set_option maxHeartbeats 800000 in
theorem sClocksOk_any (A : Option Addr) (n c lo hi : Nat) (zs : List Int) (w : World) (h : Sl w lo hi 1 A n c zs) :
    Calls Try.prog 45 #[.slice A n c] w (CBoolRes w (clocksOk zs)) := by
  have hn : n ≤ 9223372036854775807 := Nat.le_trans h.cap h.big
  have hl : zs.length = n := by have := h.len; omega
  by_cases h6 : n = 6
  · subst h6
    have H := Lib.hid (h.fit (by omega))
    have HL := Lib.hid hl
    clear h hl
    go_enter Try.func45, Try.ntmps45
    go_wp2
    go_loopw [3] (fun i wr => ∃ m : Nat, m ≤ 6 ∧ i = .int .i64 m ∧ Below w.heap.size w wr ∧ Hid (∀ j, j < m → timeOk (zs.getD j 0) = true)) (fun i _ => 6 - (intOf i).toNat)
    case atStart => exact ⟨0, Nat.zero_le _, rfl, Below.refl _ _, fun j hj => absurd hj (by omega)⟩
    case round =>
      obtain ⟨m, hm, rfl, hb, hp⟩ := hrel
      by_cases hlt : m < 6
      · obtain ⟨g, off, e, rfl, _, hg, he, p0⟩ := H.out.int hlt
        have hg1 := Nat.lt_of_lt_of_le hg (Nat.min_le_right _ _)
        have r0 := (hb.cell (p := ⟨g, off + m, none⟩) hg1).trans p0
        have HE := Lib.hid he
        clear he p0
        cases hok : timeOk e with
        | false =>
          have CE : ∀ W, Calls Try.prog 51 #[.int .i64 e] W fun x w' => x = .returned (.bool false) ∧ Below W.heap.size W w' := fun W => (sTimeOk_any e W).mono fun x w' ⟨h1, h2⟩ => ⟨by rw [h1, ← hok]; rfl, by rw [← h2]; exact Below.refl _ _⟩
          have HCE := Lib.hid CE
          clear CE
          go_wp2_with fail
          (with_reducible refine (HCE.out _).mono ?_); rintro _ w1 ⟨rfl, b1⟩
          have hbw : Below w.heap.size w w1 := hb.trans (b1.mono hb.size)
          go_wp2
          go_ret
          exact ⟨by rw [clocksOk_not HE.out hok]; rfl, hbw⟩
        | true =>
          have CE : ∀ W, Calls Try.prog 51 #[.int .i64 e] W fun x w' => x = .returned (.bool true) ∧ Below W.heap.size W w' := fun W => (sTimeOk_any e W).mono fun x w' ⟨h1, h2⟩ => ⟨by rw [h1, ← hok]; rfl, by rw [← h2]; exact Below.refl _ _⟩
          have HCE := Lib.hid CE
          clear CE
          go_wp2_with fail
          (with_reducible refine (HCE.out _).mono ?_); rintro _ w1 ⟨rfl, b1⟩
          have hbw : Below w.heap.size w w1 := hb.trans (b1.mono hb.size)
          go_wp2
          go_roundw
          case rel => exact ⟨_, hlt, by go_num, hbw, fun j hj => by
            rcases Nat.lt_succ_iff_lt_or_eq.1 hj with h5 | rfl
            · exact hp.out j h5
            · rw [getD_of HE.out]; exact hok⟩
          case measure => simp [intOf]; omega
      · go_wp2
        go_ret
        have hmn : m = 6 := by omega
        exact ⟨by rw [clocksOk_of HL.out (fun j hj => hp.out j (by omega))]; rfl, hb⟩
  · rw [clocksOk_len (by omega)]
    clear h hl
    go_enter Try.func45, Try.ntmps45
    go_wp2
    go_ret
    exact ⟨rfl, Below.refl _ _⟩
set_option maxHeartbeats 800000 in
theorem clocksOk_any (A : Option Addr) (n c lo hi : Nat) (zs : List Int) (w : World) (h : Sl w lo hi 1 A n c zs) :
    Calls Try.prog 47 #[.slice A n c] w (CBoolRes w (clocksOk zs)) := by
  have hn : n ≤ 9223372036854775807 := Nat.le_trans h.cap h.big
  have hl : zs.length = n := by have := h.len; omega
  by_cases h6 : n = 6
  · subst h6
    have H := Lib.hid (h.fit (by omega))
    have HL := Lib.hid hl
    clear h hl
    go_enter Try.func47, Try.ntmps47
    go_wp2
    go_loopw [10] (fun i wr => ∃ m : Nat, m ≤ 6 ∧ i = .int .i64 m ∧ Below w.heap.size w wr ∧ Hid (∀ j, j < m → timeOk (zs.getD j 0) = true)) (fun i _ => 6 - (intOf i).toNat)
    case atStart => exact ⟨0, Nat.zero_le _, rfl, Below.refl _ _, fun j hj => absurd hj (by omega)⟩
    case round =>
      obtain ⟨m, hm, rfl, hb, hp⟩ := hrel
      by_cases hlt : m < 6
      · obtain ⟨g, off, e, rfl, _, hg, he, p0⟩ := H.out.int hlt
        have hg1 := Nat.lt_of_lt_of_le hg (Nat.min_le_right _ _)
        have r0 := (hb.cell (p := ⟨g, off + m, none⟩) hg1).trans p0
        have HE := Lib.hid he
        clear he p0
        cases hok : timeOk e with
        | false =>
          have CE : ∀ W, Calls Try.prog 54 #[.int .i64 e] W fun x w' => x = .returned (.bool false) ∧ Below W.heap.size W w' := fun W => (timeOk_any e W).mono fun x w' ⟨h1, h2⟩ => ⟨by rw [h1, ← hok]; rfl, by rw [← h2]; exact Below.refl _ _⟩
          have HCE := Lib.hid CE
          clear CE
          go_wp2_with fail
          (with_reducible refine (HCE.out _).mono ?_); rintro _ w1 ⟨rfl, b1⟩
          go_wp2
          go_ret
          exact ⟨by rw [clocksOk_not HE.out hok]; rfl, hb.trans (b1.mono hb.size)⟩
        | true =>
          have CE : ∀ W, Calls Try.prog 54 #[.int .i64 e] W fun x w' => x = .returned (.bool true) ∧ Below W.heap.size W w' := fun W => (timeOk_any e W).mono fun x w' ⟨h1, h2⟩ => ⟨by rw [h1, ← hok]; rfl, by rw [← h2]; exact Below.refl _ _⟩
          have HCE := Lib.hid CE
          clear CE
          go_wp2_with fail
          (with_reducible refine (HCE.out _).mono ?_); rintro _ w1 ⟨rfl, b1⟩
          go_wp2
          go_roundw
          case rel => exact ⟨_, hlt, by go_num, hb.trans (b1.mono hb.size), fun j hj => by
            rcases Nat.lt_succ_iff_lt_or_eq.1 hj with h5 | rfl
            · exact hp.out j h5
            · rw [getD_of HE.out]; exact hok⟩
          case measure => simp [intOf]; omega
      · go_wp2
        go_ret
        have hmn : m = 6 := by omega
        exact ⟨by rw [clocksOk_of HL.out (fun j hj => hp.out j (by omega))]; rfl, hb⟩
  · rw [clocksOk_len (by omega)]
    clear h hl
    go_enter Try.func47, Try.ntmps47
    go_wp2
    go_ret
    exact ⟨rfl, Below.refl _ _⟩
set_option maxHeartbeats 800000 in
theorem l5Row_any (A : Option Addr) (n c lo hi : Nat) (zs : List Int) (w : World) (h : Sl w lo hi 1 A n c zs) (hn : n ≤ 1048576) (hhi : hi ≤ w.heap.size) :
    Calls Try.prog 49 #[.slice A n c] w (SlRes w 1 n zs) := by
  have hs : Sl (w.alloc (.cells #[] 2)) lo hi 1 A n c zs := h.below (B := w.heap.size) (by (repeat' (first | with_reducible exact Below.refl _ _ | with_reducible assumption | with_reducible refine Below.drew ?_ | with_reducible refine Below.alloc ?_ ?_ _ | with_reducible refine Below.setCell ?_ ?_ _ | with_reducible refine Below.trans ?_ (Below.mono (by assumption) ?_) | ((try simp only [World.heap_size_alloc, World.heap_size_drew, World.heap_size_setCell]); omega)))) hhi
  have ho : Own (w.alloc (.cells #[] 2)) w.heap.size 2 1 (.slice (some ⟨w.heap.size, 0, none⟩) 0 0) 0 [] := Own.new w 2 1 [] rfl (Nat.le_refl _) (by omega)
  have HS := Lib.hid hs
  have HO := Lib.hid ho
  clear h hs ho
  go_enter Try.func49, Try.ntmps49
  go_wp2_with (at_builtin; go_loud (refine wpList_append_sl _ rfl (.tmp 3) (.tmp 4) 22 rfl w.heap.size 2 Try.underlying22 info64 rfl (by omega) _ _ _ rfl HO.out _ n c _ _ zs rfl HS.out (by omega) (by omega) (by (try simp only [World.heap_size_alloc, World.heap_size_drew, World.heap_size_setCell]); omega) ?_); intro v2 w2 o2 g2 a2)
  have hb2 : Below w.heap.size w w2 := ((Below.refl _ _).alloc (Nat.le_refl _) _).trans (grown_below g2 (by (try simp only [World.heap_size_alloc, World.heap_size_drew, World.heap_size_setCell]); omega) (fun g hg => (Own.lt HO.out g hg).1))
  obtain ⟨A2, c2, rfl, s2⟩ := o2.sl
  go_wp2
  go_ret
  rw [Nat.zero_add] at *
  exact ⟨A2, c2, rfl, s2, hb2⟩
set_option maxHeartbeats 800000 in
theorem copyRow_any (A : Option Addr) (n c lo hi : Nat) (zs : List Int) (w : World) (h : Sl w lo hi 1 A n c zs) (hn : n ≤ 1048576) (hhi : hi ≤ w.heap.size) :
    Calls Try.prog 52 #[.slice A n c] w (SlRes w 1 n zs) := by
  have hs : Sl (w.alloc (.cells #[] 2)) lo hi 1 A n c zs := h.below (B := w.heap.size) (by (repeat' (first | with_reducible exact Below.refl _ _ | with_reducible assumption | with_reducible refine Below.drew ?_ | with_reducible refine Below.alloc ?_ ?_ _ | with_reducible refine Below.setCell ?_ ?_ _ | with_reducible refine Below.trans ?_ (Below.mono (by assumption) ?_) | ((try simp only [World.heap_size_alloc, World.heap_size_drew, World.heap_size_setCell]); omega)))) hhi
  have ho : Own (w.alloc (.cells #[] 2)) w.heap.size 2 1 (.slice (some ⟨w.heap.size, 0, none⟩) 0 0) 0 [] := Own.new w 2 1 [] rfl (Nat.le_refl _) (by omega)
  have HS := Lib.hid hs
  have HO := Lib.hid ho
  clear h hs ho
  go_enter Try.func52, Try.ntmps52
  go_wp2_with (at_builtin; go_loud (refine wpList_append_sl _ rfl (.tmp 3) (.tmp 4) 22 rfl w.heap.size 2 Try.underlying22 info64 rfl (by omega) _ _ _ rfl HO.out _ n c _ _ zs rfl HS.out (by omega) (by omega) (by (try simp only [World.heap_size_alloc, World.heap_size_drew, World.heap_size_setCell]); omega) ?_); intro v2 w2 o2 g2 a2)
  have hb2 : Below w.heap.size w w2 := ((Below.refl _ _).alloc (Nat.le_refl _) _).trans (grown_below g2 (by (try simp only [World.heap_size_alloc, World.heap_size_drew, World.heap_size_setCell]); omega) (fun g hg => (Own.lt HO.out g hg).1))
  obtain ⟨A2, c2, rfl, s2⟩ := o2.sl
  go_wp2
  go_ret
  rw [Nat.zero_add] at *
  exact ⟨A2, c2, rfl, s2, hb2⟩

end Go.Proofs.Ytkianeknbfahgaa
