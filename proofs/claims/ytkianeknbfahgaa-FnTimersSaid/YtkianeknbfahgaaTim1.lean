/- Timers: the small functions. No conditions. -/
import Derived.Test.YtkianeknbfahgaaHelp
import Derived.Test.YtkianeknbfahgaaApp
import Derived.StillTailTactics
import Derived.Deep.RegionHeld3
import Derived.Lib.QuietBelow
import Derived.BigQuiet
import Derived.IntWalk
set_option linter.unusedSimpArgs false
set_option linter.unusedVariables false
namespace Go.Proofs.Ytkianeknbfahgaa
open Go.RowKit

/-- The place of the first element with p, or -1. -/
def idxD {α : Type} (p : α → Bool) (l : List α) : Int := if l.findIdx p < l.length then (l.findIdx p : Int) else -1
theorem idxD_hit {α : Type} {p : α → Bool} {l : List α} {m : Nat} {x : α} (hx : l[m]? = some x) (hp : p x = true) (hb : ∀ j y, j < m → l[j]? = some y → p y = false) : idxD p l = m := by
  obtain ⟨hm, rfl⟩ := List.getElem?_eq_some_iff.1 hx
  have e : l.findIdx p = m := by
    rw [List.findIdx_eq hm]
    exact ⟨hp, fun j hj => by simpa using hb j _ hj (List.getElem?_eq_getElem (by omega))⟩
  unfold idxD
  rw [e, if_pos hm]
theorem idxD_miss {α : Type} {p : α → Bool} {l : List α} (hb : ∀ j y, j < l.length → l[j]? = some y → p y = false) : idxD p l = -1 := by
  have e : l.findIdx p = l.length := by
    rw [List.findIdx_eq_length]
    intro x hx
    obtain ⟨j, hj, rfl⟩ := List.getElem_of_mem hx
    exact hb j _ hj (List.getElem?_eq_getElem hj)
  unfold idxD
  rw [e, if_neg (by omega)]
theorem idxD_bounds {α : Type} (p : α → Bool) (l : List α) : -1 ≤ idxD p l ∧ idxD p l < max (l.length : Int) 0 ∧ (idxD p l = -1 ∨ 0 ≤ idxD p l) := by
  unfold idxD
  split <;> omega

def timerLess (a b : TimerD) : Bool := decide (a.due < b.due) || (a.due == b.due && decide (a.id < b.id))
def timerOrd (a b : TimerD) : Int := if timerLess a b then -1 else if a = b then 0 else 1

set_option maxHeartbeats 400000 in
theorem timerId_any (a b : Int) (w : World) : Calls Try.prog 63 #[.agg #[.int .i64 a, .int .i64 b]] w fun e w' => e = .returned (.int .i64 a) ∧ Below w.heap.size w w' := by
  go_enter Try.func63, Try.ntmps63
  go_wp2
  go_ret
  exact ⟨rfl, by (repeat' (first | with_reducible exact Below.refl _ _ | with_reducible assumption | with_reducible refine Below.drew ?_ | with_reducible refine Below.alloc ?_ ?_ _ | with_reducible refine Below.setCell ?_ ?_ _ | with_reducible refine Below.trans ?_ (Below.mono (by assumption) ?_) | ((try simp only [World.heap_size_alloc, World.heap_size_drew, World.heap_size_setCell]); omega)))⟩
set_option maxHeartbeats 1000000 in
theorem timerOrder_any (a b c d : Int) (w : World) : Calls Try.prog 64 #[.agg #[.int .i64 a, .int .i64 b], .agg #[.int .i64 c, .int .i64 d]] w fun e w' => e = .returned (.int .i64 (timerOrd ⟨a, b⟩ ⟨c, d⟩)) ∧ Below w.heap.size w w' := by
  by_cases h1 : b < d
  · have e : timerOrd ⟨a, b⟩ ⟨c, d⟩ = -1 := by simp [timerOrd, timerLess, h1]
    rw [e]
    clear e
    go_enter Try.func64, Try.ntmps64
    go_wp2
    go_ret
    exact ⟨rfl, by (repeat' (first | with_reducible exact Below.refl _ _ | with_reducible assumption | with_reducible refine Below.drew ?_ | with_reducible refine Below.alloc ?_ ?_ _ | with_reducible refine Below.setCell ?_ ?_ _ | with_reducible refine Below.trans ?_ (Below.mono (by assumption) ?_) | ((try simp only [World.heap_size_alloc, World.heap_size_drew, World.heap_size_setCell]); omega)))⟩
  by_cases h2 : b = d
  · subst h2
    by_cases h3 : a < c
    · have e : timerOrd ⟨a, b⟩ ⟨c, b⟩ = -1 := by simp [timerOrd, timerLess, h3]
      rw [e]
      clear e
      have h4 : (b == b) = true := by simp
      go_enter Try.func64, Try.ntmps64
      go_wp2
      go_ret
      exact ⟨rfl, by (repeat' (first | with_reducible exact Below.refl _ _ | with_reducible assumption | with_reducible refine Below.drew ?_ | with_reducible refine Below.alloc ?_ ?_ _ | with_reducible refine Below.setCell ?_ ?_ _ | with_reducible refine Below.trans ?_ (Below.mono (by assumption) ?_) | ((try simp only [World.heap_size_alloc, World.heap_size_drew, World.heap_size_setCell]); omega)))⟩
    · by_cases h4 : a = c
      · subst h4
        have e : timerOrd ⟨a, b⟩ ⟨a, b⟩ = 0 := by simp [timerOrd, timerLess]
        rw [e]
        clear e
        go_enter Try.func64, Try.ntmps64
        go_wp2
        go_ret
        exact ⟨rfl, by (repeat' (first | with_reducible exact Below.refl _ _ | with_reducible assumption | with_reducible refine Below.drew ?_ | with_reducible refine Below.alloc ?_ ?_ _ | with_reducible refine Below.setCell ?_ ?_ _ | with_reducible refine Below.trans ?_ (Below.mono (by assumption) ?_) | ((try simp only [World.heap_size_alloc, World.heap_size_drew, World.heap_size_setCell]); omega)))⟩
      · have e : timerOrd ⟨a, b⟩ ⟨c, b⟩ = 1 := by simp [timerOrd, timerLess, h3, h4]
        rw [e]
        clear e
        have h5 : (a == c) = false := by simpa using h4
        go_enter Try.func64, Try.ntmps64
        go_wp2
        go_ret
        exact ⟨rfl, by (repeat' (first | with_reducible exact Below.refl _ _ | with_reducible assumption | with_reducible refine Below.drew ?_ | with_reducible refine Below.alloc ?_ ?_ _ | with_reducible refine Below.setCell ?_ ?_ _ | with_reducible refine Below.trans ?_ (Below.mono (by assumption) ?_) | ((try simp only [World.heap_size_alloc, World.heap_size_drew, World.heap_size_setCell]); omega)))⟩
  · have e : timerOrd ⟨a, b⟩ ⟨c, d⟩ = 1 := by simp [timerOrd, timerLess, h1, h2]
    rw [e]
    clear e
    have h5 : (b == d) = false := by simpa using h2
    go_enter Try.func64, Try.ntmps64
    go_wp2
    go_ret
    exact ⟨rfl, by (repeat' (first | with_reducible exact Below.refl _ _ | with_reducible assumption | with_reducible refine Below.drew ?_ | with_reducible refine Below.alloc ?_ ?_ _ | with_reducible refine Below.setCell ?_ ?_ _ | with_reducible refine Below.trans ?_ (Below.mono (by assumption) ?_) | ((try simp only [World.heap_size_alloc, World.heap_size_drew, World.heap_size_setCell]); omega)))⟩
set_option maxHeartbeats 1000000 in
theorem l6Less_any (a b c d : Int) (w : World) : Calls Try.prog 58 #[.agg #[.int .i64 a, .int .i64 b], .agg #[.int .i64 c, .int .i64 d]] w fun e w' => e = .returned (.bool (timerLess ⟨a, b⟩ ⟨c, d⟩)) ∧ Below w.heap.size w w' := by
  by_cases h1 : b < d
  · have e : timerLess ⟨a, b⟩ ⟨c, d⟩ = true := by simp [timerLess, h1]
    rw [e]
    clear e
    go_enter Try.func58, Try.ntmps58
    go_wp2
    go_ret
    exact ⟨rfl, by (repeat' (first | with_reducible exact Below.refl _ _ | with_reducible assumption | with_reducible refine Below.drew ?_ | with_reducible refine Below.alloc ?_ ?_ _ | with_reducible refine Below.setCell ?_ ?_ _ | with_reducible refine Below.trans ?_ (Below.mono (by assumption) ?_) | ((try simp only [World.heap_size_alloc, World.heap_size_drew, World.heap_size_setCell]); omega)))⟩
  by_cases h2 : b = d
  · subst h2
    have h4 : (b == b) = true := by simp
    have e : timerLess ⟨a, b⟩ ⟨c, b⟩ = decide (a < c) := by simp [timerLess]
    rw [e]
    clear e
    go_enter Try.func58, Try.ntmps58
    go_wp2
    go_ret
    exact ⟨by simp, by (repeat' (first | with_reducible exact Below.refl _ _ | with_reducible assumption | with_reducible refine Below.drew ?_ | with_reducible refine Below.alloc ?_ ?_ _ | with_reducible refine Below.setCell ?_ ?_ _ | with_reducible refine Below.trans ?_ (Below.mono (by assumption) ?_) | ((try simp only [World.heap_size_alloc, World.heap_size_drew, World.heap_size_setCell]); omega)))⟩
  · have e : timerLess ⟨a, b⟩ ⟨c, d⟩ = false := by simp [timerLess, h1, h2]
    rw [e]
    clear e
    have h5 : (b == d) = false := by simpa using h2
    go_enter Try.func58, Try.ntmps58
    go_wp2
    go_ret
    exact ⟨rfl, by (repeat' (first | with_reducible exact Below.refl _ _ | with_reducible assumption | with_reducible refine Below.drew ?_ | with_reducible refine Below.alloc ?_ ?_ _ | with_reducible refine Below.setCell ?_ ?_ _ | with_reducible refine Below.trans ?_ (Below.mono (by assumption) ?_) | ((try simp only [World.heap_size_alloc, World.heap_size_drew, World.heap_size_setCell]); omega)))⟩
set_option maxHeartbeats 800000 in
theorem l6At_any (A : Option Addr) (n c lo hi : Nat) (l : List TimerD) (q : Int) (w : World) (h : Sl w lo hi 2 A n c (l.flatMap TimerD.ints)) :
    Calls Try.prog 59 #[.slice A n c, .int .i64 q] w fun e w' => e = .returned (.int .i64 (idxD (fun t => t.id == q) l)) ∧ w = w' := by
  have hn : n ≤ 9223372036854775807 := Nat.le_trans h.cap h.big
  have HL := Lib.hid (h.count TimerD.ints_len (by omega) : l.length = n)
  have H := Lib.hid h
  clear h
  go_enter Try.func59, Try.ntmps59
  go_wp2
  go_loop [5] (fun i => ∃ m : Nat, m ≤ n ∧ i = .int .i64 m ∧ Hid (∀ j y, j < m → l[j]? = some y → (y.id == q) = false)) (fun i => n - (intOf i).toNat)
  case atStart => exact ⟨0, Nat.zero_le _, rfl, fun j y hj => absurd hj (by omega)⟩
  case round =>
    obtain ⟨m, hm, rfl, hp⟩ := hrel
    by_cases hlt : m < n
    · obtain ⟨g, off, e, rfl, _, _, he, p0, p1⟩ := H.out.timer hlt
      have HE := Lib.hid he
      clear he
      by_cases hq : e.id = q
      · have hq1 : (e.id == q) = true := by simpa using hq
        have HQ := Lib.hid hq
        clear hq
        go_wp2
        go_ret
        exact ⟨by rw [idxD_hit HE.out hq1 hp.out]; rfl, rfl⟩
      · have hq1 : (e.id == q) = false := by simpa using hq
        have HQ := Lib.hid hq
        clear hq
        go_wp2
        go_round
        case rel => exact ⟨m + 1, hlt, by go_num, fun j y hj hy => by
          rcases Nat.lt_succ_iff_lt_or_eq.1 hj with h5 | rfl
          · exact hp.out j y h5 hy
          · rw [HE.out] at hy; injection hy with hy; subst hy; exact hq1⟩
        case measure => simp [intOf]; omega
    · go_wp2
      go_ret
      have hmn : m = n := by omega
      exact ⟨by rw [idxD_miss (fun j y hj hy => hp.out j y (by rw [HL.out] at hj; omega) hy)]; rfl, rfl⟩

end Go.Proofs.Ytkianeknbfahgaa
