/- Timers that are due: what the program's and the reference's functions return. No conditions. -/
import Derived.Test.YtkianeknbfahgaaTim3
import Derived.Test.YtkianeknbfahgaaCol
set_option linter.unusedSimpArgs false
set_option linter.unusedVariables false
namespace Go.Proofs.Ytkianeknbfahgaa
open Go.RowKit

def nextDue (l : List TimerD) : Int × Bool := if timersOk l then (match l with | [] => (0, false) | e :: _ => (e.due, true)) else (0, false)
def IntBRes (w : World) (r : Int × Bool) (e : Ending) (w' : World) : Prop := e = .returned (.tuple #[.int .i64 r.1, .bool r.2]) ∧ Below w.heap.size w w'
def dueIn (l : List TimerD) (now : Int) : List TimerD := if timersOk l then l.filter (fun t => decide (t.due ≤ now)) else []

set_option maxHeartbeats 800000 in
theorem sNextDue_any (A : Option Addr) (n c lo hi : Nat) (l : List TimerD) (w : World) (h : Sl w lo hi 2 A n c (l.flatMap TimerD.ints)) :
    Calls Try.prog 43 #[.slice A n c] w (IntBRes w (nextDue l)) := by
  have hn : n ≤ 9223372036854775807 := Nat.le_trans h.cap h.big
  have HL := Lib.hid (h.count TimerD.ints_len (by omega) : l.length = n)
  replace h := h.fit (by omega)
  have hhi : min hi w.heap.size ≤ w.heap.size := Nat.min_le_right _ _
  generalize min hi w.heap.size = hi at h hhi
  cases hok : timersOk l with
  | false =>
    have e : nextDue l = (0, false) := by simp [nextDue, hok]
    rw [e]
    clear e
    have CO : ∀ W, Sl W lo hi 2 A n c (l.flatMap TimerD.ints) → Calls Try.prog 31 #[.slice A n c] W fun x w' => x = .returned (.bool false) ∧ Below W.heap.size W w' := fun W s => by
      have h7 := sTimersOk_any A n c lo hi l W s
      rw [hok] at h7
      exact h7
    have HO := Lib.hid CO
    clear CO
    go_enter Try.func43, Try.ntmps43
    go_wp2_with fail
    (with_reducible refine (HO.out _ (h.below (B := w.heap.size) (by (repeat' (first | with_reducible exact Below.refl _ _ | with_reducible assumption | with_reducible refine Below.drew ?_ | with_reducible refine Below.alloc ?_ ?_ _ | with_reducible refine Below.setCell ?_ ?_ _ | with_reducible refine Below.trans ?_ (Below.mono (by assumption) ?_) | ((try simp only [World.heap_size_alloc, World.heap_size_drew, World.heap_size_setCell]); omega)))) hhi)).mono ?_); rintro _ w1 ⟨rfl, b1⟩
    have y1 := b1.size
    (try simp only [World.heap_size_alloc, World.heap_size_drew] at y1)
    have hw1 : Below w.heap.size w w1 := by (repeat' (first | with_reducible exact Below.refl _ _ | with_reducible assumption | with_reducible refine Below.drew ?_ | with_reducible refine Below.alloc ?_ ?_ _ | with_reducible refine Below.setCell ?_ ?_ _ | with_reducible refine Below.trans ?_ (Below.mono (by assumption) ?_) | ((try simp only [World.heap_size_alloc, World.heap_size_drew, World.heap_size_setCell]); omega)))
    go_wp2_with fail
    go_ret2
    exact ⟨rfl, hw1⟩
  | true =>
    have CO : ∀ W, Sl W lo hi 2 A n c (l.flatMap TimerD.ints) → Calls Try.prog 31 #[.slice A n c] W fun x w' => x = .returned (.bool true) ∧ Below W.heap.size W w' := fun W s => by
      have h7 := sTimersOk_any A n c lo hi l W s
      rw [hok] at h7
      exact h7
    have HO := Lib.hid CO
    clear CO
    rcases Nat.eq_zero_or_pos n with rfl | hpos
    · have e : nextDue l = (0, false) := by rw [List.eq_nil_of_length_eq_zero HL.out]; simp [nextDue]
      rw [e]
      clear e
      go_enter Try.func43, Try.ntmps43
      go_wp2_with fail
      (with_reducible refine (HO.out _ (h.below (B := w.heap.size) (by (repeat' (first | with_reducible exact Below.refl _ _ | with_reducible assumption | with_reducible refine Below.drew ?_ | with_reducible refine Below.alloc ?_ ?_ _ | with_reducible refine Below.setCell ?_ ?_ _ | with_reducible refine Below.trans ?_ (Below.mono (by assumption) ?_) | ((try simp only [World.heap_size_alloc, World.heap_size_drew, World.heap_size_setCell]); omega)))) hhi)).mono ?_); rintro _ w1 ⟨rfl, b1⟩
      have y1 := b1.size
      (try simp only [World.heap_size_alloc, World.heap_size_drew] at y1)
      have hw1 : Below w.heap.size w w1 := by (repeat' (first | with_reducible exact Below.refl _ _ | with_reducible assumption | with_reducible refine Below.drew ?_ | with_reducible refine Below.alloc ?_ ?_ _ | with_reducible refine Below.setCell ?_ ?_ _ | with_reducible refine Below.trans ?_ (Below.mono (by assumption) ?_) | ((try simp only [World.heap_size_alloc, World.heap_size_drew, World.heap_size_setCell]); omega)))
      go_wp2_with fail
      go_ret2
      exact ⟨rfl, hw1⟩
    · obtain ⟨g, off, x, rfl, _, hg, hx, p0, p1⟩ := h.timer hpos
      have e : nextDue l = (x.due, true) := by
        obtain ⟨y, t, rfl⟩ := List.exists_cons_of_length_pos (show 0 < l.length by rw [HL.out]; exact hpos)
        simp at hx
        subst hx
        simp [nextDue, hok]
      rw [e]
      clear e
      rw [Nat.zero_mul, Nat.add_zero] at p1
      have hz : ((n : Int) == 0) = false := by simp; omega
      have hz1 : (0 : Int) < (n : Int) := by omega
      go_enter Try.func43, Try.ntmps43
      go_wp2_with fail
      (with_reducible refine (HO.out _ (h.below (B := w.heap.size) (by (repeat' (first | with_reducible exact Below.refl _ _ | with_reducible assumption | with_reducible refine Below.drew ?_ | with_reducible refine Below.alloc ?_ ?_ _ | with_reducible refine Below.setCell ?_ ?_ _ | with_reducible refine Below.trans ?_ (Below.mono (by assumption) ?_) | ((try simp only [World.heap_size_alloc, World.heap_size_drew, World.heap_size_setCell]); omega)))) hhi)).mono ?_); rintro _ w1 ⟨rfl, b1⟩
      have y1 := b1.size
      (try simp only [World.heap_size_alloc, World.heap_size_drew] at y1)
      have hw1 : Below w.heap.size w w1 := by (repeat' (first | with_reducible exact Below.refl _ _ | with_reducible assumption | with_reducible refine Below.drew ?_ | with_reducible refine Below.alloc ?_ ?_ _ | with_reducible refine Below.setCell ?_ ?_ _ | with_reducible refine Below.trans ?_ (Below.mono (by assumption) ?_) | ((try simp only [World.heap_size_alloc, World.heap_size_drew, World.heap_size_setCell]); omega)))
      have r1 := (hw1.cell (p := ⟨g, off + 1, none⟩) (show g < w.heap.size by omega)).trans p1
      go_wp2_with fail
      go_ret2
      exact ⟨rfl, hw1⟩
--$end--$begin{impl.NextDue}
set_option maxHeartbeats 800000 in
theorem nextDue_any (A : Option Addr) (n c lo hi : Nat) (l : List TimerD) (w : World) (h : Sl w lo hi 2 A n c (l.flatMap TimerD.ints)) :
    Calls Try.prog 44 #[.slice A n c] w (IntBRes w (nextDue l)) := by
  have hn : n ≤ 9223372036854775807 := Nat.le_trans h.cap h.big
  have HL := Lib.hid (h.count TimerD.ints_len (by omega) : l.length = n)
  replace h := h.fit (by omega)
  have hhi : min hi w.heap.size ≤ w.heap.size := Nat.min_le_right _ _
  generalize min hi w.heap.size = hi at h hhi
  cases hok : timersOk l with
  | false =>
    have e : nextDue l = (0, false) := by simp [nextDue, hok]
    rw [e]
    clear e
    have CO : ∀ W, Sl W lo hi 2 A n c (l.flatMap TimerD.ints) → Calls Try.prog 33 #[.slice A n c] W fun x w' => x = .returned (.bool false) ∧ Below W.heap.size W w' := fun W s => by
      have h7 := timersOk_any A n c lo hi l W s
      rw [hok] at h7
      exact h7
    have HO := Lib.hid CO
    clear CO
    go_enter Try.func44, Try.ntmps44
    go_wp2_with fail
    (with_reducible refine (HO.out _ (h.below (B := w.heap.size) (by (repeat' (first | with_reducible exact Below.refl _ _ | with_reducible assumption | with_reducible refine Below.drew ?_ | with_reducible refine Below.alloc ?_ ?_ _ | with_reducible refine Below.setCell ?_ ?_ _ | with_reducible refine Below.trans ?_ (Below.mono (by assumption) ?_) | ((try simp only [World.heap_size_alloc, World.heap_size_drew, World.heap_size_setCell]); omega)))) hhi)).mono ?_); rintro _ w1 ⟨rfl, b1⟩
    have y1 := b1.size
    (try simp only [World.heap_size_alloc, World.heap_size_drew] at y1)
    have hw1 : Below w.heap.size w w1 := by (repeat' (first | with_reducible exact Below.refl _ _ | with_reducible assumption | with_reducible refine Below.drew ?_ | with_reducible refine Below.alloc ?_ ?_ _ | with_reducible refine Below.setCell ?_ ?_ _ | with_reducible refine Below.trans ?_ (Below.mono (by assumption) ?_) | ((try simp only [World.heap_size_alloc, World.heap_size_drew, World.heap_size_setCell]); omega)))
    go_wp2_with fail
    go_ret2
    exact ⟨rfl, hw1⟩
  | true =>
    have CO : ∀ W, Sl W lo hi 2 A n c (l.flatMap TimerD.ints) → Calls Try.prog 33 #[.slice A n c] W fun x w' => x = .returned (.bool true) ∧ Below W.heap.size W w' := fun W s => by
      have h7 := timersOk_any A n c lo hi l W s
      rw [hok] at h7
      exact h7
    have HO := Lib.hid CO
    clear CO
    rcases Nat.eq_zero_or_pos n with rfl | hpos
    · have e : nextDue l = (0, false) := by rw [List.eq_nil_of_length_eq_zero HL.out]; simp [nextDue]
      rw [e]
      clear e
      go_enter Try.func44, Try.ntmps44
      go_wp2_with fail
      (with_reducible refine (HO.out _ (h.below (B := w.heap.size) (by (repeat' (first | with_reducible exact Below.refl _ _ | with_reducible assumption | with_reducible refine Below.drew ?_ | with_reducible refine Below.alloc ?_ ?_ _ | with_reducible refine Below.setCell ?_ ?_ _ | with_reducible refine Below.trans ?_ (Below.mono (by assumption) ?_) | ((try simp only [World.heap_size_alloc, World.heap_size_drew, World.heap_size_setCell]); omega)))) hhi)).mono ?_); rintro _ w1 ⟨rfl, b1⟩
      have y1 := b1.size
      (try simp only [World.heap_size_alloc, World.heap_size_drew] at y1)
      have hw1 : Below w.heap.size w w1 := by (repeat' (first | with_reducible exact Below.refl _ _ | with_reducible assumption | with_reducible refine Below.drew ?_ | with_reducible refine Below.alloc ?_ ?_ _ | with_reducible refine Below.setCell ?_ ?_ _ | with_reducible refine Below.trans ?_ (Below.mono (by assumption) ?_) | ((try simp only [World.heap_size_alloc, World.heap_size_drew, World.heap_size_setCell]); omega)))
      go_wp2_with fail
      go_ret2
      exact ⟨rfl, hw1⟩
    · obtain ⟨g, off, x, rfl, _, hg, hx, p0, p1⟩ := h.timer hpos
      have e : nextDue l = (x.due, true) := by
        obtain ⟨y, t, rfl⟩ := List.exists_cons_of_length_pos (show 0 < l.length by rw [HL.out]; exact hpos)
        simp at hx
        subst hx
        simp [nextDue, hok]
      rw [e]
      clear e
      rw [Nat.zero_mul, Nat.add_zero] at p1
      have hz : ((n : Int) == 0) = false := by simp; omega
      have hz1 : (0 : Int) < (n : Int) := by omega
      go_enter Try.func44, Try.ntmps44
      go_wp2_with fail
      (with_reducible refine (HO.out _ (h.below (B := w.heap.size) (by (repeat' (first | with_reducible exact Below.refl _ _ | with_reducible assumption | with_reducible refine Below.drew ?_ | with_reducible refine Below.alloc ?_ ?_ _ | with_reducible refine Below.setCell ?_ ?_ _ | with_reducible refine Below.trans ?_ (Below.mono (by assumption) ?_) | ((try simp only [World.heap_size_alloc, World.heap_size_drew, World.heap_size_setCell]); omega)))) hhi)).mono ?_); rintro _ w1 ⟨rfl, b1⟩
      have y1 := b1.size
      (try simp only [World.heap_size_alloc, World.heap_size_drew] at y1)
      have hw1 : Below w.heap.size w w1 := by (repeat' (first | with_reducible exact Below.refl _ _ | with_reducible assumption | with_reducible refine Below.drew ?_ | with_reducible refine Below.alloc ?_ ?_ _ | with_reducible refine Below.setCell ?_ ?_ _ | with_reducible refine Below.trans ?_ (Below.mono (by assumption) ?_) | ((try simp only [World.heap_size_alloc, World.heap_size_drew, World.heap_size_setCell]); omega)))
      have r1 := (hw1.cell (p := ⟨g, off + 1, none⟩) (show g < w.heap.size by omega)).trans p1
      go_wp2_with fail
      go_ret2
      exact ⟨rfl, hw1⟩
--$end--$begin{spec.DueIn}
set_option maxRecDepth 100000 in
set_option maxHeartbeats 800000 in
theorem sDueIn_any (A : Option Addr) (n c lo hi : Nat) (l : List TimerD) (now : Int) (w : World) (h : Sl w lo hi 2 A n c (l.flatMap TimerD.ints)) :
    Calls Try.prog 41 #[.slice A n c, .int .i64 now] w (SlRes w 1 (dueIn l now).length ((dueIn l now).flatMap (fun t => [t.id]))) := by
  have hn : n ≤ 9223372036854775807 := Nat.le_trans h.cap h.big
  have HL := Lib.hid (h.count TimerD.ints_len (by omega) : l.length = n)
  replace h := h.fit (by omega)
  have hhi : min hi w.heap.size ≤ w.heap.size := Nat.min_le_right _ _
  generalize min hi w.heap.size = hi at h hhi
  cases hok : timersOk l with
  | false =>
    have e : dueIn l now = [] := by simp [dueIn, hok]
    rw [e]
    clear e
    have CO : ∀ W, Sl W lo hi 2 A n c (l.flatMap TimerD.ints) → Calls Try.prog 31 #[.slice A n c] W fun x w' => x = .returned (.bool false) ∧ Below W.heap.size W w' := fun W s => by
      have h7 := sTimersOk_any A n c lo hi l W s
      rw [hok] at h7
      exact h7
    have HO := Lib.hid CO
    clear CO
    go_enter Try.func41, Try.ntmps41
    go_wp2_with fail
    (with_reducible refine (HO.out _ (h.below (B := w.heap.size) (by (repeat' (first | with_reducible exact Below.refl _ _ | with_reducible assumption | with_reducible refine Below.drew ?_ | with_reducible refine Below.alloc ?_ ?_ _ | with_reducible refine Below.setCell ?_ ?_ _ | with_reducible refine Below.trans ?_ (Below.mono (by assumption) ?_) | ((try simp only [World.heap_size_alloc, World.heap_size_drew, World.heap_size_setCell]); omega)))) hhi)).mono ?_); rintro _ w1 ⟨rfl, b1⟩
    have y1 := b1.size
    (try simp only [World.heap_size_alloc, World.heap_size_drew] at y1)
    have hw1 : Below w.heap.size w w1 := by (repeat' (first | with_reducible exact Below.refl _ _ | with_reducible assumption | with_reducible refine Below.drew ?_ | with_reducible refine Below.alloc ?_ ?_ _ | with_reducible refine Below.setCell ?_ ?_ _ | with_reducible refine Below.trans ?_ (Below.mono (by assumption) ?_) | ((try simp only [World.heap_size_alloc, World.heap_size_drew, World.heap_size_setCell]); omega)))
    go_wp2_with fail
    go_ret
    exact SlRes.none (by (repeat' (first | with_reducible exact Below.refl _ _ | with_reducible assumption | with_reducible refine Below.drew ?_ | with_reducible refine Below.alloc ?_ ?_ _ | with_reducible refine Below.setCell ?_ ?_ _ | with_reducible refine Below.trans ?_ (Below.mono (by assumption) ?_) | ((try simp only [World.heap_size_alloc, World.heap_size_drew, World.heap_size_setCell]); omega)))) _ _ _ (by omega)
  | true =>
    have hshort : n ≤ 16 := by rw [← HL.out]; exact timersOk_len hok
    have e : dueIn l now = l.filter (fun t => decide (t.due ≤ now)) := by simp [dueIn, hok]
    rw [e]
    clear e
    have CO : ∀ W, Sl W lo hi 2 A n c (l.flatMap TimerD.ints) → Calls Try.prog 31 #[.slice A n c] W fun x w' => x = .returned (.bool true) ∧ Below W.heap.size W w' := fun W s => by
      have h7 := sTimersOk_any A n c lo hi l W s
      rw [hok] at h7
      exact h7
    have HO := Lib.hid CO
    clear CO
    go_enter Try.func41, Try.ntmps41
    go_wp2_with fail
    (with_reducible refine (HO.out _ (h.below (B := w.heap.size) (by (repeat' (first | with_reducible exact Below.refl _ _ | with_reducible assumption | with_reducible refine Below.drew ?_ | with_reducible refine Below.alloc ?_ ?_ _ | with_reducible refine Below.setCell ?_ ?_ _ | with_reducible refine Below.trans ?_ (Below.mono (by assumption) ?_) | ((try simp only [World.heap_size_alloc, World.heap_size_drew, World.heap_size_setCell]); omega)))) hhi)).mono ?_); rintro _ w1 ⟨rfl, b1⟩
    have y1 := b1.size
    (try simp only [World.heap_size_alloc, World.heap_size_drew] at y1)
    have hw1 : Below w.heap.size w w1 := by (repeat' (first | with_reducible exact Below.refl _ _ | with_reducible assumption | with_reducible refine Below.drew ?_ | with_reducible refine Below.alloc ?_ ?_ _ | with_reducible refine Below.setCell ?_ ?_ _ | with_reducible refine Below.trans ?_ (Below.mono (by assumption) ?_) | ((try simp only [World.heap_size_alloc, World.heap_size_drew, World.heap_size_setCell]); omega)))
    have o1 : Own w1 w.heap.size 2 1 (.slice (some ⟨w.heap.size, 0, none⟩) 0 0) 0 [] := (Own.new w 2 1 [] rfl (Nat.le_refl _) (by omega)).kept b1
    have hw2 := hw1
    have O1 := Lib.hid o1
    have Hw2 := Lib.hid hw2
    clear o1 hw2 hw1 b1
    go_wp2
    go_loopw [5, 6] (fun v i wr => ColRel w 2 n 1 (fun t : TimerD => decide (t.due ≤ now)) (fun t : TimerD => [t.id]) l v i wr) (fun _ i _ => n - (intOf i).toNat)
    case atStart => exact ⟨0, _, Nat.zero_le _, rfl, rfl, O1.out, Hw2.out⟩
    case round =>
      obtain ⟨m, v, hm, rfl, rfl, ho, hb⟩ := hrel
      have hbz := hb.size
      by_cases hlt : m < n
      · obtain ⟨g, off, e, rfl, _, hg, he, p0, p1⟩ := h.timer hlt
        have hg1 := Nat.lt_of_lt_of_le hg hhi
        have HE := Lib.hid he
        clear he
        have r0 := (hb.cell (p := ⟨g, off + m * 2, none⟩) hg1).trans p0
        have r1 := (hb.cell (p := ⟨g, off + m * 2 + 1, none⟩) hg1).trans p1
        clear p0 p1
        have HO1 := Lib.hid ho
        clear ho
        have hlen : ((l.take m).filter (fun t : TimerD => decide (t.due ≤ now))).length ≤ m := Nat.le_trans (List.length_filter_le _ _) (List.length_take_le _ _)
        by_cases hq : (fun t : TimerD => decide (t.due ≤ now)) e = true
        · have hsrc : Sl (wr.alloc (.cells #[.int .i64 e.id] 2)) wr.heap.size (wr.alloc (.cells #[.int .i64 e.id] 2)).heap.size 1 (some ⟨wr.heap.size, 0, none⟩) 1 1 ((fun t : TimerD => [t.id]) e) := ⟨rfl, by omega, by omega, fun _ => ⟨_, 0, rfl, by (try simp only [World.heap_size_alloc, World.heap_size_drew, World.heap_size_setCell]); omega, by simp, by have h9 := ints_new wr 2 ((fun t : TimerD => [t.id]) e); (try rw [World.heap_size_alloc] at h9); exact h9⟩⟩
          have HS1 := Lib.hid hsrc
          have HB1 : Hid (Below wr.heap.size wr (wr.alloc (.cells #[.int .i64 e.id] 2))) := (by (repeat' (first | with_reducible exact Below.refl _ _ | with_reducible assumption | with_reducible refine Below.drew ?_ | with_reducible refine Below.alloc ?_ ?_ _ | with_reducible refine Below.setCell ?_ ?_ _ | with_reducible refine Below.trans ?_ (Below.mono (by assumption) ?_) | ((try simp only [World.heap_size_alloc, World.heap_size_drew, World.heap_size_setCell]); omega))) : Below wr.heap.size wr (wr.alloc (.cells #[.int .i64 e.id] 2)))
          have hge : w.heap.size ≤ (wr.alloc (.cells #[.int .i64 e.id] 2)).heap.size := by simp only [World.heap_size_alloc]; omega
          have HQ := Lib.hid hq
          have hq1 : e.due ≤ now := by simpa using hq
          clear hsrc hq
          go_wp2_with (at_builtin; go_loud (refine wpList_append_sl _ rfl (.tmp 25) (.tmp 31) 22 rfl w.heap.size 2 Try.underlying22 info64 rfl (by omega) _ _ _ rfl (HO1.out.kept HB1.out) _ 1 1 _ _ ((fun t : TimerD => [t.id]) e) rfl HS1.out (by omega) (by omega) hge ?_); intro v2 w2 o2 g2 a2)
          have hb2 : Below w.heap.size w w2 := (hb.trans (HB1.out.mono hb.size)).trans (grown_below g2 hge (fun g hg => (Own.lt HO1.out g hg).1))
          have HO2 := Lib.hid o2
          clear o2 a2 g2
          go_roundw
          case rel => exact ColRel.step hlt HE.out HQ.out (by go_num) HO2.out hb2
          case measure => simp [intOf]; omega
        · have HQ := Lib.hid (show (fun t : TimerD => decide (t.due ≤ now)) e = false by simpa using hq)
          have hq1 : ¬ e.due ≤ now := by simpa using hq
          clear hq
          go_wp2
          go_roundw
          case rel => exact ColRel.skip hlt HE.out HQ.out (by go_num) (HO1.out.kept (by (repeat' (first | with_reducible exact Below.refl _ _ | with_reducible assumption | with_reducible refine Below.drew ?_ | with_reducible refine Below.alloc ?_ ?_ _ | with_reducible refine Below.setCell ?_ ?_ _ | with_reducible refine Below.trans ?_ (Below.mono (by assumption) ?_) | ((try simp only [World.heap_size_alloc, World.heap_size_drew, World.heap_size_setCell]); omega))))) (by (repeat' (first | with_reducible exact Below.refl _ _ | with_reducible assumption | with_reducible refine Below.drew ?_ | with_reducible refine Below.alloc ?_ ?_ _ | with_reducible refine Below.setCell ?_ ?_ _ | with_reducible refine Below.trans ?_ (Below.mono (by assumption) ?_) | ((try simp only [World.heap_size_alloc, World.heap_size_drew, World.heap_size_setCell]); omega))))
          case measure => simp [intOf]; omega
      · have HO1 := Lib.hid ho
        clear ho
        go_wp2
        go_ret
        have hmn : m = n := by omega
        subst hmn
        exact ColRel.done HL.out HO1.out hb
--$end--$begin{impl.DueIn}
set_option maxRecDepth 100000 in
set_option maxHeartbeats 800000 in
theorem dueIn_any (A : Option Addr) (n c lo hi : Nat) (l : List TimerD) (now : Int) (w : World) (h : Sl w lo hi 2 A n c (l.flatMap TimerD.ints)) :
    Calls Try.prog 42 #[.slice A n c, .int .i64 now] w (SlRes w 1 (dueIn l now).length ((dueIn l now).flatMap (fun t => [t.id]))) := by
  have hn : n ≤ 9223372036854775807 := Nat.le_trans h.cap h.big
  have HL := Lib.hid (h.count TimerD.ints_len (by omega) : l.length = n)
  replace h := h.fit (by omega)
  have hhi : min hi w.heap.size ≤ w.heap.size := Nat.min_le_right _ _
  generalize min hi w.heap.size = hi at h hhi
  cases hok : timersOk l with
  | false =>
    have e : dueIn l now = [] := by simp [dueIn, hok]
    rw [e]
    clear e
    have CO : ∀ W, Sl W lo hi 2 A n c (l.flatMap TimerD.ints) → Calls Try.prog 33 #[.slice A n c] W fun x w' => x = .returned (.bool false) ∧ Below W.heap.size W w' := fun W s => by
      have h7 := timersOk_any A n c lo hi l W s
      rw [hok] at h7
      exact h7
    have HO := Lib.hid CO
    clear CO
    go_enter Try.func42, Try.ntmps42
    go_wp2_with fail
    (with_reducible refine (HO.out _ (h.below (B := w.heap.size) (by (repeat' (first | with_reducible exact Below.refl _ _ | with_reducible assumption | with_reducible refine Below.drew ?_ | with_reducible refine Below.alloc ?_ ?_ _ | with_reducible refine Below.setCell ?_ ?_ _ | with_reducible refine Below.trans ?_ (Below.mono (by assumption) ?_) | ((try simp only [World.heap_size_alloc, World.heap_size_drew, World.heap_size_setCell]); omega)))) hhi)).mono ?_); rintro _ w1 ⟨rfl, b1⟩
    have y1 := b1.size
    (try simp only [World.heap_size_alloc, World.heap_size_drew] at y1)
    have hw1 : Below w.heap.size w w1 := by (repeat' (first | with_reducible exact Below.refl _ _ | with_reducible assumption | with_reducible refine Below.drew ?_ | with_reducible refine Below.alloc ?_ ?_ _ | with_reducible refine Below.setCell ?_ ?_ _ | with_reducible refine Below.trans ?_ (Below.mono (by assumption) ?_) | ((try simp only [World.heap_size_alloc, World.heap_size_drew, World.heap_size_setCell]); omega)))
    go_wp2_with fail
    go_ret
    exact SlRes.none (by (repeat' (first | with_reducible exact Below.refl _ _ | with_reducible assumption | with_reducible refine Below.drew ?_ | with_reducible refine Below.alloc ?_ ?_ _ | with_reducible refine Below.setCell ?_ ?_ _ | with_reducible refine Below.trans ?_ (Below.mono (by assumption) ?_) | ((try simp only [World.heap_size_alloc, World.heap_size_drew, World.heap_size_setCell]); omega)))) _ _ _ (by omega)
  | true =>
    have hshort : n ≤ 16 := by rw [← HL.out]; exact timersOk_len hok
    have e : dueIn l now = l.filter (fun t => decide (t.due ≤ now)) := by simp [dueIn, hok]
    rw [e]
    clear e
    have CO : ∀ W, Sl W lo hi 2 A n c (l.flatMap TimerD.ints) → Calls Try.prog 33 #[.slice A n c] W fun x w' => x = .returned (.bool true) ∧ Below W.heap.size W w' := fun W s => by
      have h7 := timersOk_any A n c lo hi l W s
      rw [hok] at h7
      exact h7
    have HO := Lib.hid CO
    clear CO
    go_enter Try.func42, Try.ntmps42
    go_wp2_with fail
    (with_reducible refine (HO.out _ (h.below (B := w.heap.size) (by (repeat' (first | with_reducible exact Below.refl _ _ | with_reducible assumption | with_reducible refine Below.drew ?_ | with_reducible refine Below.alloc ?_ ?_ _ | with_reducible refine Below.setCell ?_ ?_ _ | with_reducible refine Below.trans ?_ (Below.mono (by assumption) ?_) | ((try simp only [World.heap_size_alloc, World.heap_size_drew, World.heap_size_setCell]); omega)))) hhi)).mono ?_); rintro _ w1 ⟨rfl, b1⟩
    have y1 := b1.size
    (try simp only [World.heap_size_alloc, World.heap_size_drew] at y1)
    have hw1 : Below w.heap.size w w1 := by (repeat' (first | with_reducible exact Below.refl _ _ | with_reducible assumption | with_reducible refine Below.drew ?_ | with_reducible refine Below.alloc ?_ ?_ _ | with_reducible refine Below.setCell ?_ ?_ _ | with_reducible refine Below.trans ?_ (Below.mono (by assumption) ?_) | ((try simp only [World.heap_size_alloc, World.heap_size_drew, World.heap_size_setCell]); omega)))
    have o1 : Own (w1.alloc (.cells #[] 2)) w.heap.size 2 1 (.slice (some ⟨w1.heap.size, 0, none⟩) 0 0) 0 [] := Own.new w1 2 1 [] rfl (by omega) (by omega)
    have hw2 : Below w.heap.size w (w1.alloc (.cells #[] 2)) := by (repeat' (first | with_reducible exact Below.refl _ _ | with_reducible assumption | with_reducible refine Below.drew ?_ | with_reducible refine Below.alloc ?_ ?_ _ | with_reducible refine Below.setCell ?_ ?_ _ | with_reducible refine Below.trans ?_ (Below.mono (by assumption) ?_) | ((try simp only [World.heap_size_alloc, World.heap_size_drew, World.heap_size_setCell]); omega)))
    have O1 := Lib.hid o1
    have Hw2 := Lib.hid hw2
    clear o1 hw2 hw1 b1
    go_wp2
    go_loopw [5, 14] (fun v i wr => ColRel w 2 n 1 (fun t : TimerD => decide (t.due ≤ now)) (fun t : TimerD => [t.id]) l v i wr) (fun _ i _ => n - (intOf i).toNat)
    case atStart => exact ⟨0, _, Nat.zero_le _, rfl, rfl, O1.out, Hw2.out⟩
    case round =>
      obtain ⟨m, v, hm, rfl, rfl, ho, hb⟩ := hrel
      have hbz := hb.size
      by_cases hlt : m < n
      · obtain ⟨g, off, e, rfl, _, hg, he, p0, p1⟩ := h.timer hlt
        have hg1 := Nat.lt_of_lt_of_le hg hhi
        have HE := Lib.hid he
        clear he
        have r0 := (hb.cell (p := ⟨g, off + m * 2, none⟩) hg1).trans p0
        have r1 := (hb.cell (p := ⟨g, off + m * 2 + 1, none⟩) hg1).trans p1
        clear p0 p1
        have HO1 := Lib.hid ho
        clear ho
        have hlen : ((l.take m).filter (fun t : TimerD => decide (t.due ≤ now))).length ≤ m := Nat.le_trans (List.length_filter_le _ _) (List.length_take_le _ _)
        by_cases hq : (fun t : TimerD => decide (t.due ≤ now)) e = true
        · have hsrc : Sl ((wr.alloc (.cells #[.int .i64 e.id, .int .i64 e.due] 60)).alloc (.cells #[.int .i64 e.id] 2)) (wr.alloc (.cells #[.int .i64 e.id, .int .i64 e.due] 60)).heap.size ((wr.alloc (.cells #[.int .i64 e.id, .int .i64 e.due] 60)).alloc (.cells #[.int .i64 e.id] 2)).heap.size 1 (some ⟨wr.heap.size + 1, 0, none⟩) 1 1 ((fun t : TimerD => [t.id]) e) := ⟨rfl, by omega, by omega, fun _ => ⟨_, 0, rfl, by (try simp only [World.heap_size_alloc, World.heap_size_drew, World.heap_size_setCell]); omega, by simp, by have h9 := ints_new (wr.alloc (.cells #[.int .i64 e.id, .int .i64 e.due] 60)) 2 ((fun t : TimerD => [t.id]) e); (try rw [World.heap_size_alloc] at h9); exact h9⟩⟩
          have HS1 := Lib.hid hsrc
          have HB1 : Hid (Below wr.heap.size wr ((wr.alloc (.cells #[.int .i64 e.id, .int .i64 e.due] 60)).alloc (.cells #[.int .i64 e.id] 2))) := (by (repeat' (first | with_reducible exact Below.refl _ _ | with_reducible assumption | with_reducible refine Below.drew ?_ | with_reducible refine Below.alloc ?_ ?_ _ | with_reducible refine Below.setCell ?_ ?_ _ | with_reducible refine Below.trans ?_ (Below.mono (by assumption) ?_) | ((try simp only [World.heap_size_alloc, World.heap_size_drew, World.heap_size_setCell]); omega))) : Below wr.heap.size wr ((wr.alloc (.cells #[.int .i64 e.id, .int .i64 e.due] 60)).alloc (.cells #[.int .i64 e.id] 2)))
          have hge : w.heap.size ≤ ((wr.alloc (.cells #[.int .i64 e.id, .int .i64 e.due] 60)).alloc (.cells #[.int .i64 e.id] 2)).heap.size := by simp only [World.heap_size_alloc]; omega
          have HQ := Lib.hid hq
          have hq1 : e.due ≤ now := by simpa using hq
          clear hsrc hq
          go_wp2_with (at_builtin; go_loud (refine wpList_append_sl _ rfl (.tmp 22) (.tmp 25) 22 rfl w.heap.size 2 Try.underlying22 info64 rfl (by omega) _ _ _ rfl (HO1.out.kept HB1.out) _ 1 1 _ _ ((fun t : TimerD => [t.id]) e) rfl HS1.out (by omega) (by omega) hge ?_); intro v2 w2 o2 g2 a2)
          have hb2 : Below w.heap.size w w2 := (hb.trans (HB1.out.mono hb.size)).trans (grown_below g2 hge (fun g hg => (Own.lt HO1.out g hg).1))
          have HO2 := Lib.hid o2
          clear o2 a2 g2
          go_roundw
          case rel => exact ColRel.step hlt HE.out HQ.out (by go_num) HO2.out hb2
          case measure => simp [intOf]; omega
        · have HQ := Lib.hid (show (fun t : TimerD => decide (t.due ≤ now)) e = false by simpa using hq)
          have hq1 : ¬ e.due ≤ now := by simpa using hq
          clear hq
          go_wp2
          go_roundw
          case rel => exact ColRel.skip hlt HE.out HQ.out (by go_num) (HO1.out.kept (by (repeat' (first | with_reducible exact Below.refl _ _ | with_reducible assumption | with_reducible refine Below.drew ?_ | with_reducible refine Below.alloc ?_ ?_ _ | with_reducible refine Below.setCell ?_ ?_ _ | with_reducible refine Below.trans ?_ (Below.mono (by assumption) ?_) | ((try simp only [World.heap_size_alloc, World.heap_size_drew, World.heap_size_setCell]); omega))))) (by (repeat' (first | with_reducible exact Below.refl _ _ | with_reducible assumption | with_reducible refine Below.drew ?_ | with_reducible refine Below.alloc ?_ ?_ _ | with_reducible refine Below.setCell ?_ ?_ _ | with_reducible refine Below.trans ?_ (Below.mono (by assumption) ?_) | ((try simp only [World.heap_size_alloc, World.heap_size_drew, World.heap_size_setCell]); omega))))
          case measure => simp [intOf]; omega
      · have HO1 := Lib.hid ho
        clear ho
        go_wp2
        go_ret
        have hmn : m = n := by omega
        subst hmn
        exact ColRel.done HL.out HO1.out hb
end Go.Proofs.Ytkianeknbfahgaa
