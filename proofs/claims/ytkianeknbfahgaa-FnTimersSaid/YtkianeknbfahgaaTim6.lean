/- Timers that are taken off: what the program's and the reference's functions return. No conditions. -/
import Derived.Test.YtkianeknbfahgaaTim5
import Derived.Test.YtkianeknbfahgaaClk2
set_option linter.unusedSimpArgs false
set_option linter.unusedVariables false
namespace Go.Proofs.Ytkianeknbfahgaa
open Go.RowKit

def without (l : List TimerD) (q : Int) : List TimerD := l.filter (fun t => t.id != q)
def timerOff (l : List TimerD) (q : Int) : List TimerD × Bool := if timersOk l then (without l q, decide (0 ≤ idxD (fun t => t.id == q) l)) else ([], false)

theorem without_none {l : List TimerD} {q : Int} (h : ¬ 0 ≤ idxD (fun t => t.id == q) l) : without l q = l := by
  apply List.filter_eq_self.2
  intro x hx
  by_cases hq : x.id = q
  · exfalso
    apply h
    have hlt : l.findIdx (fun t => t.id == q) < l.length := List.findIdx_lt_length_of_exists ⟨x, hx, by simp [hq]⟩
    unfold idxD
    rw [if_pos hlt]
    omega
  · simpa using hq
theorem idxD_at {α : Type} {p : α → Bool} {l : List α} {k : Nat} (h : idxD p l = (k : Int)) : ∃ x, l[k]? = some x ∧ p x = true := by
  unfold idxD at h
  split at h
  · rename_i hlt
    have e : l.findIdx p = k := by omega
    exact ⟨l[k]'(by omega), List.getElem?_eq_getElem _, by have := List.findIdx_getElem (p := p) (w := hlt); simpa [e] using this⟩
  · omega
theorem timersOk_step {l : List TimerD} (h : timersOk l = true) {j : Nat} {x : TimerD} (hx : l[j]? = some x) : tBase l j x = true := by
  simp only [timersOk, Bool.and_eq_true, List.all_eq_true, List.mem_range] at h
  have h1 := h.2 j (List.getElem?_eq_some_iff.1 hx).1
  simp only [tStepOk, hx, Bool.and_eq_true] at h1
  exact h1.1
theorem without_at {l : List TimerD} {q : Int} {k : Nat} (hok : timersOk l = true) (h : idxD (fun t => t.id == q) l = (k : Int)) : without l q = l.take k ++ l.drop (k + 1) := by
  obtain ⟨x, hx, hp⟩ := idxD_at h
  have huniq : ∀ j y, l[j]? = some y → y.id = q → j = k := fun j y hy hyq => by
    have h1 := timersOk_step hok hy
    simp only [tBase, Bool.and_eq_true, decide_eq_true_eq] at h1
    have h2 := h1.2
    rw [hyq, h] at h2
    omega
  obtain ⟨hk, rfl⟩ := List.getElem?_eq_some_iff.1 hx
  have e : l = l.take k ++ (l[k] :: l.drop (k + 1)) := by rw [← List.drop_eq_getElem_cons hk, List.take_append_drop]
  have e1 : without l q = (l.take k ++ (l[k] :: l.drop (k + 1))).filter (fun t => t.id != q) := by rw [← e]; rfl
  rw [e1, List.filter_append, List.filter_cons]
  have hkq : (l[k].id != q) = false := by simpa using hp
  rw [if_neg (by simp [hkq])]
  congr 1
  · apply List.filter_eq_self.2
    intro y hy
    obtain ⟨j, hj, hjy⟩ := List.getElem_of_mem hy
    rw [List.length_take] at hj
    rw [List.getElem_take] at hjy
    by_cases hyq : y.id = q
    · have := huniq j y (by rw [← hjy]; exact List.getElem?_eq_getElem _) hyq
      omega
    · simpa using hyq
  · apply List.filter_eq_self.2
    intro y hy
    obtain ⟨j, hj, hjy⟩ := List.getElem_of_mem hy
    rw [List.getElem_drop] at hjy
    by_cases hyq : y.id = q
    · have := huniq (k + 1 + j) y (by rw [← hjy]; exact List.getElem?_eq_getElem _) hyq
      omega
    · simpa using hyq
theorem Ints.front {w : World} {g off : Nat} {zs ys : List Int} (h : Ints w g off (zs ++ ys)) : Ints w g off zs := fun j z hz =>
  h j z (by rw [List.getElem?_append_left (List.getElem?_eq_some_iff.1 hz).1]; exact hz)

set_option maxRecDepth 100000 in
set_option maxHeartbeats 800000 in
theorem l6Without_any (A : Option Addr) (n c lo hi : Nat) (l : List TimerD) (q : Int) (w : World) (h : Sl w lo hi 2 A n c (l.flatMap TimerD.ints)) (hn1 : n ≤ 1048576) :
    Calls Try.prog 66 #[.slice A n c, .int .i64 q] w (SlRes w 2 (without l q).length ((without l q).flatMap TimerD.ints)) := by
  have hn : n ≤ 9223372036854775807 := Nat.le_trans h.cap h.big
  have HL := Lib.hid (h.count TimerD.ints_len (by omega) : l.length = n)
  replace h := h.fit (by omega)
  have hhi : min hi w.heap.size ≤ w.heap.size := Nat.min_le_right _ _
  generalize min hi w.heap.size = hi at h hhi
  have o1 : Own (w.alloc (.cells #[] 60)) w.heap.size 60 2 (.slice (some ⟨w.heap.size, 0, none⟩) 0 0) 0 [] := Own.new w 60 2 [] rfl (Nat.le_refl _) (by omega)
  have hw2 : Below w.heap.size w (w.alloc (.cells #[] 60)) := by (repeat' (first | with_reducible exact Below.refl _ _ | with_reducible assumption | with_reducible refine Below.drew ?_ | with_reducible refine Below.alloc ?_ ?_ _ | with_reducible refine Below.setCell ?_ ?_ _ | with_reducible refine Below.trans ?_ (Below.mono (by assumption) ?_) | ((try simp only [World.heap_size_alloc, World.heap_size_drew, World.heap_size_setCell]); omega)))
  have O1 := Lib.hid o1
  have Hw2 := Lib.hid hw2
  clear o1 hw2
  unfold without
  go_enter Try.func66, Try.ntmps66
  go_wp2
  go_loopw [5, 6] (fun v i wr => ColRel w 60 n 2 (fun t : TimerD => t.id != q) (TimerD.ints) l v i wr) (fun _ i _ => n - (intOf i).toNat)
  case atStart => exact ⟨0, _, Nat.zero_le _, rfl, rfl, O1.out, Hw2.out⟩
  case round =>
    obtain ⟨m, v, hm, rfl, rfl, ho, hb⟩ := hrel
    have hbz := hb.size
    by_cases hlt : m < n
    · obtain ⟨g, off, e, rfl, _, hg, he, p0, p1⟩ := h.timer hlt
      have hg1 := Nat.lt_of_lt_of_le hg hhi
      have HE := Lib.hid he
      clear he
      have r0 := (hb.cell (p := ⟨g, off + m * 2, none⟩) hg1).trans p0
      have r1 := (hb.cell (p := ⟨g, off + m * 2 + 1, none⟩) hg1).trans p1
      clear p0 p1
      have HO1 := Lib.hid ho
      clear ho
      have hlen : ((l.take m).filter (fun t : TimerD => t.id != q)).length ≤ m := Nat.le_trans (List.length_filter_le _ _) (List.length_take_le _ _)
      by_cases hq : (fun t : TimerD => t.id != q) e = true
      · have hsrc : Sl (wr.alloc (.cells #[.int .i64 e.id, .int .i64 e.due] 60)) wr.heap.size (wr.alloc (.cells #[.int .i64 e.id, .int .i64 e.due] 60)).heap.size 2 (some ⟨wr.heap.size, 0, none⟩) 1 1 ((TimerD.ints) e) := ⟨rfl, by omega, by omega, fun _ => ⟨_, 0, rfl, by (try simp only [World.heap_size_alloc, World.heap_size_drew, World.heap_size_setCell]); omega, by simp, by have h9 := ints_new wr 60 ((TimerD.ints) e); (try rw [World.heap_size_alloc] at h9); exact h9⟩⟩
        have HS1 := Lib.hid hsrc
        have HB1 : Hid (Below wr.heap.size wr (wr.alloc (.cells #[.int .i64 e.id, .int .i64 e.due] 60))) := (by (repeat' (first | with_reducible exact Below.refl _ _ | with_reducible assumption | with_reducible refine Below.drew ?_ | with_reducible refine Below.alloc ?_ ?_ _ | with_reducible refine Below.setCell ?_ ?_ _ | with_reducible refine Below.trans ?_ (Below.mono (by assumption) ?_) | ((try simp only [World.heap_size_alloc, World.heap_size_drew, World.heap_size_setCell]); omega))) : Below wr.heap.size wr (wr.alloc (.cells #[.int .i64 e.id, .int .i64 e.due] 60)))
        have hge : w.heap.size ≤ (wr.alloc (.cells #[.int .i64 e.id, .int .i64 e.due] 60)).heap.size := by simp only [World.heap_size_alloc]; omega
        have HQ := Lib.hid hq
        have hq1 : (e.id != q) = true := hq
        clear hsrc hq
        go_wp2_with (at_builtin; go_loud (refine wpList_append_sl _ rfl (.tmp 21) (.tmp 26) 40 rfl w.heap.size 60 Try.underlying40 infoTimer rfl (by omega) _ _ _ rfl (HO1.out.kept HB1.out) _ 1 1 _ _ ((TimerD.ints) e) rfl HS1.out (by omega) (by omega) hge ?_); intro v2 w2 o2 g2 a2)
        have hb2 : Below w.heap.size w w2 := (hb.trans (HB1.out.mono hb.size)).trans (grown_below g2 hge (fun g hg => (Own.lt HO1.out g hg).1))
        have HO2 := Lib.hid o2
        clear o2 a2 g2
        go_roundw
        case rel => exact ColRel.step hlt HE.out HQ.out (by go_num) HO2.out hb2
        case measure => simp [intOf]; omega
      · have HQ := Lib.hid (show (fun t : TimerD => t.id != q) e = false by simpa using hq)
        have hq1 : (e.id != q) = false := by simpa using hq
        clear hq
        go_wp2
        go_roundw
        case rel => exact ColRel.skip hlt HE.out HQ.out (by go_num) (HO1.out.kept (by (repeat' (first | with_reducible exact Below.refl _ _ | with_reducible assumption | with_reducible refine Below.drew ?_ | with_reducible refine Below.alloc ?_ ?_ _ | with_reducible refine Below.setCell ?_ ?_ _ | with_reducible refine Below.trans ?_ (Below.mono (by assumption) ?_) | ((try simp only [World.heap_size_alloc, World.heap_size_drew, World.heap_size_setCell]); omega))))) (by (repeat' (first | with_reducible exact Below.refl _ _ | with_reducible assumption | with_reducible refine Below.drew ?_ | with_reducible refine Below.alloc ?_ ?_ _ | with_reducible refine Below.setCell ?_ ?_ _ | with_reducible refine Below.trans ?_ (Below.mono (by assumption) ?_) | ((try simp only [World.heap_size_alloc, World.heap_size_drew, World.heap_size_setCell]); omega))))
        case measure => simp [intOf]; omega
    · have HO1 := Lib.hid ho
      clear ho
      go_wp2
      go_ret
      have hmn : m = n := by omega
      subst hmn
      exact ColRel.done HL.out HO1.out hb
set_option maxHeartbeats 800000 in
theorem sTimerOff_any (A : Option Addr) (n c lo hi : Nat) (l : List TimerD) (q : Int) (w : World) (h : Sl w lo hi 2 A n c (l.flatMap TimerD.ints)) :
    Calls Try.prog 39 #[.slice A n c, .int .i64 q] w (SlBRes w 2 (timerOff l q).1.length ((timerOff l q).1.flatMap TimerD.ints, (timerOff l q).2)) := by
  have hn : n ≤ 9223372036854775807 := Nat.le_trans h.cap h.big
  have HL := Lib.hid (h.count TimerD.ints_len (by omega) : l.length = n)
  replace h := h.fit (by omega)
  have hhi : min hi w.heap.size ≤ w.heap.size := Nat.min_le_right _ _
  generalize min hi w.heap.size = hi at h hhi
  cases hok : timersOk l with
  | false =>
    have e : timerOff l q = ([], false) := by simp [timerOff, hok]
    rw [e]
    clear e
    have CO : ∀ W, Sl W lo hi 2 A n c (l.flatMap TimerD.ints) → Calls Try.prog 31 #[.slice A n c] W fun x w' => x = .returned (.bool false) ∧ Below W.heap.size W w' := fun W s => by
      have h7 := sTimersOk_any A n c lo hi l W s
      rw [hok] at h7
      exact h7
    have HO := Lib.hid CO
    clear CO
    go_enter Try.func39, Try.ntmps39
    go_wp2_with fail
    (with_reducible refine (HO.out _ (h.below (B := w.heap.size) (by (repeat' (first | with_reducible exact Below.refl _ _ | with_reducible assumption | with_reducible refine Below.drew ?_ | with_reducible refine Below.alloc ?_ ?_ _ | with_reducible refine Below.setCell ?_ ?_ _ | with_reducible refine Below.trans ?_ (Below.mono (by assumption) ?_) | ((try simp only [World.heap_size_alloc, World.heap_size_drew, World.heap_size_setCell]); omega)))) hhi)).mono ?_); rintro _ w1 ⟨rfl, b1⟩
    have y1 := b1.size
    (try simp only [World.heap_size_alloc, World.heap_size_drew] at y1)
    have hw1 : Below w.heap.size w w1 := by (repeat' (first | with_reducible exact Below.refl _ _ | with_reducible assumption | with_reducible refine Below.drew ?_ | with_reducible refine Below.alloc ?_ ?_ _ | with_reducible refine Below.setCell ?_ ?_ _ | with_reducible refine Below.trans ?_ (Below.mono (by assumption) ?_) | ((try simp only [World.heap_size_alloc, World.heap_size_drew, World.heap_size_setCell]); omega)))
    go_wp2_with fail
    go_ret2
    exact SlBRes.none (by (repeat' (first | with_reducible exact Below.refl _ _ | with_reducible assumption | with_reducible refine Below.drew ?_ | with_reducible refine Below.alloc ?_ ?_ _ | with_reducible refine Below.setCell ?_ ?_ _ | with_reducible refine Below.trans ?_ (Below.mono (by assumption) ?_) | ((try simp only [World.heap_size_alloc, World.heap_size_drew, World.heap_size_setCell]); omega)))) _ _ _ (by omega)
  | true =>
    have hshort : n ≤ 16 := by rw [← HL.out]; exact timersOk_len hok
    have e : timerOff l q = (without l q, decide (0 ≤ idxD (fun t => t.id == q) l)) := by simp [timerOff, hok]
    rw [e]
    clear e
    have CO : ∀ W, Sl W lo hi 2 A n c (l.flatMap TimerD.ints) → Calls Try.prog 31 #[.slice A n c] W fun x w' => x = .returned (.bool true) ∧ Below W.heap.size W w' := fun W s => by
      have h7 := sTimersOk_any A n c lo hi l W s
      rw [hok] at h7
      exact h7
    have HO := Lib.hid CO
    clear CO
    go_enter Try.func39, Try.ntmps39
    go_wp2_with fail
    (with_reducible refine (HO.out _ (h.below (B := w.heap.size) (by (repeat' (first | with_reducible exact Below.refl _ _ | with_reducible assumption | with_reducible refine Below.drew ?_ | with_reducible refine Below.alloc ?_ ?_ _ | with_reducible refine Below.setCell ?_ ?_ _ | with_reducible refine Below.trans ?_ (Below.mono (by assumption) ?_) | ((try simp only [World.heap_size_alloc, World.heap_size_drew, World.heap_size_setCell]); omega)))) hhi)).mono ?_); rintro _ w1 ⟨rfl, b1⟩
    have y1 := b1.size
    (try simp only [World.heap_size_alloc, World.heap_size_drew] at y1)
    have hw1 : Below w.heap.size w w1 := by (repeat' (first | with_reducible exact Below.refl _ _ | with_reducible assumption | with_reducible refine Below.drew ?_ | with_reducible refine Below.alloc ?_ ?_ _ | with_reducible refine Below.setCell ?_ ?_ _ | with_reducible refine Below.trans ?_ (Below.mono (by assumption) ?_) | ((try simp only [World.heap_size_alloc, World.heap_size_drew, World.heap_size_setCell]); omega)))
    have h1 := h.below hw1 hhi
    go_wp2_with fail
    (with_reducible refine (l6Without_any _ _ _ _ _ _ _ _ h1 (by omega)).mono ?_); rintro _ w2 ⟨A2, c2, rfl, s2, b2⟩
    have y2 := b2.size
    have hw2 : Below w.heap.size w w2 := by (repeat' (first | with_reducible exact Below.refl _ _ | with_reducible assumption | with_reducible refine Below.drew ?_ | with_reducible refine Below.alloc ?_ ?_ _ | with_reducible refine Below.setCell ?_ ?_ _ | with_reducible refine Below.trans ?_ (Below.mono (by assumption) ?_) | ((try simp only [World.heap_size_alloc, World.heap_size_drew, World.heap_size_setCell]); omega)))
    have h2 := h.below hw2 hhi
    have S2 := Lib.hid s2
    have HW2 := Lib.hid hw2
    clear s2
    go_wp2_with fail
    (with_reducible refine (l6At_any _ _ _ _ _ _ _ _ h2).mono ?_); rintro _ _ ⟨rfl, rfl⟩
    go_wp2_with fail
    go_ret2
    exact ⟨A2, c2, rfl, S2.out.mono (by omega) (Nat.le_refl _), HW2.out⟩
set_option maxHeartbeats 1600000 in
theorem timerOff_any (A : Option Addr) (n c lo hi : Nat) (l : List TimerD) (q : Int) (w : World) (h : Sl w lo hi 2 A n c (l.flatMap TimerD.ints)) :
    Calls Try.prog 40 #[.slice A n c, .int .i64 q] w (SlBRes w 2 (timerOff l q).1.length ((timerOff l q).1.flatMap TimerD.ints, (timerOff l q).2)) := by
  have hn : n ≤ 9223372036854775807 := Nat.le_trans h.cap h.big
  have HL := Lib.hid (h.count TimerD.ints_len (by omega) : l.length = n)
  replace h := h.fit (by omega)
  have hhi : min hi w.heap.size ≤ w.heap.size := Nat.min_le_right _ _
  generalize min hi w.heap.size = hi at h hhi
  cases hok : timersOk l with
  | false =>
    have e : timerOff l q = ([], false) := by simp [timerOff, hok]
    rw [e]
    clear e
    have CO : ∀ W, Sl W lo hi 2 A n c (l.flatMap TimerD.ints) → Calls Try.prog 33 #[.slice A n c] W fun x w' => x = .returned (.bool false) ∧ Below W.heap.size W w' := fun W s => by
      have h7 := timersOk_any A n c lo hi l W s
      rw [hok] at h7
      exact h7
    have HO := Lib.hid CO
    clear CO
    go_enter Try.func40, Try.ntmps40
    go_wp2_with fail
    (with_reducible refine (HO.out _ (h.below (B := w.heap.size) (by (repeat' (first | with_reducible exact Below.refl _ _ | with_reducible assumption | with_reducible refine Below.drew ?_ | with_reducible refine Below.alloc ?_ ?_ _ | with_reducible refine Below.setCell ?_ ?_ _ | with_reducible refine Below.trans ?_ (Below.mono (by assumption) ?_) | ((try simp only [World.heap_size_alloc, World.heap_size_drew, World.heap_size_setCell]); omega)))) hhi)).mono ?_); rintro _ w1 ⟨rfl, b1⟩
    have y1 := b1.size
    (try simp only [World.heap_size_alloc, World.heap_size_drew] at y1)
    have hw1 : Below w.heap.size w w1 := by (repeat' (first | with_reducible exact Below.refl _ _ | with_reducible assumption | with_reducible refine Below.drew ?_ | with_reducible refine Below.alloc ?_ ?_ _ | with_reducible refine Below.setCell ?_ ?_ _ | with_reducible refine Below.trans ?_ (Below.mono (by assumption) ?_) | ((try simp only [World.heap_size_alloc, World.heap_size_drew, World.heap_size_setCell]); omega)))
    go_wp2_with fail
    go_ret2
    exact SlBRes.none (by (repeat' (first | with_reducible exact Below.refl _ _ | with_reducible assumption | with_reducible refine Below.drew ?_ | with_reducible refine Below.alloc ?_ ?_ _ | with_reducible refine Below.setCell ?_ ?_ _ | with_reducible refine Below.trans ?_ (Below.mono (by assumption) ?_) | ((try simp only [World.heap_size_alloc, World.heap_size_drew, World.heap_size_setCell]); omega)))) _ _ _ (by omega)
  | true =>
    have hshort : n ≤ 16 := by rw [← HL.out]; exact timersOk_len hok
    have e : timerOff l q = (without l q, decide (0 ≤ idxD (fun t => t.id == q) l)) := by simp [timerOff, hok]
    rw [e]
    clear e
    by_cases hk : 0 ≤ idxD (fun t => t.id == q) l
    · obtain ⟨k, hk2⟩ := Int.eq_ofNat_of_zero_le hk
      have hwo := without_at hok hk2
      have hkn : k < n := by
        obtain ⟨x, hx, _⟩ := idxD_at hk2
        have := (List.getElem?_eq_some_iff.1 hx).1
        rw [HL.out] at this
        exact this
      have hd : decide (0 ≤ idxD (fun t => t.id == q) l) = true := by simpa using hk
      rw [hd, hwo]
      obtain ⟨rl, hrl⟩ : ∃ rl, rl = l.take k ++ l.drop (k + 1) := ⟨_, rfl⟩
      rw [← hrl]
      have HRL := Lib.hid hrl
      clear hrl
      have HP9 : Hid (∀ A n c lo hi W, Sl W lo hi 2 A n c (l.flatMap TimerD.ints) → Calls Try.prog 62 #[.slice A n c, .int .i64 q, .func (.func 63) #[] #[]] W fun x w' => x = .returned (.int .i64 (k : Nat)) ∧ Below W.heap.size W w') := fun A n c lo hi W s => by
        have h7 := placeBy_any A n c lo hi l q W s
        rw [hk2] at h7
        exact h7
      clear hk hd hwo
      have CO : ∀ W, Sl W lo hi 2 A n c (l.flatMap TimerD.ints) → Calls Try.prog 33 #[.slice A n c] W fun x w' => x = .returned (.bool true) ∧ Below W.heap.size W w' := fun W s => by
        have h7 := timersOk_any A n c lo hi l W s
        rw [hok] at h7
        exact h7
      have HO := Lib.hid CO
      clear CO
      go_enter Try.func40, Try.ntmps40
      go_wp2_with fail
      (with_reducible refine (HO.out _ (h.below (B := w.heap.size) (by (repeat' (first | with_reducible exact Below.refl _ _ | with_reducible assumption | with_reducible refine Below.drew ?_ | with_reducible refine Below.alloc ?_ ?_ _ | with_reducible refine Below.setCell ?_ ?_ _ | with_reducible refine Below.trans ?_ (Below.mono (by assumption) ?_) | ((try simp only [World.heap_size_alloc, World.heap_size_drew, World.heap_size_setCell]); omega)))) hhi)).mono ?_); rintro _ w1 ⟨rfl, b1⟩
      have y1 := b1.size
      (try simp only [World.heap_size_alloc, World.heap_size_drew] at y1)
      have hw1 : Below w.heap.size w w1 := by (repeat' (first | with_reducible exact Below.refl _ _ | with_reducible assumption | with_reducible refine Below.drew ?_ | with_reducible refine Below.alloc ?_ ?_ _ | with_reducible refine Below.setCell ?_ ?_ _ | with_reducible refine Below.trans ?_ (Below.mono (by assumption) ?_) | ((try simp only [World.heap_size_alloc, World.heap_size_drew, World.heap_size_setCell]); omega)))
      have hs2 : Sl (w1.alloc (.cells #[] 60)) lo hi 2 A n c (l.flatMap TimerD.ints) := h.below (B := w.heap.size) (by (repeat' (first | with_reducible exact Below.refl _ _ | with_reducible assumption | with_reducible refine Below.drew ?_ | with_reducible refine Below.alloc ?_ ?_ _ | with_reducible refine Below.setCell ?_ ?_ _ | with_reducible refine Below.trans ?_ (Below.mono (by assumption) ?_) | ((try simp only [World.heap_size_alloc, World.heap_size_drew, World.heap_size_setCell]); omega)))) hhi
      have ho2 : Own (w1.alloc (.cells #[] 60)) w.heap.size 60 2 (.slice (some ⟨w1.heap.size, 0, none⟩) 0 0) 0 [] := Own.new w1 60 2 [] rfl (by omega) (by omega)
      have HS2 := Lib.hid hs2
      have HO2 := Lib.hid ho2
      clear hs2 ho2
      go_wp2_with (at_builtin; go_loud (refine wpList_append_sl _ rfl (.tmp 11) (.tmp 12) 40 rfl w.heap.size 60 Try.underlying40 infoTimer rfl (by omega) _ _ _ rfl HO2.out _ n c _ _ (l.flatMap TimerD.ints) rfl HS2.out (by omega) (by omega) (by (try simp only [World.heap_size_alloc, World.heap_size_drew, World.heap_size_setCell]); omega) ?_); intro v2 w2 o2 g2 a2)
      have hb2 : Below w.heap.size w w2 := (hw1.alloc (by (try simp only [World.heap_size_alloc, World.heap_size_drew, World.heap_size_setCell]); omega) _).trans (grown_below g2 (by (try simp only [World.heap_size_alloc, World.heap_size_drew, World.heap_size_setCell]); omega) (fun g hg => (Own.lt HO2.out g hg).1))
      have y2 := g2.size
      (try simp only [World.heap_size_alloc, World.heap_size_drew] at y2)
      obtain ⟨A2, c2, rfl, s2⟩ := o2.sl
      rw [Nat.zero_add, List.nil_append] at s2
      simp only [Nat.zero_add]
      have S2 := Lib.hid s2
      have hlz := s2.len
      clear o2 g2 a2
      obtain ⟨g2, z0, rfl, hg2, hg3, hI2⟩ := s2.lie (by omega)
      clear s2
      have hw3 : Below w.heap.size w w2 := hb2
      go_wp2_with fail
      (with_reducible refine (HP9.out _ _ _ _ _ _ S2.out).mono ?_); rintro _ w3 ⟨rfl, b3⟩
      have y3 := b3.size
      have hI3 := hI2.below b3 (by omega)
      have HI3 := Lib.hid hI3
      have hb3 : Below w.heap.size w w3 := by (repeat' (first | with_reducible exact Below.refl _ _ | with_reducible assumption | with_reducible refine Below.drew ?_ | with_reducible refine Below.alloc ?_ ?_ _ | with_reducible refine Below.setCell ?_ ?_ _ | with_reducible refine Below.trans ?_ (Below.mono (by assumption) ?_) | ((try simp only [World.heap_size_alloc, World.heap_size_drew, World.heap_size_setCell]); omega)))
      clear hI2 hI3
      go_wp2_with fail
      refine (delTimer_any _ _ _ _ k _ _ HI3.out hlz hkn S2.out.cap S2.out.big).mono ?_; rintro _ w4 ⟨rfl, hI4, hu4⟩
      have HI4 := Lib.hid hI4
      have HU4 := Lib.hid hu4
      have y4 := hu4.size
      clear hI4 hu4
      go_wp2_with fail
      go_ret2
      have hln : rl.length = n - 1 := by
        rw [HRL.out, List.length_append, List.length_take, List.length_drop, HL.out]
        omega
      have hfl : rl.flatMap TimerD.ints = (l.flatMap TimerD.ints).take (k * 2) ++ (l.flatMap TimerD.ints).drop ((k + 1) * 2) := by
        rw [HRL.out, List.flatMap_append, flat_take TimerD.ints_len, flat_drop TimerD.ints_len]
      rw [hln]
      refine ⟨_, c2, rfl, ?_, hb3.trans (HU4.out.below hg2 (by omega))⟩
      rw [hfl]
      refine ⟨?_, Nat.le_trans (Nat.sub_le _ _) S2.out.cap, S2.out.big, fun _ => ⟨g2, z0, rfl, hg2, by omega, HI4.out.front⟩⟩
      rw [List.length_append, List.length_take, List.length_drop, hlz]
      omega
    · have hwo := without_none hk
      have hd : decide (0 ≤ idxD (fun t => t.id == q) l) = false := by simpa using hk
      rw [hd, hwo, HL.out]
      obtain ⟨iv, hiv⟩ : ∃ iv, idxD (fun t => t.id == q) l = iv := ⟨_, rfl⟩
      have hivn : iv < 0 := by omega
      have HP9 : Hid (∀ A n c lo hi W, Sl W lo hi 2 A n c (l.flatMap TimerD.ints) → Calls Try.prog 62 #[.slice A n c, .int .i64 q, .func (.func 63) #[] #[]] W fun x w' => x = .returned (.int .i64 iv) ∧ Below W.heap.size W w') := fun A n c lo hi W s => by
        have h7 := placeBy_any A n c lo hi l q W s
        rw [hiv] at h7
        exact h7
      clear hk hd hwo
      have CO : ∀ W, Sl W lo hi 2 A n c (l.flatMap TimerD.ints) → Calls Try.prog 33 #[.slice A n c] W fun x w' => x = .returned (.bool true) ∧ Below W.heap.size W w' := fun W s => by
        have h7 := timersOk_any A n c lo hi l W s
        rw [hok] at h7
        exact h7
      have HO := Lib.hid CO
      clear CO
      go_enter Try.func40, Try.ntmps40
      go_wp2_with fail
      (with_reducible refine (HO.out _ (h.below (B := w.heap.size) (by (repeat' (first | with_reducible exact Below.refl _ _ | with_reducible assumption | with_reducible refine Below.drew ?_ | with_reducible refine Below.alloc ?_ ?_ _ | with_reducible refine Below.setCell ?_ ?_ _ | with_reducible refine Below.trans ?_ (Below.mono (by assumption) ?_) | ((try simp only [World.heap_size_alloc, World.heap_size_drew, World.heap_size_setCell]); omega)))) hhi)).mono ?_); rintro _ w1 ⟨rfl, b1⟩
      have y1 := b1.size
      (try simp only [World.heap_size_alloc, World.heap_size_drew] at y1)
      have hw1 : Below w.heap.size w w1 := by (repeat' (first | with_reducible exact Below.refl _ _ | with_reducible assumption | with_reducible refine Below.drew ?_ | with_reducible refine Below.alloc ?_ ?_ _ | with_reducible refine Below.setCell ?_ ?_ _ | with_reducible refine Below.trans ?_ (Below.mono (by assumption) ?_) | ((try simp only [World.heap_size_alloc, World.heap_size_drew, World.heap_size_setCell]); omega)))
      have hs2 : Sl (w1.alloc (.cells #[] 60)) lo hi 2 A n c (l.flatMap TimerD.ints) := h.below (B := w.heap.size) (by (repeat' (first | with_reducible exact Below.refl _ _ | with_reducible assumption | with_reducible refine Below.drew ?_ | with_reducible refine Below.alloc ?_ ?_ _ | with_reducible refine Below.setCell ?_ ?_ _ | with_reducible refine Below.trans ?_ (Below.mono (by assumption) ?_) | ((try simp only [World.heap_size_alloc, World.heap_size_drew, World.heap_size_setCell]); omega)))) hhi
      have ho2 : Own (w1.alloc (.cells #[] 60)) w.heap.size 60 2 (.slice (some ⟨w1.heap.size, 0, none⟩) 0 0) 0 [] := Own.new w1 60 2 [] rfl (by omega) (by omega)
      have HS2 := Lib.hid hs2
      have HO2 := Lib.hid ho2
      clear hs2 ho2
      go_wp2_with (at_builtin; go_loud (refine wpList_append_sl _ rfl (.tmp 11) (.tmp 12) 40 rfl w.heap.size 60 Try.underlying40 infoTimer rfl (by omega) _ _ _ rfl HO2.out _ n c _ _ (l.flatMap TimerD.ints) rfl HS2.out (by omega) (by omega) (by (try simp only [World.heap_size_alloc, World.heap_size_drew, World.heap_size_setCell]); omega) ?_); intro v2 w2 o2 g2 a2)
      have hb2 : Below w.heap.size w w2 := (hw1.alloc (by (try simp only [World.heap_size_alloc, World.heap_size_drew, World.heap_size_setCell]); omega) _).trans (grown_below g2 (by (try simp only [World.heap_size_alloc, World.heap_size_drew, World.heap_size_setCell]); omega) (fun g hg => (Own.lt HO2.out g hg).1))
      have y2 := g2.size
      (try simp only [World.heap_size_alloc, World.heap_size_drew] at y2)
      obtain ⟨A2, c2, rfl, s2⟩ := o2.sl
      rw [Nat.zero_add, List.nil_append] at s2
      simp only [Nat.zero_add]
      have S2 := Lib.hid s2
      clear s2 o2 g2 a2
      go_wp2_with fail
      (with_reducible refine (HP9.out _ _ _ _ _ _ S2.out).mono ?_); rintro _ w3 ⟨rfl, b3⟩
      have y3 := b3.size
      have hb3 : Below w.heap.size w w3 := by (repeat' (first | with_reducible exact Below.refl _ _ | with_reducible assumption | with_reducible refine Below.drew ?_ | with_reducible refine Below.alloc ?_ ?_ _ | with_reducible refine Below.setCell ?_ ?_ _ | with_reducible refine Below.trans ?_ (Below.mono (by assumption) ?_) | ((try simp only [World.heap_size_alloc, World.heap_size_drew, World.heap_size_setCell]); omega)))
      go_wp2_with fail
      go_ret2
      exact ⟨_, c2, rfl, (S2.out.below b3 (Nat.le_refl _)).mono (Nat.le_refl _) (by omega), hb3⟩

end Go.Proofs.Ytkianeknbfahgaa
