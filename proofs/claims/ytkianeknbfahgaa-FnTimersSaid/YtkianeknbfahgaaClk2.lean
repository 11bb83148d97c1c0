/- Clocks that jump and tick: what the program's and the reference's functions return. No conditions. -/
import Derived.Test.YtkianeknbfahgaaClk
set_option linter.unusedSimpArgs false
set_option linter.unusedVariables false
namespace Go.Proofs.Ytkianeknbfahgaa
open Go.RowKit

/-- A fresh slice and a truth. -/
def SlBRes (w : World) (k n : Nat) (r : List Int × Bool) (e : Ending) (w' : World) : Prop :=
  ∃ A c, e = .returned (.tuple #[.slice A n c, .bool r.2]) ∧ Sl w' w.heap.size w'.heap.size k A n c r.1 ∧ Below w.heap.size w w'
theorem SlBRes.none {w w' : World} (hb : Below w.heap.size w w') (k : Nat) (A : Option Addr) (c : Nat) (hc : c ≤ 9223372036854775807) {b : Bool} : SlBRes w k 0 ([], b) (.returned (.tuple #[.slice A 0 c, .bool b])) w' :=
  ⟨A, c, rfl, Sl.nil _ _ _ _ _ _ hc, hb⟩
theorem SlBRes.of {w w' : World} {g off n c : Nat} {zs : List Int} {b : Bool} (hI : Ints w' g off zs) (hl : zs.length = n) (hn : 0 < zs.length) (hc : n ≤ c) (hc2 : c ≤ 9223372036854775807) (hg1 : w.heap.size ≤ g) (hg2 : g < w'.heap.size) (hb : Below w.heap.size w w') :
    SlBRes w 1 zs.length (zs, b) (.returned (.tuple #[.slice (some ⟨g, off, .none⟩) n c, .bool b])) w' := by
  subst hl
  exact ⟨_, c, rfl, ⟨by simp, hc, hc2, fun _ => ⟨g, off, rfl, hg1, hg2, hI⟩⟩, hb⟩
theorem clocksOk_six {zs : List Int} (h : clocksOk zs = true) : zs.length = 6 := by
  simp only [clocksOk, Bool.and_eq_true, decide_eq_true_eq] at h
  exact h.1
theorem timeOk_not {x : Int} (h : timeOk x = false) (h0 : 0 ≤ x) : 1000000 < x := by
  rcases Int.lt_or_le 1000000 x with h1 | h1
  · exact h1
  · have h2 : timeOk x = true := btw_iff.2 ⟨h0, h1⟩
    rw [h2] at h
    cases h
def jumped (zs : List Int) (node to : Int) : List Int × Bool :=
  if clocksOk zs then if btw node 0 5 && timeOk to then (zs.set node.toNat to, true) else (zs, false) else ([], false)

def ticked (zs : List Int) (node to : Int) : List Int × Bool :=
  if clocksOk zs then if btw node 0 5 && timeOk to && timeOk (zs.getD node.toNat 0 + to) then (zs.set node.toNat (zs.getD node.toNat 0 + to), true) else (zs, false) else ([], false)

set_option maxHeartbeats 800000 in
theorem sJumped_any (A : Option Addr) (n c lo hi : Nat) (zs : List Int) (node to : Int) (w : World) (h : Sl w lo hi 1 A n c zs) :
    Calls Try.prog 18 #[.slice A n c, .int .i64 node, .int .i64 to] w (SlBRes w 1 (jumped zs node to).1.length (jumped zs node to)) := by
  have hl : zs.length = n := by have := h.len; omega
  have hn9 : n ≤ 9223372036854775807 := Nat.le_trans h.cap h.big
  replace h := h.fit (by omega)
  have hhi : min hi w.heap.size ≤ w.heap.size := Nat.min_le_right _ _
  generalize min hi w.heap.size = hi at h hhi
  cases hok : clocksOk zs with
  | false =>
    have e : jumped zs node to = ([], false) := by simp [jumped, hok]
    rw [e]
    clear e
    have CO : ∀ W, Sl W lo hi 1 A n c zs → Calls Try.prog 45 #[.slice A n c] W fun x w' => x = .returned (.bool false) ∧ Below W.heap.size W w' := fun W s => by
      have h7 := sClocksOk_any A n c lo hi zs W s
      rw [hok] at h7
      exact h7
    have HO := Lib.hid CO
    clear CO
    go_enter Try.func18, Try.ntmps18
    go_wp2_with fail
    (with_reducible refine (HO.out _ (h.below (B := w.heap.size) (by (repeat' (first | with_reducible exact Below.refl _ _ | with_reducible assumption | with_reducible refine Below.drew ?_ | with_reducible refine Below.alloc ?_ ?_ _ | with_reducible refine Below.setCell ?_ ?_ _ | with_reducible refine Below.trans ?_ (Below.mono (by assumption) ?_) | ((try simp only [World.heap_size_alloc, World.heap_size_drew, World.heap_size_setCell]); omega)))) hhi)).mono ?_); rintro _ w1 ⟨rfl, b1⟩
    have y1 := b1.size
    (try simp only [World.heap_size_alloc, World.heap_size_drew] at y1)
    go_wp2_with fail
    go_ret2
    exact SlBRes.none (by (repeat' (first | with_reducible exact Below.refl _ _ | with_reducible assumption | with_reducible refine Below.drew ?_ | with_reducible refine Below.alloc ?_ ?_ _ | with_reducible refine Below.setCell ?_ ?_ _ | with_reducible refine Below.trans ?_ (Below.mono (by assumption) ?_) | ((try simp only [World.heap_size_alloc, World.heap_size_drew, World.heap_size_setCell]); omega)))) _ _ _ (by omega)
  | true =>
    have h6 : n = 6 := by rw [← hl]; exact clocksOk_six hok
    subst h6
    have CO : ∀ W, Sl W lo hi 1 A 6 c zs → Calls Try.prog 45 #[.slice A 6 c] W fun x w' => x = .returned (.bool true) ∧ Below W.heap.size W w' := fun W s => by
      have h7 := sClocksOk_any A 6 c lo hi zs W s
      rw [hok] at h7
      exact h7
    have HO := Lib.hid CO
    clear CO
    cases hnd : btw node 0 5 with
    | false =>
      have e : jumped zs node to = (zs, false) := by simp [jumped, hok, hnd]
      rw [e]
      clear e
      have CN : ∀ W, Calls Try.prog 50 #[.int .i64 node] W fun x w' => x = .returned (.bool false) ∧ Below W.heap.size W w' := fun W => (l5Node_any node W).mono fun x w' ⟨h1, h2⟩ => ⟨by rw [h1, ← hnd]; try rfl, by rw [← h2]; exact Below.refl _ _⟩
      have HN := Lib.hid CN
      clear CN
      go_enter Try.func18, Try.ntmps18
      go_wp2_with fail
      (with_reducible refine (HO.out _ (h.below (B := w.heap.size) (by (repeat' (first | with_reducible exact Below.refl _ _ | with_reducible assumption | with_reducible refine Below.drew ?_ | with_reducible refine Below.alloc ?_ ?_ _ | with_reducible refine Below.setCell ?_ ?_ _ | with_reducible refine Below.trans ?_ (Below.mono (by assumption) ?_) | ((try simp only [World.heap_size_alloc, World.heap_size_drew, World.heap_size_setCell]); omega)))) hhi)).mono ?_); rintro _ w1 ⟨rfl, b1⟩
      have y1 := b1.size
      (try simp only [World.heap_size_alloc, World.heap_size_drew] at y1)
      go_wp2_with fail
      (with_reducible refine (l5Row_any _ 6 c lo hi zs _ (h.below (B := w.heap.size) (by (repeat' (first | with_reducible exact Below.refl _ _ | with_reducible assumption | with_reducible refine Below.drew ?_ | with_reducible refine Below.alloc ?_ ?_ _ | with_reducible refine Below.setCell ?_ ?_ _ | with_reducible refine Below.trans ?_ (Below.mono (by assumption) ?_) | ((try simp only [World.heap_size_alloc, World.heap_size_drew, World.heap_size_setCell]); omega)))) hhi) (by omega) (by first | omega | ((try simp only [World.heap_size_alloc, World.heap_size_drew, World.heap_size_setCell]); omega))).mono ?_); rintro _ w2 ⟨A1, c1, rfl, s1, b2⟩
      have y2 := b2.size
      (try simp only [World.heap_size_alloc, World.heap_size_drew] at y2)
      have hb2 : Below w.heap.size w w2 := by (repeat' (first | with_reducible exact Below.refl _ _ | with_reducible assumption | with_reducible refine Below.drew ?_ | with_reducible refine Below.alloc ?_ ?_ _ | with_reducible refine Below.setCell ?_ ?_ _ | with_reducible refine Below.trans ?_ (Below.mono (by assumption) ?_) | ((try simp only [World.heap_size_alloc, World.heap_size_drew, World.heap_size_setCell]); omega)))
      obtain ⟨g, off, rfl, hg1, hg2, hI⟩ := s1.lie (by omega)
      have hgw : w.heap.size ≤ g := by omega
      have S1 := Lib.hid s1
      clear s1
      go_wp2_with fail
      (with_reducible refine (HN.out _).mono ?_); rintro _ w3 ⟨rfl, b3⟩
      have y3 := b3.size
      go_wp2_with fail
      go_ret2
      exact SlBRes.of (hI.below b3 hg2) hl (by omega) S1.out.cap S1.out.big hgw (by omega) (by (repeat' (first | with_reducible exact Below.refl _ _ | with_reducible assumption | with_reducible refine Below.drew ?_ | with_reducible refine Below.alloc ?_ ?_ _ | with_reducible refine Below.setCell ?_ ?_ _ | with_reducible refine Below.trans ?_ (Below.mono (by assumption) ?_) | ((try simp only [World.heap_size_alloc, World.heap_size_drew, World.heap_size_setCell]); omega))))
    | true =>
      obtain ⟨k0, k1⟩ := btw_iff.1 hnd
      obtain ⟨k, rfl⟩ := Int.eq_ofNat_of_zero_le k0
      have hk : k < 6 := by omega
      clear k0 k1
      have CN : ∀ W, Calls Try.prog 50 #[.int .i64 (k : Int)] W fun x w' => x = .returned (.bool true) ∧ Below W.heap.size W w' := fun W => (l5Node_any (k : Int) W).mono fun x w' ⟨h1, h2⟩ => ⟨by rw [h1, ← hnd]; try rfl, by rw [← h2]; exact Below.refl _ _⟩
      have HN := Lib.hid CN
      clear CN
      cases htm : timeOk to with
      | false =>
        have e : jumped zs (k : Int) to = (zs, false) := by simp [jumped, hok, hnd, htm]
        rw [e]
        clear e
        have CT : ∀ W, Calls Try.prog 51 #[.int .i64 to] W fun x w' => x = .returned (.bool false) ∧ Below W.heap.size W w' := fun W => (sTimeOk_any to W).mono fun x w' ⟨h1, h2⟩ => ⟨by rw [h1, ← htm]; try rfl, by rw [← h2]; exact Below.refl _ _⟩
        have HT := Lib.hid CT
        clear CT
        go_enter Try.func18, Try.ntmps18
        go_wp2_with fail
        (with_reducible refine (HO.out _ (h.below (B := w.heap.size) (by (repeat' (first | with_reducible exact Below.refl _ _ | with_reducible assumption | with_reducible refine Below.drew ?_ | with_reducible refine Below.alloc ?_ ?_ _ | with_reducible refine Below.setCell ?_ ?_ _ | with_reducible refine Below.trans ?_ (Below.mono (by assumption) ?_) | ((try simp only [World.heap_size_alloc, World.heap_size_drew, World.heap_size_setCell]); omega)))) hhi)).mono ?_); rintro _ w1 ⟨rfl, b1⟩
        have y1 := b1.size
        (try simp only [World.heap_size_alloc, World.heap_size_drew] at y1)
        go_wp2_with fail
        (with_reducible refine (l5Row_any _ 6 c lo hi zs _ (h.below (B := w.heap.size) (by (repeat' (first | with_reducible exact Below.refl _ _ | with_reducible assumption | with_reducible refine Below.drew ?_ | with_reducible refine Below.alloc ?_ ?_ _ | with_reducible refine Below.setCell ?_ ?_ _ | with_reducible refine Below.trans ?_ (Below.mono (by assumption) ?_) | ((try simp only [World.heap_size_alloc, World.heap_size_drew, World.heap_size_setCell]); omega)))) hhi) (by omega) (by first | omega | ((try simp only [World.heap_size_alloc, World.heap_size_drew, World.heap_size_setCell]); omega))).mono ?_); rintro _ w2 ⟨A1, c1, rfl, s1, b2⟩
        have y2 := b2.size
        (try simp only [World.heap_size_alloc, World.heap_size_drew] at y2)
        have hb2 : Below w.heap.size w w2 := by (repeat' (first | with_reducible exact Below.refl _ _ | with_reducible assumption | with_reducible refine Below.drew ?_ | with_reducible refine Below.alloc ?_ ?_ _ | with_reducible refine Below.setCell ?_ ?_ _ | with_reducible refine Below.trans ?_ (Below.mono (by assumption) ?_) | ((try simp only [World.heap_size_alloc, World.heap_size_drew, World.heap_size_setCell]); omega)))
        obtain ⟨g, off, rfl, hg1, hg2, hI⟩ := s1.lie (by omega)
        have hgw : w.heap.size ≤ g := by omega
        have S1 := Lib.hid s1
        clear s1
        go_wp2_with fail
        (with_reducible refine (HN.out _).mono ?_); rintro _ w3 ⟨rfl, b3⟩
        have y3 := b3.size
        go_wp2_with fail
        (with_reducible refine (HT.out _).mono ?_); rintro _ w4 ⟨rfl, b4⟩
        have y4 := b4.size
        go_wp2_with fail
        go_ret2
        exact SlBRes.of ((hI.below b3 hg2).below b4 (by omega)) hl (by omega) S1.out.cap S1.out.big hgw (by omega) (by (repeat' (first | with_reducible exact Below.refl _ _ | with_reducible assumption | with_reducible refine Below.drew ?_ | with_reducible refine Below.alloc ?_ ?_ _ | with_reducible refine Below.setCell ?_ ?_ _ | with_reducible refine Below.trans ?_ (Below.mono (by assumption) ?_) | ((try simp only [World.heap_size_alloc, World.heap_size_drew, World.heap_size_setCell]); omega))))
      | true =>
        have e : jumped zs (k : Int) to = (zs.set k to, true) := by simp [jumped, hok, hnd, htm]
        rw [e]
        clear e
        have CT : ∀ W, Calls Try.prog 51 #[.int .i64 to] W fun x w' => x = .returned (.bool true) ∧ Below W.heap.size W w' := fun W => (sTimeOk_any to W).mono fun x w' ⟨h1, h2⟩ => ⟨by rw [h1, ← htm]; try rfl, by rw [← h2]; exact Below.refl _ _⟩
        have HT := Lib.hid CT
        clear CT
        go_enter Try.func18, Try.ntmps18
        go_wp2_with fail
        (with_reducible refine (HO.out _ (h.below (B := w.heap.size) (by (repeat' (first | with_reducible exact Below.refl _ _ | with_reducible assumption | with_reducible refine Below.drew ?_ | with_reducible refine Below.alloc ?_ ?_ _ | with_reducible refine Below.setCell ?_ ?_ _ | with_reducible refine Below.trans ?_ (Below.mono (by assumption) ?_) | ((try simp only [World.heap_size_alloc, World.heap_size_drew, World.heap_size_setCell]); omega)))) hhi)).mono ?_); rintro _ w1 ⟨rfl, b1⟩
        have y1 := b1.size
        (try simp only [World.heap_size_alloc, World.heap_size_drew] at y1)
        go_wp2_with fail
        (with_reducible refine (l5Row_any _ 6 c lo hi zs _ (h.below (B := w.heap.size) (by (repeat' (first | with_reducible exact Below.refl _ _ | with_reducible assumption | with_reducible refine Below.drew ?_ | with_reducible refine Below.alloc ?_ ?_ _ | with_reducible refine Below.setCell ?_ ?_ _ | with_reducible refine Below.trans ?_ (Below.mono (by assumption) ?_) | ((try simp only [World.heap_size_alloc, World.heap_size_drew, World.heap_size_setCell]); omega)))) hhi) (by omega) (by first | omega | ((try simp only [World.heap_size_alloc, World.heap_size_drew, World.heap_size_setCell]); omega))).mono ?_); rintro _ w2 ⟨A1, c1, rfl, s1, b2⟩
        have y2 := b2.size
        (try simp only [World.heap_size_alloc, World.heap_size_drew] at y2)
        have hb2 : Below w.heap.size w w2 := by (repeat' (first | with_reducible exact Below.refl _ _ | with_reducible assumption | with_reducible refine Below.drew ?_ | with_reducible refine Below.alloc ?_ ?_ _ | with_reducible refine Below.setCell ?_ ?_ _ | with_reducible refine Below.trans ?_ (Below.mono (by assumption) ?_) | ((try simp only [World.heap_size_alloc, World.heap_size_drew, World.heap_size_setCell]); omega)))
        obtain ⟨g, off, rfl, hg1, hg2, hI⟩ := s1.lie (by omega)
        have hgw : w.heap.size ≤ g := by omega
        have S1 := Lib.hid s1
        clear s1
        go_wp2_with fail
        (with_reducible refine (HN.out _).mono ?_); rintro _ w3 ⟨rfl, b3⟩
        have y3 := b3.size
        go_wp2_with fail
        (with_reducible refine (HT.out _).mono ?_); rintro _ w4 ⟨rfl, b4⟩
        have y4 := b4.size
        have hI4 := (hI.below b3 hg2).below b4 (by omega)
        obtain ⟨o0, f0⟩ := hI4.getD (j := k) (by omega)
        go_wp2_with fail
        go_ret2
        exact SlBRes.of (hI4.set k to) (by rw [List.length_set]; exact hl) (by rw [List.length_set]; omega) S1.out.cap S1.out.big hgw (by (try simp only [World.heap_size_alloc, World.heap_size_drew, World.heap_size_setCell]); omega) (by (repeat' (first | with_reducible exact Below.refl _ _ | with_reducible assumption | with_reducible refine Below.drew ?_ | with_reducible refine Below.alloc ?_ ?_ _ | with_reducible refine Below.setCell ?_ ?_ _ | with_reducible refine Below.trans ?_ (Below.mono (by assumption) ?_) | ((try simp only [World.heap_size_alloc, World.heap_size_drew, World.heap_size_setCell]); omega))))
set_option maxHeartbeats 800000 in
theorem jumped_any (A : Option Addr) (n c lo hi : Nat) (zs : List Int) (node to : Int) (w : World) (h : Sl w lo hi 1 A n c zs) :
    Calls Try.prog 19 #[.slice A n c, .int .i64 node, .int .i64 to] w (SlBRes w 1 (jumped zs node to).1.length (jumped zs node to)) := by
  have hl : zs.length = n := by have := h.len; omega
  have hn9 : n ≤ 9223372036854775807 := Nat.le_trans h.cap h.big
  replace h := h.fit (by omega)
  have hhi : min hi w.heap.size ≤ w.heap.size := Nat.min_le_right _ _
  generalize min hi w.heap.size = hi at h hhi
  cases hok : clocksOk zs with
  | false =>
    have e : jumped zs node to = ([], false) := by simp [jumped, hok]
    rw [e]
    clear e
    have CO : ∀ W, Sl W lo hi 1 A n c zs → Calls Try.prog 47 #[.slice A n c] W fun x w' => x = .returned (.bool false) ∧ Below W.heap.size W w' := fun W s => by
      have h7 := clocksOk_any A n c lo hi zs W s
      rw [hok] at h7
      exact h7
    have HO := Lib.hid CO
    clear CO
    go_enter Try.func19, Try.ntmps19
    go_wp2_with fail
    (with_reducible refine (HO.out _ (h.below (B := w.heap.size) (by (repeat' (first | with_reducible exact Below.refl _ _ | with_reducible assumption | with_reducible refine Below.drew ?_ | with_reducible refine Below.alloc ?_ ?_ _ | with_reducible refine Below.setCell ?_ ?_ _ | with_reducible refine Below.trans ?_ (Below.mono (by assumption) ?_) | ((try simp only [World.heap_size_alloc, World.heap_size_drew, World.heap_size_setCell]); omega)))) hhi)).mono ?_); rintro _ w1 ⟨rfl, b1⟩
    have y1 := b1.size
    (try simp only [World.heap_size_alloc, World.heap_size_drew] at y1)
    go_wp2_with fail
    go_ret2
    exact SlBRes.none (by (repeat' (first | with_reducible exact Below.refl _ _ | with_reducible assumption | with_reducible refine Below.drew ?_ | with_reducible refine Below.alloc ?_ ?_ _ | with_reducible refine Below.setCell ?_ ?_ _ | with_reducible refine Below.trans ?_ (Below.mono (by assumption) ?_) | ((try simp only [World.heap_size_alloc, World.heap_size_drew, World.heap_size_setCell]); omega)))) _ _ _ (by omega)
  | true =>
    have h6 : n = 6 := by rw [← hl]; exact clocksOk_six hok
    subst h6
    have CO : ∀ W, Sl W lo hi 1 A 6 c zs → Calls Try.prog 47 #[.slice A 6 c] W fun x w' => x = .returned (.bool true) ∧ Below W.heap.size W w' := fun W s => by
      have h7 := clocksOk_any A 6 c lo hi zs W s
      rw [hok] at h7
      exact h7
    have HO := Lib.hid CO
    clear CO
    cases hnd : btw node 0 5 with
    | false =>
      have e : jumped zs node to = (zs, false) := by simp [jumped, hok, hnd]
      rw [e]
      clear e
      have CN : ∀ W, Calls Try.prog 53 #[.int .i64 node] W fun x w' => x = .returned (.bool false) ∧ Below W.heap.size W w' := fun W => (nodeOk_any node W).mono fun x w' ⟨h1, h2⟩ => ⟨by rw [h1, ← hnd]; try rfl, by rw [← h2]; exact Below.refl _ _⟩
      have HN := Lib.hid CN
      clear CN
      go_enter Try.func19, Try.ntmps19
      go_wp2_with fail
      (with_reducible refine (HO.out _ (h.below (B := w.heap.size) (by (repeat' (first | with_reducible exact Below.refl _ _ | with_reducible assumption | with_reducible refine Below.drew ?_ | with_reducible refine Below.alloc ?_ ?_ _ | with_reducible refine Below.setCell ?_ ?_ _ | with_reducible refine Below.trans ?_ (Below.mono (by assumption) ?_) | ((try simp only [World.heap_size_alloc, World.heap_size_drew, World.heap_size_setCell]); omega)))) hhi)).mono ?_); rintro _ w1 ⟨rfl, b1⟩
      have y1 := b1.size
      (try simp only [World.heap_size_alloc, World.heap_size_drew] at y1)
      go_wp2_with fail
      (with_reducible refine (copyRow_any _ 6 c lo hi zs _ (h.below (B := w.heap.size) (by (repeat' (first | with_reducible exact Below.refl _ _ | with_reducible assumption | with_reducible refine Below.drew ?_ | with_reducible refine Below.alloc ?_ ?_ _ | with_reducible refine Below.setCell ?_ ?_ _ | with_reducible refine Below.trans ?_ (Below.mono (by assumption) ?_) | ((try simp only [World.heap_size_alloc, World.heap_size_drew, World.heap_size_setCell]); omega)))) hhi) (by omega) (by first | omega | ((try simp only [World.heap_size_alloc, World.heap_size_drew, World.heap_size_setCell]); omega))).mono ?_); rintro _ w2 ⟨A1, c1, rfl, s1, b2⟩
      have y2 := b2.size
      (try simp only [World.heap_size_alloc, World.heap_size_drew] at y2)
      have hb2 : Below w.heap.size w w2 := by (repeat' (first | with_reducible exact Below.refl _ _ | with_reducible assumption | with_reducible refine Below.drew ?_ | with_reducible refine Below.alloc ?_ ?_ _ | with_reducible refine Below.setCell ?_ ?_ _ | with_reducible refine Below.trans ?_ (Below.mono (by assumption) ?_) | ((try simp only [World.heap_size_alloc, World.heap_size_drew, World.heap_size_setCell]); omega)))
      obtain ⟨g, off, rfl, hg1, hg2, hI⟩ := s1.lie (by omega)
      have hgw : w.heap.size ≤ g := by omega
      have S1 := Lib.hid s1
      clear s1
      go_wp2_with fail
      (with_reducible refine (HN.out _).mono ?_); rintro _ w3 ⟨rfl, b3⟩
      have y3 := b3.size
      go_wp2_with fail
      go_ret2
      exact SlBRes.of (hI.below b3 hg2) hl (by omega) S1.out.cap S1.out.big hgw (by omega) (by (repeat' (first | with_reducible exact Below.refl _ _ | with_reducible assumption | with_reducible refine Below.drew ?_ | with_reducible refine Below.alloc ?_ ?_ _ | with_reducible refine Below.setCell ?_ ?_ _ | with_reducible refine Below.trans ?_ (Below.mono (by assumption) ?_) | ((try simp only [World.heap_size_alloc, World.heap_size_drew, World.heap_size_setCell]); omega))))
    | true =>
      obtain ⟨k0, k1⟩ := btw_iff.1 hnd
      obtain ⟨k, rfl⟩ := Int.eq_ofNat_of_zero_le k0
      have hk : k < 6 := by omega
      clear k0 k1
      have CN : ∀ W, Calls Try.prog 53 #[.int .i64 (k : Int)] W fun x w' => x = .returned (.bool true) ∧ Below W.heap.size W w' := fun W => (nodeOk_any (k : Int) W).mono fun x w' ⟨h1, h2⟩ => ⟨by rw [h1, ← hnd]; try rfl, by rw [← h2]; exact Below.refl _ _⟩
      have HN := Lib.hid CN
      clear CN
      cases htm : timeOk to with
      | false =>
        have e : jumped zs (k : Int) to = (zs, false) := by simp [jumped, hok, hnd, htm]
        rw [e]
        clear e
        have CT : ∀ W, Calls Try.prog 54 #[.int .i64 to] W fun x w' => x = .returned (.bool false) ∧ Below W.heap.size W w' := fun W => (timeOk_any to W).mono fun x w' ⟨h1, h2⟩ => ⟨by rw [h1, ← htm]; try rfl, by rw [← h2]; exact Below.refl _ _⟩
        have HT := Lib.hid CT
        clear CT
        go_enter Try.func19, Try.ntmps19
        go_wp2_with fail
        (with_reducible refine (HO.out _ (h.below (B := w.heap.size) (by (repeat' (first | with_reducible exact Below.refl _ _ | with_reducible assumption | with_reducible refine Below.drew ?_ | with_reducible refine Below.alloc ?_ ?_ _ | with_reducible refine Below.setCell ?_ ?_ _ | with_reducible refine Below.trans ?_ (Below.mono (by assumption) ?_) | ((try simp only [World.heap_size_alloc, World.heap_size_drew, World.heap_size_setCell]); omega)))) hhi)).mono ?_); rintro _ w1 ⟨rfl, b1⟩
        have y1 := b1.size
        (try simp only [World.heap_size_alloc, World.heap_size_drew] at y1)
        go_wp2_with fail
        (with_reducible refine (copyRow_any _ 6 c lo hi zs _ (h.below (B := w.heap.size) (by (repeat' (first | with_reducible exact Below.refl _ _ | with_reducible assumption | with_reducible refine Below.drew ?_ | with_reducible refine Below.alloc ?_ ?_ _ | with_reducible refine Below.setCell ?_ ?_ _ | with_reducible refine Below.trans ?_ (Below.mono (by assumption) ?_) | ((try simp only [World.heap_size_alloc, World.heap_size_drew, World.heap_size_setCell]); omega)))) hhi) (by omega) (by first | omega | ((try simp only [World.heap_size_alloc, World.heap_size_drew, World.heap_size_setCell]); omega))).mono ?_); rintro _ w2 ⟨A1, c1, rfl, s1, b2⟩
        have y2 := b2.size
        (try simp only [World.heap_size_alloc, World.heap_size_drew] at y2)
        have hb2 : Below w.heap.size w w2 := by (repeat' (first | with_reducible exact Below.refl _ _ | with_reducible assumption | with_reducible refine Below.drew ?_ | with_reducible refine Below.alloc ?_ ?_ _ | with_reducible refine Below.setCell ?_ ?_ _ | with_reducible refine Below.trans ?_ (Below.mono (by assumption) ?_) | ((try simp only [World.heap_size_alloc, World.heap_size_drew, World.heap_size_setCell]); omega)))
        obtain ⟨g, off, rfl, hg1, hg2, hI⟩ := s1.lie (by omega)
        have hgw : w.heap.size ≤ g := by omega
        have S1 := Lib.hid s1
        clear s1
        go_wp2_with fail
        (with_reducible refine (HN.out _).mono ?_); rintro _ w3 ⟨rfl, b3⟩
        have y3 := b3.size
        go_wp2_with fail
        (with_reducible refine (HT.out _).mono ?_); rintro _ w4 ⟨rfl, b4⟩
        have y4 := b4.size
        go_wp2_with fail
        go_ret2
        exact SlBRes.of ((hI.below b3 hg2).below b4 (by omega)) hl (by omega) S1.out.cap S1.out.big hgw (by omega) (by (repeat' (first | with_reducible exact Below.refl _ _ | with_reducible assumption | with_reducible refine Below.drew ?_ | with_reducible refine Below.alloc ?_ ?_ _ | with_reducible refine Below.setCell ?_ ?_ _ | with_reducible refine Below.trans ?_ (Below.mono (by assumption) ?_) | ((try simp only [World.heap_size_alloc, World.heap_size_drew, World.heap_size_setCell]); omega))))
      | true =>
        have e : jumped zs (k : Int) to = (zs.set k to, true) := by simp [jumped, hok, hnd, htm]
        rw [e]
        clear e
        have CT : ∀ W, Calls Try.prog 54 #[.int .i64 to] W fun x w' => x = .returned (.bool true) ∧ Below W.heap.size W w' := fun W => (timeOk_any to W).mono fun x w' ⟨h1, h2⟩ => ⟨by rw [h1, ← htm]; try rfl, by rw [← h2]; exact Below.refl _ _⟩
        have HT := Lib.hid CT
        clear CT
        go_enter Try.func19, Try.ntmps19
        go_wp2_with fail
        (with_reducible refine (HO.out _ (h.below (B := w.heap.size) (by (repeat' (first | with_reducible exact Below.refl _ _ | with_reducible assumption | with_reducible refine Below.drew ?_ | with_reducible refine Below.alloc ?_ ?_ _ | with_reducible refine Below.setCell ?_ ?_ _ | with_reducible refine Below.trans ?_ (Below.mono (by assumption) ?_) | ((try simp only [World.heap_size_alloc, World.heap_size_drew, World.heap_size_setCell]); omega)))) hhi)).mono ?_); rintro _ w1 ⟨rfl, b1⟩
        have y1 := b1.size
        (try simp only [World.heap_size_alloc, World.heap_size_drew] at y1)
        go_wp2_with fail
        (with_reducible refine (copyRow_any _ 6 c lo hi zs _ (h.below (B := w.heap.size) (by (repeat' (first | with_reducible exact Below.refl _ _ | with_reducible assumption | with_reducible refine Below.drew ?_ | with_reducible refine Below.alloc ?_ ?_ _ | with_reducible refine Below.setCell ?_ ?_ _ | with_reducible refine Below.trans ?_ (Below.mono (by assumption) ?_) | ((try simp only [World.heap_size_alloc, World.heap_size_drew, World.heap_size_setCell]); omega)))) hhi) (by omega) (by first | omega | ((try simp only [World.heap_size_alloc, World.heap_size_drew, World.heap_size_setCell]); omega))).mono ?_); rintro _ w2 ⟨A1, c1, rfl, s1, b2⟩
        have y2 := b2.size
        (try simp only [World.heap_size_alloc, World.heap_size_drew] at y2)
        have hb2 : Below w.heap.size w w2 := by (repeat' (first | with_reducible exact Below.refl _ _ | with_reducible assumption | with_reducible refine Below.drew ?_ | with_reducible refine Below.alloc ?_ ?_ _ | with_reducible refine Below.setCell ?_ ?_ _ | with_reducible refine Below.trans ?_ (Below.mono (by assumption) ?_) | ((try simp only [World.heap_size_alloc, World.heap_size_drew, World.heap_size_setCell]); omega)))
        obtain ⟨g, off, rfl, hg1, hg2, hI⟩ := s1.lie (by omega)
        have hgw : w.heap.size ≤ g := by omega
        have S1 := Lib.hid s1
        clear s1
        go_wp2_with fail
        (with_reducible refine (HN.out _).mono ?_); rintro _ w3 ⟨rfl, b3⟩
        have y3 := b3.size
        go_wp2_with fail
        (with_reducible refine (HT.out _).mono ?_); rintro _ w4 ⟨rfl, b4⟩
        have y4 := b4.size
        have hI4 := (hI.below b3 hg2).below b4 (by omega)
        obtain ⟨o0, f0⟩ := hI4.getD (j := k) (by omega)
        go_wp2_with fail
        go_ret2
        exact SlBRes.of (hI4.set k to) (by rw [List.length_set]; exact hl) (by rw [List.length_set]; omega) S1.out.cap S1.out.big hgw (by (try simp only [World.heap_size_alloc, World.heap_size_drew, World.heap_size_setCell]); omega) (by (repeat' (first | with_reducible exact Below.refl _ _ | with_reducible assumption | with_reducible refine Below.drew ?_ | with_reducible refine Below.alloc ?_ ?_ _ | with_reducible refine Below.setCell ?_ ?_ _ | with_reducible refine Below.trans ?_ (Below.mono (by assumption) ?_) | ((try simp only [World.heap_size_alloc, World.heap_size_drew, World.heap_size_setCell]); omega))))
set_option maxHeartbeats 800000 in
theorem sTicked_any (A : Option Addr) (n c lo hi : Nat) (zs : List Int) (node to : Int) (w : World) (h : Sl w lo hi 1 A n c zs) :
    Calls Try.prog 22 #[.slice A n c, .int .i64 node, .int .i64 to] w (SlBRes w 1 (ticked zs node to).1.length (ticked zs node to)) := by
  have hl : zs.length = n := by have := h.len; omega
  have hn9 : n ≤ 9223372036854775807 := Nat.le_trans h.cap h.big
  replace h := h.fit (by omega)
  have hhi : min hi w.heap.size ≤ w.heap.size := Nat.min_le_right _ _
  generalize min hi w.heap.size = hi at h hhi
  cases hok : clocksOk zs with
  | false =>
    have e : ticked zs node to = ([], false) := by simp [ticked, hok]
    rw [e]
    clear e
    have CO : ∀ W, Sl W lo hi 1 A n c zs → Calls Try.prog 45 #[.slice A n c] W fun x w' => x = .returned (.bool false) ∧ Below W.heap.size W w' := fun W s => by
      have h7 := sClocksOk_any A n c lo hi zs W s
      rw [hok] at h7
      exact h7
    have HO := Lib.hid CO
    clear CO
    go_enter Try.func22, Try.ntmps22
    go_wp2_with fail
    (with_reducible refine (HO.out _ (h.below (B := w.heap.size) (by (repeat' (first | with_reducible exact Below.refl _ _ | with_reducible assumption | with_reducible refine Below.drew ?_ | with_reducible refine Below.alloc ?_ ?_ _ | with_reducible refine Below.setCell ?_ ?_ _ | with_reducible refine Below.trans ?_ (Below.mono (by assumption) ?_) | ((try simp only [World.heap_size_alloc, World.heap_size_drew, World.heap_size_setCell]); omega)))) hhi)).mono ?_); rintro _ w1 ⟨rfl, b1⟩
    have y1 := b1.size
    (try simp only [World.heap_size_alloc, World.heap_size_drew] at y1)
    go_wp2_with fail
    go_ret2
    exact SlBRes.none (by (repeat' (first | with_reducible exact Below.refl _ _ | with_reducible assumption | with_reducible refine Below.drew ?_ | with_reducible refine Below.alloc ?_ ?_ _ | with_reducible refine Below.setCell ?_ ?_ _ | with_reducible refine Below.trans ?_ (Below.mono (by assumption) ?_) | ((try simp only [World.heap_size_alloc, World.heap_size_drew, World.heap_size_setCell]); omega)))) _ _ _ (by omega)
  | true =>
    have h6 : n = 6 := by rw [← hl]; exact clocksOk_six hok
    subst h6
    have CO : ∀ W, Sl W lo hi 1 A 6 c zs → Calls Try.prog 45 #[.slice A 6 c] W fun x w' => x = .returned (.bool true) ∧ Below W.heap.size W w' := fun W s => by
      have h7 := sClocksOk_any A 6 c lo hi zs W s
      rw [hok] at h7
      exact h7
    have HO := Lib.hid CO
    clear CO
    cases hnd : btw node 0 5 with
    | false =>
      have e : ticked zs node to = (zs, false) := by simp [ticked, hok, hnd]
      rw [e]
      clear e
      have CN : ∀ W, Calls Try.prog 50 #[.int .i64 node] W fun x w' => x = .returned (.bool false) ∧ Below W.heap.size W w' := fun W => (l5Node_any node W).mono fun x w' ⟨h1, h2⟩ => ⟨by rw [h1, ← hnd]; try rfl, by rw [← h2]; exact Below.refl _ _⟩
      have HN := Lib.hid CN
      clear CN
      go_enter Try.func22, Try.ntmps22
      go_wp2_with fail
      (with_reducible refine (HO.out _ (h.below (B := w.heap.size) (by (repeat' (first | with_reducible exact Below.refl _ _ | with_reducible assumption | with_reducible refine Below.drew ?_ | with_reducible refine Below.alloc ?_ ?_ _ | with_reducible refine Below.setCell ?_ ?_ _ | with_reducible refine Below.trans ?_ (Below.mono (by assumption) ?_) | ((try simp only [World.heap_size_alloc, World.heap_size_drew, World.heap_size_setCell]); omega)))) hhi)).mono ?_); rintro _ w1 ⟨rfl, b1⟩
      have y1 := b1.size
      (try simp only [World.heap_size_alloc, World.heap_size_drew] at y1)
      go_wp2_with fail
      (with_reducible refine (l5Row_any _ 6 c lo hi zs _ (h.below (B := w.heap.size) (by (repeat' (first | with_reducible exact Below.refl _ _ | with_reducible assumption | with_reducible refine Below.drew ?_ | with_reducible refine Below.alloc ?_ ?_ _ | with_reducible refine Below.setCell ?_ ?_ _ | with_reducible refine Below.trans ?_ (Below.mono (by assumption) ?_) | ((try simp only [World.heap_size_alloc, World.heap_size_drew, World.heap_size_setCell]); omega)))) hhi) (by omega) (by first | omega | ((try simp only [World.heap_size_alloc, World.heap_size_drew, World.heap_size_setCell]); omega))).mono ?_); rintro _ w2 ⟨A1, c1, rfl, s1, b2⟩
      have y2 := b2.size
      (try simp only [World.heap_size_alloc, World.heap_size_drew] at y2)
      have hb2 : Below w.heap.size w w2 := by (repeat' (first | with_reducible exact Below.refl _ _ | with_reducible assumption | with_reducible refine Below.drew ?_ | with_reducible refine Below.alloc ?_ ?_ _ | with_reducible refine Below.setCell ?_ ?_ _ | with_reducible refine Below.trans ?_ (Below.mono (by assumption) ?_) | ((try simp only [World.heap_size_alloc, World.heap_size_drew, World.heap_size_setCell]); omega)))
      obtain ⟨g, off, rfl, hg1, hg2, hI⟩ := s1.lie (by omega)
      have hgw : w.heap.size ≤ g := by omega
      have S1 := Lib.hid s1
      clear s1
      go_wp2_with fail
      (with_reducible refine (HN.out _).mono ?_); rintro _ w3 ⟨rfl, b3⟩
      have y3 := b3.size
      go_wp2_with fail
      go_ret2
      exact SlBRes.of (hI.below b3 hg2) hl (by omega) S1.out.cap S1.out.big hgw (by omega) (by (repeat' (first | with_reducible exact Below.refl _ _ | with_reducible assumption | with_reducible refine Below.drew ?_ | with_reducible refine Below.alloc ?_ ?_ _ | with_reducible refine Below.setCell ?_ ?_ _ | with_reducible refine Below.trans ?_ (Below.mono (by assumption) ?_) | ((try simp only [World.heap_size_alloc, World.heap_size_drew, World.heap_size_setCell]); omega))))
    | true =>
      obtain ⟨k0, k1⟩ := btw_iff.1 hnd
      obtain ⟨k, rfl⟩ := Int.eq_ofNat_of_zero_le k0
      have hk : k < 6 := by omega
      clear k0 k1
      have CN : ∀ W, Calls Try.prog 50 #[.int .i64 (k : Int)] W fun x w' => x = .returned (.bool true) ∧ Below W.heap.size W w' := fun W => (l5Node_any (k : Int) W).mono fun x w' ⟨h1, h2⟩ => ⟨by rw [h1, ← hnd]; try rfl, by rw [← h2]; exact Below.refl _ _⟩
      have HN := Lib.hid CN
      clear CN
      cases htm : timeOk to with
      | false =>
        have e : ticked zs (k : Int) to = (zs, false) := by simp [ticked, hok, hnd, htm]
        rw [e]
        clear e
        have CT : ∀ W, Calls Try.prog 51 #[.int .i64 to] W fun x w' => x = .returned (.bool false) ∧ Below W.heap.size W w' := fun W => (sTimeOk_any to W).mono fun x w' ⟨h1, h2⟩ => ⟨by rw [h1, ← htm]; try rfl, by rw [← h2]; exact Below.refl _ _⟩
        have HT := Lib.hid CT
        clear CT
        go_enter Try.func22, Try.ntmps22
        go_wp2_with fail
        (with_reducible refine (HO.out _ (h.below (B := w.heap.size) (by (repeat' (first | with_reducible exact Below.refl _ _ | with_reducible assumption | with_reducible refine Below.drew ?_ | with_reducible refine Below.alloc ?_ ?_ _ | with_reducible refine Below.setCell ?_ ?_ _ | with_reducible refine Below.trans ?_ (Below.mono (by assumption) ?_) | ((try simp only [World.heap_size_alloc, World.heap_size_drew, World.heap_size_setCell]); omega)))) hhi)).mono ?_); rintro _ w1 ⟨rfl, b1⟩
        have y1 := b1.size
        (try simp only [World.heap_size_alloc, World.heap_size_drew] at y1)
        go_wp2_with fail
        (with_reducible refine (l5Row_any _ 6 c lo hi zs _ (h.below (B := w.heap.size) (by (repeat' (first | with_reducible exact Below.refl _ _ | with_reducible assumption | with_reducible refine Below.drew ?_ | with_reducible refine Below.alloc ?_ ?_ _ | with_reducible refine Below.setCell ?_ ?_ _ | with_reducible refine Below.trans ?_ (Below.mono (by assumption) ?_) | ((try simp only [World.heap_size_alloc, World.heap_size_drew, World.heap_size_setCell]); omega)))) hhi) (by omega) (by first | omega | ((try simp only [World.heap_size_alloc, World.heap_size_drew, World.heap_size_setCell]); omega))).mono ?_); rintro _ w2 ⟨A1, c1, rfl, s1, b2⟩
        have y2 := b2.size
        (try simp only [World.heap_size_alloc, World.heap_size_drew] at y2)
        have hb2 : Below w.heap.size w w2 := by (repeat' (first | with_reducible exact Below.refl _ _ | with_reducible assumption | with_reducible refine Below.drew ?_ | with_reducible refine Below.alloc ?_ ?_ _ | with_reducible refine Below.setCell ?_ ?_ _ | with_reducible refine Below.trans ?_ (Below.mono (by assumption) ?_) | ((try simp only [World.heap_size_alloc, World.heap_size_drew, World.heap_size_setCell]); omega)))
        obtain ⟨g, off, rfl, hg1, hg2, hI⟩ := s1.lie (by omega)
        have hgw : w.heap.size ≤ g := by omega
        have S1 := Lib.hid s1
        clear s1
        go_wp2_with fail
        (with_reducible refine (HN.out _).mono ?_); rintro _ w3 ⟨rfl, b3⟩
        have y3 := b3.size
        go_wp2_with fail
        (with_reducible refine (HT.out _).mono ?_); rintro _ w4 ⟨rfl, b4⟩
        have y4 := b4.size
        go_wp2_with fail
        go_ret2
        exact SlBRes.of ((hI.below b3 hg2).below b4 (by omega)) hl (by omega) S1.out.cap S1.out.big hgw (by omega) (by (repeat' (first | with_reducible exact Below.refl _ _ | with_reducible assumption | with_reducible refine Below.drew ?_ | with_reducible refine Below.alloc ?_ ?_ _ | with_reducible refine Below.setCell ?_ ?_ _ | with_reducible refine Below.trans ?_ (Below.mono (by assumption) ?_) | ((try simp only [World.heap_size_alloc, World.heap_size_drew, World.heap_size_setCell]); omega))))
      | true =>
        obtain ⟨x, hx⟩ : ∃ x, zs[k]? = some x := ⟨zs[k]'(by omega), List.getElem?_eq_getElem _⟩
        obtain ⟨x0, x1⟩ := clocksOk_at hok hx
        obtain ⟨t0, t1⟩ := btw_iff.1 htm
        have hgd := getD_of hx
        obtain ⟨gi, oi, xi, rfl, _, hgi, hxi, ci⟩ := h.int hk
        obtain rfl : x = xi := by rw [hx] at hxi; injection hxi
        clear hxi
        have CT : ∀ W, Calls Try.prog 51 #[.int .i64 to] W fun x w' => x = .returned (.bool true) ∧ Below W.heap.size W w' := fun W => (sTimeOk_any to W).mono fun x w' ⟨h1, h2⟩ => ⟨by rw [h1, ← htm]; try rfl, by rw [← h2]; exact Below.refl _ _⟩
        have HT := Lib.hid CT
        clear CT
        cases ht2 : timeOk (x + to) with
        | false =>
          have e : ticked zs (k : Int) to = (zs, false) := by simp [ticked, hok, hnd, htm, hx, ht2]
          rw [e]
          clear e
          have hlim : 1000000 < x + to := timeOk_not ht2 (by omega)
          go_enter Try.func22, Try.ntmps22
          go_wp2_with fail
          (with_reducible refine (HO.out _ (h.below (B := w.heap.size) (by (repeat' (first | with_reducible exact Below.refl _ _ | with_reducible assumption | with_reducible refine Below.drew ?_ | with_reducible refine Below.alloc ?_ ?_ _ | with_reducible refine Below.setCell ?_ ?_ _ | with_reducible refine Below.trans ?_ (Below.mono (by assumption) ?_) | ((try simp only [World.heap_size_alloc, World.heap_size_drew, World.heap_size_setCell]); omega)))) hhi)).mono ?_); rintro _ w1 ⟨rfl, b1⟩
          have y1 := b1.size
          (try simp only [World.heap_size_alloc, World.heap_size_drew] at y1)
          go_wp2_with fail
          (with_reducible refine (l5Row_any _ 6 c lo hi zs _ (h.below (B := w.heap.size) (by (repeat' (first | with_reducible exact Below.refl _ _ | with_reducible assumption | with_reducible refine Below.drew ?_ | with_reducible refine Below.alloc ?_ ?_ _ | with_reducible refine Below.setCell ?_ ?_ _ | with_reducible refine Below.trans ?_ (Below.mono (by assumption) ?_) | ((try simp only [World.heap_size_alloc, World.heap_size_drew, World.heap_size_setCell]); omega)))) hhi) (by omega) (by first | omega | ((try simp only [World.heap_size_alloc, World.heap_size_drew, World.heap_size_setCell]); omega))).mono ?_); rintro _ w2 ⟨A1, c1, rfl, s1, b2⟩
          have y2 := b2.size
          (try simp only [World.heap_size_alloc, World.heap_size_drew] at y2)
          have hb2 : Below w.heap.size w w2 := by (repeat' (first | with_reducible exact Below.refl _ _ | with_reducible assumption | with_reducible refine Below.drew ?_ | with_reducible refine Below.alloc ?_ ?_ _ | with_reducible refine Below.setCell ?_ ?_ _ | with_reducible refine Below.trans ?_ (Below.mono (by assumption) ?_) | ((try simp only [World.heap_size_alloc, World.heap_size_drew, World.heap_size_setCell]); omega)))
          obtain ⟨g, off, rfl, hg1, hg2, hI⟩ := s1.lie (by omega)
          have hgw : w.heap.size ≤ g := by omega
          have S1 := Lib.hid s1
          clear s1
          go_wp2_with fail
          (with_reducible refine (HN.out _).mono ?_); rintro _ w3 ⟨rfl, b3⟩
          have y3 := b3.size
          go_wp2_with fail
          (with_reducible refine (HT.out _).mono ?_); rintro _ w4 ⟨rfl, b4⟩
          have y4 := b4.size
          have hb4 : Below w.heap.size w w4 := by (repeat' (first | with_reducible exact Below.refl _ _ | with_reducible assumption | with_reducible refine Below.drew ?_ | with_reducible refine Below.alloc ?_ ?_ _ | with_reducible refine Below.setCell ?_ ?_ _ | with_reducible refine Below.trans ?_ (Below.mono (by assumption) ?_) | ((try simp only [World.heap_size_alloc, World.heap_size_drew, World.heap_size_setCell]); omega)))
          have hI4 := (hI.below b3 hg2).below b4 (by omega)
          obtain ⟨o0, f0⟩ := hI4 k x hx
          have r0 := (hb4.cell (p := ⟨gi, oi + k, none⟩) (show gi < w.heap.size by omega)).trans ci
          go_wp2_with fail
          go_ret2
          exact SlBRes.of hI4 hl (by omega) S1.out.cap S1.out.big hgw (by omega) (by (repeat' (first | with_reducible exact Below.refl _ _ | with_reducible assumption | with_reducible refine Below.drew ?_ | with_reducible refine Below.alloc ?_ ?_ _ | with_reducible refine Below.setCell ?_ ?_ _ | with_reducible refine Below.trans ?_ (Below.mono (by assumption) ?_) | ((try simp only [World.heap_size_alloc, World.heap_size_drew, World.heap_size_setCell]); omega))))
        | true =>
          have e : ticked zs (k : Int) to = (zs.set k (x + to), true) := by simp [ticked, hok, hnd, htm, hx, ht2]
          rw [e]
          clear e
          have hlim : x + to ≤ 1000000 := (btw_iff.1 ht2).2
          go_enter Try.func22, Try.ntmps22
          go_wp2_with fail
          (with_reducible refine (HO.out _ (h.below (B := w.heap.size) (by (repeat' (first | with_reducible exact Below.refl _ _ | with_reducible assumption | with_reducible refine Below.drew ?_ | with_reducible refine Below.alloc ?_ ?_ _ | with_reducible refine Below.setCell ?_ ?_ _ | with_reducible refine Below.trans ?_ (Below.mono (by assumption) ?_) | ((try simp only [World.heap_size_alloc, World.heap_size_drew, World.heap_size_setCell]); omega)))) hhi)).mono ?_); rintro _ w1 ⟨rfl, b1⟩
          have y1 := b1.size
          (try simp only [World.heap_size_alloc, World.heap_size_drew] at y1)
          go_wp2_with fail
          (with_reducible refine (l5Row_any _ 6 c lo hi zs _ (h.below (B := w.heap.size) (by (repeat' (first | with_reducible exact Below.refl _ _ | with_reducible assumption | with_reducible refine Below.drew ?_ | with_reducible refine Below.alloc ?_ ?_ _ | with_reducible refine Below.setCell ?_ ?_ _ | with_reducible refine Below.trans ?_ (Below.mono (by assumption) ?_) | ((try simp only [World.heap_size_alloc, World.heap_size_drew, World.heap_size_setCell]); omega)))) hhi) (by omega) (by first | omega | ((try simp only [World.heap_size_alloc, World.heap_size_drew, World.heap_size_setCell]); omega))).mono ?_); rintro _ w2 ⟨A1, c1, rfl, s1, b2⟩
          have y2 := b2.size
          (try simp only [World.heap_size_alloc, World.heap_size_drew] at y2)
          have hb2 : Below w.heap.size w w2 := by (repeat' (first | with_reducible exact Below.refl _ _ | with_reducible assumption | with_reducible refine Below.drew ?_ | with_reducible refine Below.alloc ?_ ?_ _ | with_reducible refine Below.setCell ?_ ?_ _ | with_reducible refine Below.trans ?_ (Below.mono (by assumption) ?_) | ((try simp only [World.heap_size_alloc, World.heap_size_drew, World.heap_size_setCell]); omega)))
          obtain ⟨g, off, rfl, hg1, hg2, hI⟩ := s1.lie (by omega)
          have hgw : w.heap.size ≤ g := by omega
          have S1 := Lib.hid s1
          clear s1
          go_wp2_with fail
          (with_reducible refine (HN.out _).mono ?_); rintro _ w3 ⟨rfl, b3⟩
          have y3 := b3.size
          go_wp2_with fail
          (with_reducible refine (HT.out _).mono ?_); rintro _ w4 ⟨rfl, b4⟩
          have y4 := b4.size
          have hb4 : Below w.heap.size w w4 := by (repeat' (first | with_reducible exact Below.refl _ _ | with_reducible assumption | with_reducible refine Below.drew ?_ | with_reducible refine Below.alloc ?_ ?_ _ | with_reducible refine Below.setCell ?_ ?_ _ | with_reducible refine Below.trans ?_ (Below.mono (by assumption) ?_) | ((try simp only [World.heap_size_alloc, World.heap_size_drew, World.heap_size_setCell]); omega)))
          have hI4 := (hI.below b3 hg2).below b4 (by omega)
          obtain ⟨o0, f0⟩ := hI4 k x hx
          have r0 := (hb4.cell (p := ⟨gi, oi + k, none⟩) (show gi < w.heap.size by omega)).trans ci
          go_wp2_with fail
          go_ret2
          exact SlBRes.of (hI4.set k (x + to)) (by rw [List.length_set]; exact hl) (by rw [List.length_set]; omega) S1.out.cap S1.out.big hgw (by (try simp only [World.heap_size_alloc, World.heap_size_drew, World.heap_size_setCell]); omega) (by (repeat' (first | with_reducible exact Below.refl _ _ | with_reducible assumption | with_reducible refine Below.drew ?_ | with_reducible refine Below.alloc ?_ ?_ _ | with_reducible refine Below.setCell ?_ ?_ _ | with_reducible refine Below.trans ?_ (Below.mono (by assumption) ?_) | ((try simp only [World.heap_size_alloc, World.heap_size_drew, World.heap_size_setCell]); omega))))
set_option maxHeartbeats 800000 in
theorem ticked_any (A : Option Addr) (n c lo hi : Nat) (zs : List Int) (node to : Int) (w : World) (h : Sl w lo hi 1 A n c zs) :
    Calls Try.prog 23 #[.slice A n c, .int .i64 node, .int .i64 to] w (SlBRes w 1 (ticked zs node to).1.length (ticked zs node to)) := by
  have hl : zs.length = n := by have := h.len; omega
  have hn9 : n ≤ 9223372036854775807 := Nat.le_trans h.cap h.big
  replace h := h.fit (by omega)
  have hhi : min hi w.heap.size ≤ w.heap.size := Nat.min_le_right _ _
  generalize min hi w.heap.size = hi at h hhi
  cases hok : clocksOk zs with
  | false =>
    have e : ticked zs node to = ([], false) := by simp [ticked, hok]
    rw [e]
    clear e
    have CO : ∀ W, Sl W lo hi 1 A n c zs → Calls Try.prog 47 #[.slice A n c] W fun x w' => x = .returned (.bool false) ∧ Below W.heap.size W w' := fun W s => by
      have h7 := clocksOk_any A n c lo hi zs W s
      rw [hok] at h7
      exact h7
    have HO := Lib.hid CO
    clear CO
    go_enter Try.func23, Try.ntmps23
    go_wp2_with fail
    (with_reducible refine (HO.out _ (h.below (B := w.heap.size) (by (repeat' (first | with_reducible exact Below.refl _ _ | with_reducible assumption | with_reducible refine Below.drew ?_ | with_reducible refine Below.alloc ?_ ?_ _ | with_reducible refine Below.setCell ?_ ?_ _ | with_reducible refine Below.trans ?_ (Below.mono (by assumption) ?_) | ((try simp only [World.heap_size_alloc, World.heap_size_drew, World.heap_size_setCell]); omega)))) hhi)).mono ?_); rintro _ w1 ⟨rfl, b1⟩
    have y1 := b1.size
    (try simp only [World.heap_size_alloc, World.heap_size_drew] at y1)
    go_wp2_with fail
    go_ret2
    exact SlBRes.none (by (repeat' (first | with_reducible exact Below.refl _ _ | with_reducible assumption | with_reducible refine Below.drew ?_ | with_reducible refine Below.alloc ?_ ?_ _ | with_reducible refine Below.setCell ?_ ?_ _ | with_reducible refine Below.trans ?_ (Below.mono (by assumption) ?_) | ((try simp only [World.heap_size_alloc, World.heap_size_drew, World.heap_size_setCell]); omega)))) _ _ _ (by omega)
  | true =>
    have h6 : n = 6 := by rw [← hl]; exact clocksOk_six hok
    subst h6
    have CO : ∀ W, Sl W lo hi 1 A 6 c zs → Calls Try.prog 47 #[.slice A 6 c] W fun x w' => x = .returned (.bool true) ∧ Below W.heap.size W w' := fun W s => by
      have h7 := clocksOk_any A 6 c lo hi zs W s
      rw [hok] at h7
      exact h7
    have HO := Lib.hid CO
    clear CO
    cases hnd : btw node 0 5 with
    | false =>
      have e : ticked zs node to = (zs, false) := by simp [ticked, hok, hnd]
      rw [e]
      clear e
      have CN : ∀ W, Calls Try.prog 53 #[.int .i64 node] W fun x w' => x = .returned (.bool false) ∧ Below W.heap.size W w' := fun W => (nodeOk_any node W).mono fun x w' ⟨h1, h2⟩ => ⟨by rw [h1, ← hnd]; try rfl, by rw [← h2]; exact Below.refl _ _⟩
      have HN := Lib.hid CN
      clear CN
      go_enter Try.func23, Try.ntmps23
      go_wp2_with fail
      (with_reducible refine (HO.out _ (h.below (B := w.heap.size) (by (repeat' (first | with_reducible exact Below.refl _ _ | with_reducible assumption | with_reducible refine Below.drew ?_ | with_reducible refine Below.alloc ?_ ?_ _ | with_reducible refine Below.setCell ?_ ?_ _ | with_reducible refine Below.trans ?_ (Below.mono (by assumption) ?_) | ((try simp only [World.heap_size_alloc, World.heap_size_drew, World.heap_size_setCell]); omega)))) hhi)).mono ?_); rintro _ w1 ⟨rfl, b1⟩
      have y1 := b1.size
      (try simp only [World.heap_size_alloc, World.heap_size_drew] at y1)
      go_wp2_with fail
      (with_reducible refine (copyRow_any _ 6 c lo hi zs _ (h.below (B := w.heap.size) (by (repeat' (first | with_reducible exact Below.refl _ _ | with_reducible assumption | with_reducible refine Below.drew ?_ | with_reducible refine Below.alloc ?_ ?_ _ | with_reducible refine Below.setCell ?_ ?_ _ | with_reducible refine Below.trans ?_ (Below.mono (by assumption) ?_) | ((try simp only [World.heap_size_alloc, World.heap_size_drew, World.heap_size_setCell]); omega)))) hhi) (by omega) (by first | omega | ((try simp only [World.heap_size_alloc, World.heap_size_drew, World.heap_size_setCell]); omega))).mono ?_); rintro _ w2 ⟨A1, c1, rfl, s1, b2⟩
      have y2 := b2.size
      (try simp only [World.heap_size_alloc, World.heap_size_drew] at y2)
      have hb2 : Below w.heap.size w w2 := by (repeat' (first | with_reducible exact Below.refl _ _ | with_reducible assumption | with_reducible refine Below.drew ?_ | with_reducible refine Below.alloc ?_ ?_ _ | with_reducible refine Below.setCell ?_ ?_ _ | with_reducible refine Below.trans ?_ (Below.mono (by assumption) ?_) | ((try simp only [World.heap_size_alloc, World.heap_size_drew, World.heap_size_setCell]); omega)))
      obtain ⟨g, off, rfl, hg1, hg2, hI⟩ := s1.lie (by omega)
      have hgw : w.heap.size ≤ g := by omega
      have S1 := Lib.hid s1
      clear s1
      go_wp2_with fail
      (with_reducible refine (HN.out _).mono ?_); rintro _ w3 ⟨rfl, b3⟩
      have y3 := b3.size
      go_wp2_with fail
      go_ret2
      exact SlBRes.of (hI.below b3 hg2) hl (by omega) S1.out.cap S1.out.big hgw (by omega) (by (repeat' (first | with_reducible exact Below.refl _ _ | with_reducible assumption | with_reducible refine Below.drew ?_ | with_reducible refine Below.alloc ?_ ?_ _ | with_reducible refine Below.setCell ?_ ?_ _ | with_reducible refine Below.trans ?_ (Below.mono (by assumption) ?_) | ((try simp only [World.heap_size_alloc, World.heap_size_drew, World.heap_size_setCell]); omega))))
    | true =>
      obtain ⟨k0, k1⟩ := btw_iff.1 hnd
      obtain ⟨k, rfl⟩ := Int.eq_ofNat_of_zero_le k0
      have hk : k < 6 := by omega
      clear k0 k1
      have CN : ∀ W, Calls Try.prog 53 #[.int .i64 (k : Int)] W fun x w' => x = .returned (.bool true) ∧ Below W.heap.size W w' := fun W => (nodeOk_any (k : Int) W).mono fun x w' ⟨h1, h2⟩ => ⟨by rw [h1, ← hnd]; try rfl, by rw [← h2]; exact Below.refl _ _⟩
      have HN := Lib.hid CN
      clear CN
      cases htm : timeOk to with
      | false =>
        have e : ticked zs (k : Int) to = (zs, false) := by simp [ticked, hok, hnd, htm]
        rw [e]
        clear e
        have CT : ∀ W, Calls Try.prog 54 #[.int .i64 to] W fun x w' => x = .returned (.bool false) ∧ Below W.heap.size W w' := fun W => (timeOk_any to W).mono fun x w' ⟨h1, h2⟩ => ⟨by rw [h1, ← htm]; try rfl, by rw [← h2]; exact Below.refl _ _⟩
        have HT := Lib.hid CT
        clear CT
        go_enter Try.func23, Try.ntmps23
        go_wp2_with fail
        (with_reducible refine (HO.out _ (h.below (B := w.heap.size) (by (repeat' (first | with_reducible exact Below.refl _ _ | with_reducible assumption | with_reducible refine Below.drew ?_ | with_reducible refine Below.alloc ?_ ?_ _ | with_reducible refine Below.setCell ?_ ?_ _ | with_reducible refine Below.trans ?_ (Below.mono (by assumption) ?_) | ((try simp only [World.heap_size_alloc, World.heap_size_drew, World.heap_size_setCell]); omega)))) hhi)).mono ?_); rintro _ w1 ⟨rfl, b1⟩
        have y1 := b1.size
        (try simp only [World.heap_size_alloc, World.heap_size_drew] at y1)
        go_wp2_with fail
        (with_reducible refine (copyRow_any _ 6 c lo hi zs _ (h.below (B := w.heap.size) (by (repeat' (first | with_reducible exact Below.refl _ _ | with_reducible assumption | with_reducible refine Below.drew ?_ | with_reducible refine Below.alloc ?_ ?_ _ | with_reducible refine Below.setCell ?_ ?_ _ | with_reducible refine Below.trans ?_ (Below.mono (by assumption) ?_) | ((try simp only [World.heap_size_alloc, World.heap_size_drew, World.heap_size_setCell]); omega)))) hhi) (by omega) (by first | omega | ((try simp only [World.heap_size_alloc, World.heap_size_drew, World.heap_size_setCell]); omega))).mono ?_); rintro _ w2 ⟨A1, c1, rfl, s1, b2⟩
        have y2 := b2.size
        (try simp only [World.heap_size_alloc, World.heap_size_drew] at y2)
        have hb2 : Below w.heap.size w w2 := by (repeat' (first | with_reducible exact Below.refl _ _ | with_reducible assumption | with_reducible refine Below.drew ?_ | with_reducible refine Below.alloc ?_ ?_ _ | with_reducible refine Below.setCell ?_ ?_ _ | with_reducible refine Below.trans ?_ (Below.mono (by assumption) ?_) | ((try simp only [World.heap_size_alloc, World.heap_size_drew, World.heap_size_setCell]); omega)))
        obtain ⟨g, off, rfl, hg1, hg2, hI⟩ := s1.lie (by omega)
        have hgw : w.heap.size ≤ g := by omega
        have S1 := Lib.hid s1
        clear s1
        go_wp2_with fail
        (with_reducible refine (HN.out _).mono ?_); rintro _ w3 ⟨rfl, b3⟩
        have y3 := b3.size
        go_wp2_with fail
        (with_reducible refine (HT.out _).mono ?_); rintro _ w4 ⟨rfl, b4⟩
        have y4 := b4.size
        go_wp2_with fail
        go_ret2
        exact SlBRes.of ((hI.below b3 hg2).below b4 (by omega)) hl (by omega) S1.out.cap S1.out.big hgw (by omega) (by (repeat' (first | with_reducible exact Below.refl _ _ | with_reducible assumption | with_reducible refine Below.drew ?_ | with_reducible refine Below.alloc ?_ ?_ _ | with_reducible refine Below.setCell ?_ ?_ _ | with_reducible refine Below.trans ?_ (Below.mono (by assumption) ?_) | ((try simp only [World.heap_size_alloc, World.heap_size_drew, World.heap_size_setCell]); omega))))
      | true =>
        obtain ⟨x, hx⟩ : ∃ x, zs[k]? = some x := ⟨zs[k]'(by omega), List.getElem?_eq_getElem _⟩
        obtain ⟨x0, x1⟩ := clocksOk_at hok hx
        obtain ⟨t0, t1⟩ := btw_iff.1 htm
        have hgd := getD_of hx
        obtain ⟨gi, oi, xi, rfl, _, hgi, hxi, ci⟩ := h.int hk
        obtain rfl : x = xi := by rw [hx] at hxi; injection hxi
        clear hxi
        have CT : ∀ W, Calls Try.prog 54 #[.int .i64 to] W fun x w' => x = .returned (.bool true) ∧ Below W.heap.size W w' := fun W => (timeOk_any to W).mono fun x w' ⟨h1, h2⟩ => ⟨by rw [h1, ← htm]; try rfl, by rw [← h2]; exact Below.refl _ _⟩
        have HT := Lib.hid CT
        clear CT
        cases ht2 : timeOk (x + to) with
        | false =>
          have e : ticked zs (k : Int) to = (zs, false) := by simp [ticked, hok, hnd, htm, hx, ht2]
          rw [e]
          clear e
          have CU : ∀ W, Calls Try.prog 54 #[.int .i64 (x + to)] W fun x w' => x = .returned (.bool false) ∧ Below W.heap.size W w' := fun W => (timeOk_any (x + to) W).mono fun x w' ⟨h1, h2⟩ => ⟨by rw [h1, ← ht2]; try rfl, by rw [← h2]; exact Below.refl _ _⟩
          have HU := Lib.hid CU
          clear CU
          have hlim : 1000000 < x + to := timeOk_not ht2 (by omega)
          go_enter Try.func23, Try.ntmps23
          go_wp2_with fail
          (with_reducible refine (HO.out _ (h.below (B := w.heap.size) (by (repeat' (first | with_reducible exact Below.refl _ _ | with_reducible assumption | with_reducible refine Below.drew ?_ | with_reducible refine Below.alloc ?_ ?_ _ | with_reducible refine Below.setCell ?_ ?_ _ | with_reducible refine Below.trans ?_ (Below.mono (by assumption) ?_) | ((try simp only [World.heap_size_alloc, World.heap_size_drew, World.heap_size_setCell]); omega)))) hhi)).mono ?_); rintro _ w1 ⟨rfl, b1⟩
          have y1 := b1.size
          (try simp only [World.heap_size_alloc, World.heap_size_drew] at y1)
          go_wp2_with fail
          (with_reducible refine (copyRow_any _ 6 c lo hi zs _ (h.below (B := w.heap.size) (by (repeat' (first | with_reducible exact Below.refl _ _ | with_reducible assumption | with_reducible refine Below.drew ?_ | with_reducible refine Below.alloc ?_ ?_ _ | with_reducible refine Below.setCell ?_ ?_ _ | with_reducible refine Below.trans ?_ (Below.mono (by assumption) ?_) | ((try simp only [World.heap_size_alloc, World.heap_size_drew, World.heap_size_setCell]); omega)))) hhi) (by omega) (by first | omega | ((try simp only [World.heap_size_alloc, World.heap_size_drew, World.heap_size_setCell]); omega))).mono ?_); rintro _ w2 ⟨A1, c1, rfl, s1, b2⟩
          have y2 := b2.size
          (try simp only [World.heap_size_alloc, World.heap_size_drew] at y2)
          have hb2 : Below w.heap.size w w2 := by (repeat' (first | with_reducible exact Below.refl _ _ | with_reducible assumption | with_reducible refine Below.drew ?_ | with_reducible refine Below.alloc ?_ ?_ _ | with_reducible refine Below.setCell ?_ ?_ _ | with_reducible refine Below.trans ?_ (Below.mono (by assumption) ?_) | ((try simp only [World.heap_size_alloc, World.heap_size_drew, World.heap_size_setCell]); omega)))
          obtain ⟨g, off, rfl, hg1, hg2, hI⟩ := s1.lie (by omega)
          have hgw : w.heap.size ≤ g := by omega
          have S1 := Lib.hid s1
          clear s1
          go_wp2_with fail
          (with_reducible refine (HN.out _).mono ?_); rintro _ w3 ⟨rfl, b3⟩
          have y3 := b3.size
          go_wp2_with fail
          (with_reducible refine (HT.out _).mono ?_); rintro _ w4 ⟨rfl, b4⟩
          have y4 := b4.size
          have hb4 : Below w.heap.size w w4 := by (repeat' (first | with_reducible exact Below.refl _ _ | with_reducible assumption | with_reducible refine Below.drew ?_ | with_reducible refine Below.alloc ?_ ?_ _ | with_reducible refine Below.setCell ?_ ?_ _ | with_reducible refine Below.trans ?_ (Below.mono (by assumption) ?_) | ((try simp only [World.heap_size_alloc, World.heap_size_drew, World.heap_size_setCell]); omega)))
          have hI4 := (hI.below b3 hg2).below b4 (by omega)
          obtain ⟨o0, f0⟩ := hI4 k x hx
          have r0 := (hb4.cell (p := ⟨gi, oi + k, none⟩) (show gi < w.heap.size by omega)).trans ci
          go_wp2_with fail
          (with_reducible refine (HU.out _).mono ?_); rintro _ w5 ⟨rfl, b5⟩
          have y5 := b5.size
          have hI5 := hI4.below b5 (by omega)
          obtain ⟨o5, f5⟩ := hI5 k x hx
          clear hI4 o0 f0 r0
          go_wp2_with fail
          go_ret2
          exact SlBRes.of hI5 hl (by omega) S1.out.cap S1.out.big hgw (by omega) (by (repeat' (first | with_reducible exact Below.refl _ _ | with_reducible assumption | with_reducible refine Below.drew ?_ | with_reducible refine Below.alloc ?_ ?_ _ | with_reducible refine Below.setCell ?_ ?_ _ | with_reducible refine Below.trans ?_ (Below.mono (by assumption) ?_) | ((try simp only [World.heap_size_alloc, World.heap_size_drew, World.heap_size_setCell]); omega))))
        | true =>
          have e : ticked zs (k : Int) to = (zs.set k (x + to), true) := by simp [ticked, hok, hnd, htm, hx, ht2]
          rw [e]
          clear e
          have CU : ∀ W, Calls Try.prog 54 #[.int .i64 (x + to)] W fun x w' => x = .returned (.bool true) ∧ Below W.heap.size W w' := fun W => (timeOk_any (x + to) W).mono fun x w' ⟨h1, h2⟩ => ⟨by rw [h1, ← ht2]; try rfl, by rw [← h2]; exact Below.refl _ _⟩
          have HU := Lib.hid CU
          clear CU
          have hlim : x + to ≤ 1000000 := (btw_iff.1 ht2).2
          go_enter Try.func23, Try.ntmps23
          go_wp2_with fail
          (with_reducible refine (HO.out _ (h.below (B := w.heap.size) (by (repeat' (first | with_reducible exact Below.refl _ _ | with_reducible assumption | with_reducible refine Below.drew ?_ | with_reducible refine Below.alloc ?_ ?_ _ | with_reducible refine Below.setCell ?_ ?_ _ | with_reducible refine Below.trans ?_ (Below.mono (by assumption) ?_) | ((try simp only [World.heap_size_alloc, World.heap_size_drew, World.heap_size_setCell]); omega)))) hhi)).mono ?_); rintro _ w1 ⟨rfl, b1⟩
          have y1 := b1.size
          (try simp only [World.heap_size_alloc, World.heap_size_drew] at y1)
          go_wp2_with fail
          (with_reducible refine (copyRow_any _ 6 c lo hi zs _ (h.below (B := w.heap.size) (by (repeat' (first | with_reducible exact Below.refl _ _ | with_reducible assumption | with_reducible refine Below.drew ?_ | with_reducible refine Below.alloc ?_ ?_ _ | with_reducible refine Below.setCell ?_ ?_ _ | with_reducible refine Below.trans ?_ (Below.mono (by assumption) ?_) | ((try simp only [World.heap_size_alloc, World.heap_size_drew, World.heap_size_setCell]); omega)))) hhi) (by omega) (by first | omega | ((try simp only [World.heap_size_alloc, World.heap_size_drew, World.heap_size_setCell]); omega))).mono ?_); rintro _ w2 ⟨A1, c1, rfl, s1, b2⟩
          have y2 := b2.size
          (try simp only [World.heap_size_alloc, World.heap_size_drew] at y2)
          have hb2 : Below w.heap.size w w2 := by (repeat' (first | with_reducible exact Below.refl _ _ | with_reducible assumption | with_reducible refine Below.drew ?_ | with_reducible refine Below.alloc ?_ ?_ _ | with_reducible refine Below.setCell ?_ ?_ _ | with_reducible refine Below.trans ?_ (Below.mono (by assumption) ?_) | ((try simp only [World.heap_size_alloc, World.heap_size_drew, World.heap_size_setCell]); omega)))
          obtain ⟨g, off, rfl, hg1, hg2, hI⟩ := s1.lie (by omega)
          have hgw : w.heap.size ≤ g := by omega
          have S1 := Lib.hid s1
          clear s1
          go_wp2_with fail
          (with_reducible refine (HN.out _).mono ?_); rintro _ w3 ⟨rfl, b3⟩
          have y3 := b3.size
          go_wp2_with fail
          (with_reducible refine (HT.out _).mono ?_); rintro _ w4 ⟨rfl, b4⟩
          have y4 := b4.size
          have hb4 : Below w.heap.size w w4 := by (repeat' (first | with_reducible exact Below.refl _ _ | with_reducible assumption | with_reducible refine Below.drew ?_ | with_reducible refine Below.alloc ?_ ?_ _ | with_reducible refine Below.setCell ?_ ?_ _ | with_reducible refine Below.trans ?_ (Below.mono (by assumption) ?_) | ((try simp only [World.heap_size_alloc, World.heap_size_drew, World.heap_size_setCell]); omega)))
          have hI4 := (hI.below b3 hg2).below b4 (by omega)
          obtain ⟨o0, f0⟩ := hI4 k x hx
          have r0 := (hb4.cell (p := ⟨gi, oi + k, none⟩) (show gi < w.heap.size by omega)).trans ci
          go_wp2_with fail
          (with_reducible refine (HU.out _).mono ?_); rintro _ w5 ⟨rfl, b5⟩
          have y5 := b5.size
          have hI5 := hI4.below b5 (by omega)
          obtain ⟨o5, f5⟩ := hI5 k x hx
          clear hI4 o0 f0 r0
          go_wp2_with fail
          go_ret2
          exact SlBRes.of (hI5.set k (x + to)) (by rw [List.length_set]; exact hl) (by rw [List.length_set]; omega) S1.out.cap S1.out.big hgw (by (try simp only [World.heap_size_alloc, World.heap_size_drew, World.heap_size_setCell]); omega) (by (repeat' (first | with_reducible exact Below.refl _ _ | with_reducible assumption | with_reducible refine Below.drew ?_ | with_reducible refine Below.alloc ?_ ?_ _ | with_reducible refine Below.setCell ?_ ?_ _ | with_reducible refine Below.trans ?_ (Below.mono (by assumption) ?_) | ((try simp only [World.heap_size_alloc, World.heap_size_drew, World.heap_size_setCell]); omega))))

end Go.Proofs.Ytkianeknbfahgaa
