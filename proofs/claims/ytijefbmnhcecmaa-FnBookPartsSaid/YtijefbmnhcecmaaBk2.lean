/- Books: which are valid, what the program's and the reference's tests return. No conditions. -/
import Derived.Test.YtijefbmnhcecmaaBk1
set_option linter.unusedSimpArgs false
set_option linter.unusedVariables false
namespace Go.Proofs.Ytijefbmnhcecmaa
open Go.RowKit

def bookHead (b t : Int) (l : List EntryD) : Bool := match l with
  | [] => true
  | e :: _ => (e.index == b + 1) && decide (t ≤ e.time)
def bookOk (b t : Int) (l : List EntryD) : Bool := btw b 0 2000 && (btw t 0 1000000 && (!(b == 0 && t != 0) && (decide (l.length ≤ 20) && (entriesOk l && bookHead b t l))))
theorem bookHead_at {b t : Int} {l : List EntryD} {e : EntryD} (h : l[0]? = some e) : bookHead b t l = ((e.index == b + 1) && decide (t ≤ e.time)) := by
  cases l with
  | nil => simp at h
  | cons x l => simp at h; subst h; rfl
set_option maxRecDepth 100000 in
set_option maxHeartbeats 4000000 in
theorem sBookOk_any (b t : Int) (A : Option Addr) (n c lo hi : Nat) (l : List EntryD) (w : World) (h : Sl w lo hi 9 A n c (l.flatMap EntryD.ints)) :
    Calls Try.prog 21 #[.agg #[.int .i64 b, .int .i64 t, .slice A n c]] w (BoolRes w (bookOk b t l)) := by
  have hn : n ≤ 9223372036854775807 := Nat.le_trans h.cap h.big
  have hl : l.length = n := h.count EntryD.ints_len (by omega)
  replace h := h.fit (by omega)
  have hhi : min hi w.heap.size ≤ w.heap.size := Nat.min_le_right _ _
  generalize min hi w.heap.size = hi at h hhi
  cases hB : btw b 0 2000 with
  | false =>
    have e0 : bookOk b t l = false := by simp [bookOk, hB]
    rw [e0]
    clear e0 h hl
    go_enter Try.func21, Try.ntmps21
    go_wp2_with (first | (go_at_call 56; refine (l1In_any _ _ _ _).mono ?_; rintro e2 w2 ⟨rfl, rfl⟩) | (go_at_call 57; refine (sTimeOk_any _ _).mono ?_; rintro e2 w2 ⟨rfl, rfl⟩))
    go_ret
    exact ⟨rfl, by (repeat' (first | with_reducible exact Below.refl _ _ | with_reducible assumption | with_reducible refine Below.drew ?_ | with_reducible refine Below.alloc ?_ ?_ _ | with_reducible refine Below.setCell ?_ ?_ _ | with_reducible refine Below.trans ?_ (Below.mono (by assumption) ?_) | ((try simp only [World.heap_size_alloc, World.heap_size_drew, World.heap_size_setCell]); omega)))⟩
  | true =>
    cases hT : btw t 0 1000000 with
    | false =>
      have e0 : bookOk b t l = false := by simp [bookOk, hB, hT]
      rw [e0]
      clear e0 h hl
      go_enter Try.func21, Try.ntmps21
      go_wp2_with (first | (go_at_call 56; refine (l1In_any _ _ _ _).mono ?_; rintro e2 w2 ⟨rfl, rfl⟩) | (go_at_call 57; refine (sTimeOk_any _ _).mono ?_; rintro e2 w2 ⟨rfl, rfl⟩))
      go_ret
      exact ⟨rfl, by (repeat' (first | with_reducible exact Below.refl _ _ | with_reducible assumption | with_reducible refine Below.drew ?_ | with_reducible refine Below.alloc ?_ ?_ _ | with_reducible refine Below.setCell ?_ ?_ _ | with_reducible refine Below.trans ?_ (Below.mono (by assumption) ?_) | ((try simp only [World.heap_size_alloc, World.heap_size_drew, World.heap_size_setCell]); omega)))⟩
    | true =>
      have hb2 := btw_iff.1 hB
      obtain ⟨hb0, hb1⟩ := hb2
      by_cases hZ : b = 0 ∧ t ≠ 0
      · obtain ⟨rfl, hz⟩ := hZ
        have hz1 : (t != 0) = true := by simpa using hz
        have e0 : bookOk 0 t l = false := by simp [bookOk, hz]
        rw [e0]
        clear e0 h hl hz
        go_enter Try.func21, Try.ntmps21
        go_wp2_with (first | (go_at_call 56; refine (l1In_any _ _ _ _).mono ?_; rintro e2 w2 ⟨rfl, rfl⟩) | (go_at_call 57; refine (sTimeOk_any _ _).mono ?_; rintro e2 w2 ⟨rfl, rfl⟩))
        go_ret
        exact ⟨rfl, by (repeat' (first | with_reducible exact Below.refl _ _ | with_reducible assumption | with_reducible refine Below.drew ?_ | with_reducible refine Below.alloc ?_ ?_ _ | with_reducible refine Below.setCell ?_ ?_ _ | with_reducible refine Below.trans ?_ (Below.mono (by assumption) ?_) | ((try simp only [World.heap_size_alloc, World.heap_size_drew, World.heap_size_setCell]); omega)))⟩
      · have hz9 : bookOk b t l = (decide (l.length ≤ 20) && (entriesOk l && bookHead b t l)) := by
          have : (b == 0 && t != 0) = false := by
            cases hc : (b == 0 && t != 0) with
            | false => rfl
            | true => simp at hc; exact absurd hc hZ
          simp [bookOk, hB, hT, this]
        rw [hz9]
        have hz1 : Hid (b = 0 → t = 0) := Lib.hid (fun h1 => Classical.byContradiction fun h2 => hZ ⟨h1, h2⟩)
        clear hz9 hZ
        by_cases hb9 : b = 0
        · have ht9 := hz1.out hb9
          have hb8 : (b == 0) = true := by simpa using hb9
          have ht8 : (t != 0) = false := by simpa using ht9
          clear hz1 hb9 ht9
          rcases Nat.lt_or_ge 20 n with hlong | hshort
          · have e0 : decide (l.length ≤ 20) = false := by simp; omega
            rw [e0]
            clear e0 h hl
            go_enter Try.func21, Try.ntmps21
            go_wp2_with (first | (go_at_call 56; refine (l1In_any _ _ _ _).mono ?_; rintro e2 w2 ⟨rfl, rfl⟩) | (go_at_call 57; refine (sTimeOk_any _ _).mono ?_; rintro e2 w2 ⟨rfl, rfl⟩))
            go_ret
            exact ⟨rfl, by (repeat' (first | with_reducible exact Below.refl _ _ | with_reducible assumption | with_reducible refine Below.drew ?_ | with_reducible refine Below.alloc ?_ ?_ _ | with_reducible refine Below.setCell ?_ ?_ _ | with_reducible refine Below.trans ?_ (Below.mono (by assumption) ?_) | ((try simp only [World.heap_size_alloc, World.heap_size_drew, World.heap_size_setCell]); omega)))⟩
          · have e0 : decide (l.length ≤ 20) = true := by simp; omega
            rw [e0]
            clear e0
            cases hE : entriesOk l with
            | false =>
              have CO : ∀ W, Sl W lo hi 9 A n c (l.flatMap EntryD.ints) → Calls Try.prog 58 #[.slice A n c] W fun x w' => x = .returned (.bool false) ∧ Below W.heap.size W w' := fun W s => by
                have h7 := sEntriesOk_any A n c lo hi l W s
                rw [hE] at h7
                exact h7
              have HO := Lib.hid CO
              clear CO
              clear hl hE
              go_enter Try.func21, Try.ntmps21
              go_wp2_with (first | (go_at_call 56; refine (l1In_any _ _ _ _).mono ?_; rintro e2 w2 ⟨rfl, rfl⟩) | (go_at_call 57; refine (sTimeOk_any _ _).mono ?_; rintro e2 w2 ⟨rfl, rfl⟩))
              (with_reducible refine (HO.out _ (h.below (B := w.heap.size) (by (repeat' (first | with_reducible exact Below.refl _ _ | with_reducible assumption | with_reducible refine Below.drew ?_ | with_reducible refine Below.alloc ?_ ?_ _ | with_reducible refine Below.setCell ?_ ?_ _ | with_reducible refine Below.trans ?_ (Below.mono (by assumption) ?_) | ((try simp only [World.heap_size_alloc, World.heap_size_drew, World.heap_size_setCell]); omega)))) hhi)).mono ?_); rintro _ w1 ⟨rfl, b1⟩
              go_wp2_with fail
              go_ret
              exact ⟨rfl, by (repeat' (first | with_reducible exact Below.refl _ _ | with_reducible assumption | with_reducible refine Below.drew ?_ | with_reducible refine Below.alloc ?_ ?_ _ | with_reducible refine Below.setCell ?_ ?_ _ | with_reducible refine Below.trans ?_ (Below.mono (by assumption) ?_) | ((try simp only [World.heap_size_alloc, World.heap_size_drew, World.heap_size_setCell]); omega)))⟩
            | true =>
              have CO : ∀ W, Sl W lo hi 9 A n c (l.flatMap EntryD.ints) → Calls Try.prog 58 #[.slice A n c] W fun x w' => x = .returned (.bool true) ∧ Below W.heap.size W w' := fun W s => by
                have h7 := sEntriesOk_any A n c lo hi l W s
                rw [hE] at h7
                exact h7
              have HO := Lib.hid CO
              clear CO
              clear hE
              rcases Nat.eq_zero_or_pos n with rfl | hpos
              · obtain rfl : l = [] := List.eq_nil_of_length_eq_zero hl
                go_enter Try.func21, Try.ntmps21
                go_wp2_with (first | (go_at_call 56; refine (l1In_any _ _ _ _).mono ?_; rintro e2 w2 ⟨rfl, rfl⟩) | (go_at_call 57; refine (sTimeOk_any _ _).mono ?_; rintro e2 w2 ⟨rfl, rfl⟩))
                (with_reducible refine (HO.out _ (h.below (B := w.heap.size) (by (repeat' (first | with_reducible exact Below.refl _ _ | with_reducible assumption | with_reducible refine Below.drew ?_ | with_reducible refine Below.alloc ?_ ?_ _ | with_reducible refine Below.setCell ?_ ?_ _ | with_reducible refine Below.trans ?_ (Below.mono (by assumption) ?_) | ((try simp only [World.heap_size_alloc, World.heap_size_drew, World.heap_size_setCell]); omega)))) hhi)).mono ?_); rintro _ w1 ⟨rfl, b1⟩
                have y1 := b1.size
                simp only [World.heap_size_alloc] at y1
                have hw1 : Below w.heap.size w w1 := by (repeat' (first | with_reducible exact Below.refl _ _ | with_reducible assumption | with_reducible refine Below.drew ?_ | with_reducible refine Below.alloc ?_ ?_ _ | with_reducible refine Below.setCell ?_ ?_ _ | with_reducible refine Below.trans ?_ (Below.mono (by assumption) ?_) | ((try simp only [World.heap_size_alloc, World.heap_size_drew, World.heap_size_setCell]); omega)))
                have v0 : w1.cell? ⟨w.heap.size, 0, none⟩ = some (.int .i64 b) := (b1.cell (p := ⟨w.heap.size, 0, none⟩) (by (try simp only [World.heap_size_alloc, World.heap_size_drew, World.heap_size_setCell]); omega)).trans (by simp)
                have fv0 := fun d os => cell_regrown v0 d os
                have v1 : w1.cell? ⟨w.heap.size, 1, none⟩ = some (.int .i64 t) := (b1.cell (p := ⟨w.heap.size, 1, none⟩) (by (try simp only [World.heap_size_alloc, World.heap_size_drew, World.heap_size_setCell]); omega)).trans (by simp)
                have fv1 := fun d os => cell_regrown v1 d os
                have v2 : w1.cell? ⟨w.heap.size, 2, none⟩ = some (.slice A 0 c) := (b1.cell (p := ⟨w.heap.size, 2, none⟩) (by (try simp only [World.heap_size_alloc, World.heap_size_drew, World.heap_size_setCell]); omega)).trans (by simp)
                have fv2 := fun d os => cell_regrown v2 d os
                go_wp2_with fail
                refine wp_region_quiet_below (by kernel_rfl) (by kernel_rfl) ?_; (repeat (first | go_big_quiet_step (fail) | quiet_step (fail))); refine wpQuiet_nil ?_; intro _ hw'; obtain ⟨⟨nq, osq⟩, hw''⟩ := hw'; subst hw''; have hq := below_regrown w1 nq osq; generalize Sort.grow (redrawn w1 nq) osq = w3 at *
                have hw3 : Below w.heap.size w w3 := hw1.trans (hq.mono (by omega))
                go_wp2
                go_ret
                exact ⟨rfl, hw3⟩
              · obtain ⟨g, off, e, rfl, _, hg, he, p0, p1, _⟩ := h.entry hpos
                have hgw : g < w.heap.size := by omega
                simp only [Nat.zero_mul, Nat.add_zero] at p0 p1
                have hbh : bookHead b t l = ((e.index == b + 1) && decide (t ≤ e.time)) := bookHead_at he
                have hn0 : ((n : Int) == 0) = false := by simp; omega
                have hi0 : (0 : Int) < (n : Int) := by omega
                have hw2 : IntKind.i64.wrap (b + 1) = b + 1 := IntWalk.i64_in _ (by omega)
                rw [hbh]
                clear hbh he hl
                by_cases hi1 : e.index = b + 1
                · have hi2 : (e.index == b + 1) = true := by simpa using hi1
                  have HI1 := Lib.hid hi1
                  clear hi1
                  rw [hi2]
                  by_cases ht : t ≤ e.time
                  · have ht2 : decide (t ≤ e.time) = true := by simpa using ht
                    rw [ht2]
                    go_enter Try.func21, Try.ntmps21
                    go_wp2_with (first | (go_at_call 56; refine (l1In_any _ _ _ _).mono ?_; rintro e2 w2 ⟨rfl, rfl⟩) | (go_at_call 57; refine (sTimeOk_any _ _).mono ?_; rintro e2 w2 ⟨rfl, rfl⟩))
                    (with_reducible refine (HO.out _ (h.below (B := w.heap.size) (by (repeat' (first | with_reducible exact Below.refl _ _ | with_reducible assumption | with_reducible refine Below.drew ?_ | with_reducible refine Below.alloc ?_ ?_ _ | with_reducible refine Below.setCell ?_ ?_ _ | with_reducible refine Below.trans ?_ (Below.mono (by assumption) ?_) | ((try simp only [World.heap_size_alloc, World.heap_size_drew, World.heap_size_setCell]); omega)))) hhi)).mono ?_); rintro _ w1 ⟨rfl, b1⟩
                    have y1 := b1.size
                    simp only [World.heap_size_alloc] at y1
                    have hw1 : Below w.heap.size w w1 := by (repeat' (first | with_reducible exact Below.refl _ _ | with_reducible assumption | with_reducible refine Below.drew ?_ | with_reducible refine Below.alloc ?_ ?_ _ | with_reducible refine Below.setCell ?_ ?_ _ | with_reducible refine Below.trans ?_ (Below.mono (by assumption) ?_) | ((try simp only [World.heap_size_alloc, World.heap_size_drew, World.heap_size_setCell]); omega)))
                    have v0 : w1.cell? ⟨w.heap.size, 0, none⟩ = some (.int .i64 b) := (b1.cell (p := ⟨w.heap.size, 0, none⟩) (by (try simp only [World.heap_size_alloc, World.heap_size_drew, World.heap_size_setCell]); omega)).trans (by simp)
                    have fv0 := fun d os => cell_regrown v0 d os
                    have v1 : w1.cell? ⟨w.heap.size, 1, none⟩ = some (.int .i64 t) := (b1.cell (p := ⟨w.heap.size, 1, none⟩) (by (try simp only [World.heap_size_alloc, World.heap_size_drew, World.heap_size_setCell]); omega)).trans (by simp)
                    have fv1 := fun d os => cell_regrown v1 d os
                    have v2 : w1.cell? ⟨w.heap.size, 2, none⟩ = some (.slice (some ⟨g, off, none⟩) n c) := (b1.cell (p := ⟨w.heap.size, 2, none⟩) (by (try simp only [World.heap_size_alloc, World.heap_size_drew, World.heap_size_setCell]); omega)).trans (by simp)
                    have fv2 := fun d os => cell_regrown v2 d os
                    have u0 := (hw1.cell (p := ⟨g, off, none⟩) hgw).trans p0
                    have u1 := (hw1.cell (p := ⟨g, off + 1, none⟩) hgw).trans p1
                    have fu0 := fun d os => cell_regrown u0 d os
                    have fu1 := fun d os => cell_regrown u1 d os
                    go_wp2_with fail
                    refine wp_region_quiet_below (by kernel_rfl) (by kernel_rfl) ?_; (repeat (first | go_big_quiet_step (fail) | quiet_step (fail))); refine wpQuiet_nil ?_; intro _ hw'; obtain ⟨⟨nq, osq⟩, hw''⟩ := hw'; subst hw''; have hq := below_regrown w1 nq osq; generalize Sort.grow (redrawn w1 nq) osq = w3 at *
                    have hw3 : Below w.heap.size w w3 := hw1.trans (hq.mono (by omega))
                    clear hw2
                    go_wp2
                    go_ret
                    exact ⟨by simp, hw3⟩
                  · have ht2 : decide (t ≤ e.time) = false := by simpa using ht
                    rw [ht2]
                    go_enter Try.func21, Try.ntmps21
                    go_wp2_with (first | (go_at_call 56; refine (l1In_any _ _ _ _).mono ?_; rintro e2 w2 ⟨rfl, rfl⟩) | (go_at_call 57; refine (sTimeOk_any _ _).mono ?_; rintro e2 w2 ⟨rfl, rfl⟩))
                    (with_reducible refine (HO.out _ (h.below (B := w.heap.size) (by (repeat' (first | with_reducible exact Below.refl _ _ | with_reducible assumption | with_reducible refine Below.drew ?_ | with_reducible refine Below.alloc ?_ ?_ _ | with_reducible refine Below.setCell ?_ ?_ _ | with_reducible refine Below.trans ?_ (Below.mono (by assumption) ?_) | ((try simp only [World.heap_size_alloc, World.heap_size_drew, World.heap_size_setCell]); omega)))) hhi)).mono ?_); rintro _ w1 ⟨rfl, b1⟩
                    have y1 := b1.size
                    simp only [World.heap_size_alloc] at y1
                    have hw1 : Below w.heap.size w w1 := by (repeat' (first | with_reducible exact Below.refl _ _ | with_reducible assumption | with_reducible refine Below.drew ?_ | with_reducible refine Below.alloc ?_ ?_ _ | with_reducible refine Below.setCell ?_ ?_ _ | with_reducible refine Below.trans ?_ (Below.mono (by assumption) ?_) | ((try simp only [World.heap_size_alloc, World.heap_size_drew, World.heap_size_setCell]); omega)))
                    have v0 : w1.cell? ⟨w.heap.size, 0, none⟩ = some (.int .i64 b) := (b1.cell (p := ⟨w.heap.size, 0, none⟩) (by (try simp only [World.heap_size_alloc, World.heap_size_drew, World.heap_size_setCell]); omega)).trans (by simp)
                    have fv0 := fun d os => cell_regrown v0 d os
                    have v1 : w1.cell? ⟨w.heap.size, 1, none⟩ = some (.int .i64 t) := (b1.cell (p := ⟨w.heap.size, 1, none⟩) (by (try simp only [World.heap_size_alloc, World.heap_size_drew, World.heap_size_setCell]); omega)).trans (by simp)
                    have fv1 := fun d os => cell_regrown v1 d os
                    have v2 : w1.cell? ⟨w.heap.size, 2, none⟩ = some (.slice (some ⟨g, off, none⟩) n c) := (b1.cell (p := ⟨w.heap.size, 2, none⟩) (by (try simp only [World.heap_size_alloc, World.heap_size_drew, World.heap_size_setCell]); omega)).trans (by simp)
                    have fv2 := fun d os => cell_regrown v2 d os
                    have u0 := (hw1.cell (p := ⟨g, off, none⟩) hgw).trans p0
                    have u1 := (hw1.cell (p := ⟨g, off + 1, none⟩) hgw).trans p1
                    have fu0 := fun d os => cell_regrown u0 d os
                    have fu1 := fun d os => cell_regrown u1 d os
                    go_wp2_with fail
                    refine wp_region_quiet_below (by kernel_rfl) (by kernel_rfl) ?_; (repeat (first | go_big_quiet_step (fail) | quiet_step (fail))); refine wpQuiet_nil ?_; intro _ hw'; obtain ⟨⟨nq, osq⟩, hw''⟩ := hw'; subst hw''; have hq := below_regrown w1 nq osq; generalize Sort.grow (redrawn w1 nq) osq = w3 at *
                    have hw3 : Below w.heap.size w w3 := hw1.trans (hq.mono (by omega))
                    clear hw2
                    go_wp2
                    go_ret
                    exact ⟨by simp, hw3⟩
                · have hi2 : (e.index == b + 1) = false := by simpa using hi1
                  have HI1 := Lib.hid hi1
                  clear hi1
                  rw [hi2]
                  go_enter Try.func21, Try.ntmps21
                  go_wp2_with (first | (go_at_call 56; refine (l1In_any _ _ _ _).mono ?_; rintro e2 w2 ⟨rfl, rfl⟩) | (go_at_call 57; refine (sTimeOk_any _ _).mono ?_; rintro e2 w2 ⟨rfl, rfl⟩))
                  (with_reducible refine (HO.out _ (h.below (B := w.heap.size) (by (repeat' (first | with_reducible exact Below.refl _ _ | with_reducible assumption | with_reducible refine Below.drew ?_ | with_reducible refine Below.alloc ?_ ?_ _ | with_reducible refine Below.setCell ?_ ?_ _ | with_reducible refine Below.trans ?_ (Below.mono (by assumption) ?_) | ((try simp only [World.heap_size_alloc, World.heap_size_drew, World.heap_size_setCell]); omega)))) hhi)).mono ?_); rintro _ w1 ⟨rfl, b1⟩
                  have y1 := b1.size
                  simp only [World.heap_size_alloc] at y1
                  have hw1 : Below w.heap.size w w1 := by (repeat' (first | with_reducible exact Below.refl _ _ | with_reducible assumption | with_reducible refine Below.drew ?_ | with_reducible refine Below.alloc ?_ ?_ _ | with_reducible refine Below.setCell ?_ ?_ _ | with_reducible refine Below.trans ?_ (Below.mono (by assumption) ?_) | ((try simp only [World.heap_size_alloc, World.heap_size_drew, World.heap_size_setCell]); omega)))
                  have v0 : w1.cell? ⟨w.heap.size, 0, none⟩ = some (.int .i64 b) := (b1.cell (p := ⟨w.heap.size, 0, none⟩) (by (try simp only [World.heap_size_alloc, World.heap_size_drew, World.heap_size_setCell]); omega)).trans (by simp)
                  have fv0 := fun d os => cell_regrown v0 d os
                  have v1 : w1.cell? ⟨w.heap.size, 1, none⟩ = some (.int .i64 t) := (b1.cell (p := ⟨w.heap.size, 1, none⟩) (by (try simp only [World.heap_size_alloc, World.heap_size_drew, World.heap_size_setCell]); omega)).trans (by simp)
                  have fv1 := fun d os => cell_regrown v1 d os
                  have v2 : w1.cell? ⟨w.heap.size, 2, none⟩ = some (.slice (some ⟨g, off, none⟩) n c) := (b1.cell (p := ⟨w.heap.size, 2, none⟩) (by (try simp only [World.heap_size_alloc, World.heap_size_drew, World.heap_size_setCell]); omega)).trans (by simp)
                  have fv2 := fun d os => cell_regrown v2 d os
                  have u0 := (hw1.cell (p := ⟨g, off, none⟩) hgw).trans p0
                  have u1 := (hw1.cell (p := ⟨g, off + 1, none⟩) hgw).trans p1
                  have fu0 := fun d os => cell_regrown u0 d os
                  have fu1 := fun d os => cell_regrown u1 d os
                  go_wp2_with fail
                  refine wp_region_quiet_below (by kernel_rfl) (by kernel_rfl) ?_; (repeat (first | go_big_quiet_step (fail) | quiet_step (fail))); refine wpQuiet_nil ?_; intro _ hw'; obtain ⟨⟨nq, osq⟩, hw''⟩ := hw'; subst hw''; have hq := below_regrown w1 nq osq; generalize Sort.grow (redrawn w1 nq) osq = w3 at *
                  have hw3 : Below w.heap.size w w3 := hw1.trans (hq.mono (by omega))
                  clear hw2
                  go_wp2
                  go_ret
                  exact ⟨by simp, hw3⟩
        · have hb8 : (b == 0) = false := by simpa using hb9
          clear hz1 hb9
          rcases Nat.lt_or_ge 20 n with hlong | hshort
          · have e0 : decide (l.length ≤ 20) = false := by simp; omega
            rw [e0]
            clear e0 h hl
            go_enter Try.func21, Try.ntmps21
            go_wp2_with (first | (go_at_call 56; refine (l1In_any _ _ _ _).mono ?_; rintro e2 w2 ⟨rfl, rfl⟩) | (go_at_call 57; refine (sTimeOk_any _ _).mono ?_; rintro e2 w2 ⟨rfl, rfl⟩))
            go_ret
            exact ⟨rfl, by (repeat' (first | with_reducible exact Below.refl _ _ | with_reducible assumption | with_reducible refine Below.drew ?_ | with_reducible refine Below.alloc ?_ ?_ _ | with_reducible refine Below.setCell ?_ ?_ _ | with_reducible refine Below.trans ?_ (Below.mono (by assumption) ?_) | ((try simp only [World.heap_size_alloc, World.heap_size_drew, World.heap_size_setCell]); omega)))⟩
          · have e0 : decide (l.length ≤ 20) = true := by simp; omega
            rw [e0]
            clear e0
            cases hE : entriesOk l with
            | false =>
              have CO : ∀ W, Sl W lo hi 9 A n c (l.flatMap EntryD.ints) → Calls Try.prog 58 #[.slice A n c] W fun x w' => x = .returned (.bool false) ∧ Below W.heap.size W w' := fun W s => by
                have h7 := sEntriesOk_any A n c lo hi l W s
                rw [hE] at h7
                exact h7
              have HO := Lib.hid CO
              clear CO
              clear hl hE
              go_enter Try.func21, Try.ntmps21
              go_wp2_with (first | (go_at_call 56; refine (l1In_any _ _ _ _).mono ?_; rintro e2 w2 ⟨rfl, rfl⟩) | (go_at_call 57; refine (sTimeOk_any _ _).mono ?_; rintro e2 w2 ⟨rfl, rfl⟩))
              (with_reducible refine (HO.out _ (h.below (B := w.heap.size) (by (repeat' (first | with_reducible exact Below.refl _ _ | with_reducible assumption | with_reducible refine Below.drew ?_ | with_reducible refine Below.alloc ?_ ?_ _ | with_reducible refine Below.setCell ?_ ?_ _ | with_reducible refine Below.trans ?_ (Below.mono (by assumption) ?_) | ((try simp only [World.heap_size_alloc, World.heap_size_drew, World.heap_size_setCell]); omega)))) hhi)).mono ?_); rintro _ w1 ⟨rfl, b1⟩
              go_wp2_with fail
              go_ret
              exact ⟨rfl, by (repeat' (first | with_reducible exact Below.refl _ _ | with_reducible assumption | with_reducible refine Below.drew ?_ | with_reducible refine Below.alloc ?_ ?_ _ | with_reducible refine Below.setCell ?_ ?_ _ | with_reducible refine Below.trans ?_ (Below.mono (by assumption) ?_) | ((try simp only [World.heap_size_alloc, World.heap_size_drew, World.heap_size_setCell]); omega)))⟩
            | true =>
              have CO : ∀ W, Sl W lo hi 9 A n c (l.flatMap EntryD.ints) → Calls Try.prog 58 #[.slice A n c] W fun x w' => x = .returned (.bool true) ∧ Below W.heap.size W w' := fun W s => by
                have h7 := sEntriesOk_any A n c lo hi l W s
                rw [hE] at h7
                exact h7
              have HO := Lib.hid CO
              clear CO
              clear hE
              rcases Nat.eq_zero_or_pos n with rfl | hpos
              · obtain rfl : l = [] := List.eq_nil_of_length_eq_zero hl
                go_enter Try.func21, Try.ntmps21
                go_wp2_with (first | (go_at_call 56; refine (l1In_any _ _ _ _).mono ?_; rintro e2 w2 ⟨rfl, rfl⟩) | (go_at_call 57; refine (sTimeOk_any _ _).mono ?_; rintro e2 w2 ⟨rfl, rfl⟩))
                (with_reducible refine (HO.out _ (h.below (B := w.heap.size) (by (repeat' (first | with_reducible exact Below.refl _ _ | with_reducible assumption | with_reducible refine Below.drew ?_ | with_reducible refine Below.alloc ?_ ?_ _ | with_reducible refine Below.setCell ?_ ?_ _ | with_reducible refine Below.trans ?_ (Below.mono (by assumption) ?_) | ((try simp only [World.heap_size_alloc, World.heap_size_drew, World.heap_size_setCell]); omega)))) hhi)).mono ?_); rintro _ w1 ⟨rfl, b1⟩
                have y1 := b1.size
                simp only [World.heap_size_alloc] at y1
                have hw1 : Below w.heap.size w w1 := by (repeat' (first | with_reducible exact Below.refl _ _ | with_reducible assumption | with_reducible refine Below.drew ?_ | with_reducible refine Below.alloc ?_ ?_ _ | with_reducible refine Below.setCell ?_ ?_ _ | with_reducible refine Below.trans ?_ (Below.mono (by assumption) ?_) | ((try simp only [World.heap_size_alloc, World.heap_size_drew, World.heap_size_setCell]); omega)))
                have v0 : w1.cell? ⟨w.heap.size, 0, none⟩ = some (.int .i64 b) := (b1.cell (p := ⟨w.heap.size, 0, none⟩) (by (try simp only [World.heap_size_alloc, World.heap_size_drew, World.heap_size_setCell]); omega)).trans (by simp)
                have fv0 := fun d os => cell_regrown v0 d os
                have v1 : w1.cell? ⟨w.heap.size, 1, none⟩ = some (.int .i64 t) := (b1.cell (p := ⟨w.heap.size, 1, none⟩) (by (try simp only [World.heap_size_alloc, World.heap_size_drew, World.heap_size_setCell]); omega)).trans (by simp)
                have fv1 := fun d os => cell_regrown v1 d os
                have v2 : w1.cell? ⟨w.heap.size, 2, none⟩ = some (.slice A 0 c) := (b1.cell (p := ⟨w.heap.size, 2, none⟩) (by (try simp only [World.heap_size_alloc, World.heap_size_drew, World.heap_size_setCell]); omega)).trans (by simp)
                have fv2 := fun d os => cell_regrown v2 d os
                go_wp2_with fail
                refine wp_region_quiet_below (by kernel_rfl) (by kernel_rfl) ?_; (repeat (first | go_big_quiet_step (fail) | quiet_step (fail))); refine wpQuiet_nil ?_; intro _ hw'; obtain ⟨⟨nq, osq⟩, hw''⟩ := hw'; subst hw''; have hq := below_regrown w1 nq osq; generalize Sort.grow (redrawn w1 nq) osq = w3 at *
                have hw3 : Below w.heap.size w w3 := hw1.trans (hq.mono (by omega))
                go_wp2
                go_ret
                exact ⟨rfl, hw3⟩
              · obtain ⟨g, off, e, rfl, _, hg, he, p0, p1, _⟩ := h.entry hpos
                have hgw : g < w.heap.size := by omega
                simp only [Nat.zero_mul, Nat.add_zero] at p0 p1
                have hbh : bookHead b t l = ((e.index == b + 1) && decide (t ≤ e.time)) := bookHead_at he
                have hn0 : ((n : Int) == 0) = false := by simp; omega
                have hi0 : (0 : Int) < (n : Int) := by omega
                have hw2 : IntKind.i64.wrap (b + 1) = b + 1 := IntWalk.i64_in _ (by omega)
                rw [hbh]
                clear hbh he hl
                by_cases hi1 : e.index = b + 1
                · have hi2 : (e.index == b + 1) = true := by simpa using hi1
                  have HI1 := Lib.hid hi1
                  clear hi1
                  rw [hi2]
                  by_cases ht : t ≤ e.time
                  · have ht2 : decide (t ≤ e.time) = true := by simpa using ht
                    rw [ht2]
                    go_enter Try.func21, Try.ntmps21
                    go_wp2_with (first | (go_at_call 56; refine (l1In_any _ _ _ _).mono ?_; rintro e2 w2 ⟨rfl, rfl⟩) | (go_at_call 57; refine (sTimeOk_any _ _).mono ?_; rintro e2 w2 ⟨rfl, rfl⟩))
                    (with_reducible refine (HO.out _ (h.below (B := w.heap.size) (by (repeat' (first | with_reducible exact Below.refl _ _ | with_reducible assumption | with_reducible refine Below.drew ?_ | with_reducible refine Below.alloc ?_ ?_ _ | with_reducible refine Below.setCell ?_ ?_ _ | with_reducible refine Below.trans ?_ (Below.mono (by assumption) ?_) | ((try simp only [World.heap_size_alloc, World.heap_size_drew, World.heap_size_setCell]); omega)))) hhi)).mono ?_); rintro _ w1 ⟨rfl, b1⟩
                    have y1 := b1.size
                    simp only [World.heap_size_alloc] at y1
                    have hw1 : Below w.heap.size w w1 := by (repeat' (first | with_reducible exact Below.refl _ _ | with_reducible assumption | with_reducible refine Below.drew ?_ | with_reducible refine Below.alloc ?_ ?_ _ | with_reducible refine Below.setCell ?_ ?_ _ | with_reducible refine Below.trans ?_ (Below.mono (by assumption) ?_) | ((try simp only [World.heap_size_alloc, World.heap_size_drew, World.heap_size_setCell]); omega)))
                    have v0 : w1.cell? ⟨w.heap.size, 0, none⟩ = some (.int .i64 b) := (b1.cell (p := ⟨w.heap.size, 0, none⟩) (by (try simp only [World.heap_size_alloc, World.heap_size_drew, World.heap_size_setCell]); omega)).trans (by simp)
                    have fv0 := fun d os => cell_regrown v0 d os
                    have v1 : w1.cell? ⟨w.heap.size, 1, none⟩ = some (.int .i64 t) := (b1.cell (p := ⟨w.heap.size, 1, none⟩) (by (try simp only [World.heap_size_alloc, World.heap_size_drew, World.heap_size_setCell]); omega)).trans (by simp)
                    have fv1 := fun d os => cell_regrown v1 d os
                    have v2 : w1.cell? ⟨w.heap.size, 2, none⟩ = some (.slice (some ⟨g, off, none⟩) n c) := (b1.cell (p := ⟨w.heap.size, 2, none⟩) (by (try simp only [World.heap_size_alloc, World.heap_size_drew, World.heap_size_setCell]); omega)).trans (by simp)
                    have fv2 := fun d os => cell_regrown v2 d os
                    have u0 := (hw1.cell (p := ⟨g, off, none⟩) hgw).trans p0
                    have u1 := (hw1.cell (p := ⟨g, off + 1, none⟩) hgw).trans p1
                    have fu0 := fun d os => cell_regrown u0 d os
                    have fu1 := fun d os => cell_regrown u1 d os
                    go_wp2_with fail
                    refine wp_region_quiet_below (by kernel_rfl) (by kernel_rfl) ?_; (repeat (first | go_big_quiet_step (fail) | quiet_step (fail))); refine wpQuiet_nil ?_; intro _ hw'; obtain ⟨⟨nq, osq⟩, hw''⟩ := hw'; subst hw''; have hq := below_regrown w1 nq osq; generalize Sort.grow (redrawn w1 nq) osq = w3 at *
                    have hw3 : Below w.heap.size w w3 := hw1.trans (hq.mono (by omega))
                    clear hw2
                    go_wp2
                    go_ret
                    exact ⟨by simp, hw3⟩
                  · have ht2 : decide (t ≤ e.time) = false := by simpa using ht
                    rw [ht2]
                    go_enter Try.func21, Try.ntmps21
                    go_wp2_with (first | (go_at_call 56; refine (l1In_any _ _ _ _).mono ?_; rintro e2 w2 ⟨rfl, rfl⟩) | (go_at_call 57; refine (sTimeOk_any _ _).mono ?_; rintro e2 w2 ⟨rfl, rfl⟩))
                    (with_reducible refine (HO.out _ (h.below (B := w.heap.size) (by (repeat' (first | with_reducible exact Below.refl _ _ | with_reducible assumption | with_reducible refine Below.drew ?_ | with_reducible refine Below.alloc ?_ ?_ _ | with_reducible refine Below.setCell ?_ ?_ _ | with_reducible refine Below.trans ?_ (Below.mono (by assumption) ?_) | ((try simp only [World.heap_size_alloc, World.heap_size_drew, World.heap_size_setCell]); omega)))) hhi)).mono ?_); rintro _ w1 ⟨rfl, b1⟩
                    have y1 := b1.size
                    simp only [World.heap_size_alloc] at y1
                    have hw1 : Below w.heap.size w w1 := by (repeat' (first | with_reducible exact Below.refl _ _ | with_reducible assumption | with_reducible refine Below.drew ?_ | with_reducible refine Below.alloc ?_ ?_ _ | with_reducible refine Below.setCell ?_ ?_ _ | with_reducible refine Below.trans ?_ (Below.mono (by assumption) ?_) | ((try simp only [World.heap_size_alloc, World.heap_size_drew, World.heap_size_setCell]); omega)))
                    have v0 : w1.cell? ⟨w.heap.size, 0, none⟩ = some (.int .i64 b) := (b1.cell (p := ⟨w.heap.size, 0, none⟩) (by (try simp only [World.heap_size_alloc, World.heap_size_drew, World.heap_size_setCell]); omega)).trans (by simp)
                    have fv0 := fun d os => cell_regrown v0 d os
                    have v1 : w1.cell? ⟨w.heap.size, 1, none⟩ = some (.int .i64 t) := (b1.cell (p := ⟨w.heap.size, 1, none⟩) (by (try simp only [World.heap_size_alloc, World.heap_size_drew, World.heap_size_setCell]); omega)).trans (by simp)
                    have fv1 := fun d os => cell_regrown v1 d os
                    have v2 : w1.cell? ⟨w.heap.size, 2, none⟩ = some (.slice (some ⟨g, off, none⟩) n c) := (b1.cell (p := ⟨w.heap.size, 2, none⟩) (by (try simp only [World.heap_size_alloc, World.heap_size_drew, World.heap_size_setCell]); omega)).trans (by simp)
                    have fv2 := fun d os => cell_regrown v2 d os
                    have u0 := (hw1.cell (p := ⟨g, off, none⟩) hgw).trans p0
                    have u1 := (hw1.cell (p := ⟨g, off + 1, none⟩) hgw).trans p1
                    have fu0 := fun d os => cell_regrown u0 d os
                    have fu1 := fun d os => cell_regrown u1 d os
                    go_wp2_with fail
                    refine wp_region_quiet_below (by kernel_rfl) (by kernel_rfl) ?_; (repeat (first | go_big_quiet_step (fail) | quiet_step (fail))); refine wpQuiet_nil ?_; intro _ hw'; obtain ⟨⟨nq, osq⟩, hw''⟩ := hw'; subst hw''; have hq := below_regrown w1 nq osq; generalize Sort.grow (redrawn w1 nq) osq = w3 at *
                    have hw3 : Below w.heap.size w w3 := hw1.trans (hq.mono (by omega))
                    clear hw2
                    go_wp2
                    go_ret
                    exact ⟨by simp, hw3⟩
                · have hi2 : (e.index == b + 1) = false := by simpa using hi1
                  have HI1 := Lib.hid hi1
                  clear hi1
                  rw [hi2]
                  go_enter Try.func21, Try.ntmps21
                  go_wp2_with (first | (go_at_call 56; refine (l1In_any _ _ _ _).mono ?_; rintro e2 w2 ⟨rfl, rfl⟩) | (go_at_call 57; refine (sTimeOk_any _ _).mono ?_; rintro e2 w2 ⟨rfl, rfl⟩))
                  (with_reducible refine (HO.out _ (h.below (B := w.heap.size) (by (repeat' (first | with_reducible exact Below.refl _ _ | with_reducible assumption | with_reducible refine Below.drew ?_ | with_reducible refine Below.alloc ?_ ?_ _ | with_reducible refine Below.setCell ?_ ?_ _ | with_reducible refine Below.trans ?_ (Below.mono (by assumption) ?_) | ((try simp only [World.heap_size_alloc, World.heap_size_drew, World.heap_size_setCell]); omega)))) hhi)).mono ?_); rintro _ w1 ⟨rfl, b1⟩
                  have y1 := b1.size
                  simp only [World.heap_size_alloc] at y1
                  have hw1 : Below w.heap.size w w1 := by (repeat' (first | with_reducible exact Below.refl _ _ | with_reducible assumption | with_reducible refine Below.drew ?_ | with_reducible refine Below.alloc ?_ ?_ _ | with_reducible refine Below.setCell ?_ ?_ _ | with_reducible refine Below.trans ?_ (Below.mono (by assumption) ?_) | ((try simp only [World.heap_size_alloc, World.heap_size_drew, World.heap_size_setCell]); omega)))
                  have v0 : w1.cell? ⟨w.heap.size, 0, none⟩ = some (.int .i64 b) := (b1.cell (p := ⟨w.heap.size, 0, none⟩) (by (try simp only [World.heap_size_alloc, World.heap_size_drew, World.heap_size_setCell]); omega)).trans (by simp)
                  have fv0 := fun d os => cell_regrown v0 d os
                  have v1 : w1.cell? ⟨w.heap.size, 1, none⟩ = some (.int .i64 t) := (b1.cell (p := ⟨w.heap.size, 1, none⟩) (by (try simp only [World.heap_size_alloc, World.heap_size_drew, World.heap_size_setCell]); omega)).trans (by simp)
                  have fv1 := fun d os => cell_regrown v1 d os
                  have v2 : w1.cell? ⟨w.heap.size, 2, none⟩ = some (.slice (some ⟨g, off, none⟩) n c) := (b1.cell (p := ⟨w.heap.size, 2, none⟩) (by (try simp only [World.heap_size_alloc, World.heap_size_drew, World.heap_size_setCell]); omega)).trans (by simp)
                  have fv2 := fun d os => cell_regrown v2 d os
                  have u0 := (hw1.cell (p := ⟨g, off, none⟩) hgw).trans p0
                  have u1 := (hw1.cell (p := ⟨g, off + 1, none⟩) hgw).trans p1
                  have fu0 := fun d os => cell_regrown u0 d os
                  have fu1 := fun d os => cell_regrown u1 d os
                  go_wp2_with fail
                  refine wp_region_quiet_below (by kernel_rfl) (by kernel_rfl) ?_; (repeat (first | go_big_quiet_step (fail) | quiet_step (fail))); refine wpQuiet_nil ?_; intro _ hw'; obtain ⟨⟨nq, osq⟩, hw''⟩ := hw'; subst hw''; have hq := below_regrown w1 nq osq; generalize Sort.grow (redrawn w1 nq) osq = w3 at *
                  have hw3 : Below w.heap.size w w3 := hw1.trans (hq.mono (by omega))
                  clear hw2
                  go_wp2
                  go_ret
                  exact ⟨by simp, hw3⟩
set_option maxRecDepth 100000 in
set_option maxHeartbeats 4000000 in
theorem bookOk_any (b t : Int) (A : Option Addr) (n c lo hi : Nat) (l : List EntryD) (w : World) (h : Sl w lo hi 9 A n c (l.flatMap EntryD.ints)) :
    Calls Try.prog 22 #[.agg #[.int .i64 b, .int .i64 t, .slice A n c]] w (BoolRes w (bookOk b t l)) := by
  have hn : n ≤ 9223372036854775807 := Nat.le_trans h.cap h.big
  have hl : l.length = n := h.count EntryD.ints_len (by omega)
  replace h := h.fit (by omega)
  have hhi : min hi w.heap.size ≤ w.heap.size := Nat.min_le_right _ _
  generalize min hi w.heap.size = hi at h hhi
  cases hB : btw b 0 2000 with
  | false =>
    have e0 : bookOk b t l = false := by simp [bookOk, hB]
    rw [e0]
    clear e0 h hl
    go_enter Try.func22, Try.ntmps22
    go_wp2_with (first | (go_at_call 59; refine (between_any _ _ _ _).mono ?_; rintro e2 w2 ⟨rfl, rfl⟩) | (go_at_call 60; refine (timeOk_any _ _).mono ?_; rintro e2 w2 ⟨rfl, rfl⟩))
    go_ret
    exact ⟨rfl, by (repeat' (first | with_reducible exact Below.refl _ _ | with_reducible assumption | with_reducible refine Below.drew ?_ | with_reducible refine Below.alloc ?_ ?_ _ | with_reducible refine Below.setCell ?_ ?_ _ | with_reducible refine Below.trans ?_ (Below.mono (by assumption) ?_) | ((try simp only [World.heap_size_alloc, World.heap_size_drew, World.heap_size_setCell]); omega)))⟩
  | true =>
    cases hT : btw t 0 1000000 with
    | false =>
      have e0 : bookOk b t l = false := by simp [bookOk, hB, hT]
      rw [e0]
      clear e0 h hl
      go_enter Try.func22, Try.ntmps22
      go_wp2_with (first | (go_at_call 59; refine (between_any _ _ _ _).mono ?_; rintro e2 w2 ⟨rfl, rfl⟩) | (go_at_call 60; refine (timeOk_any _ _).mono ?_; rintro e2 w2 ⟨rfl, rfl⟩))
      go_ret
      exact ⟨rfl, by (repeat' (first | with_reducible exact Below.refl _ _ | with_reducible assumption | with_reducible refine Below.drew ?_ | with_reducible refine Below.alloc ?_ ?_ _ | with_reducible refine Below.setCell ?_ ?_ _ | with_reducible refine Below.trans ?_ (Below.mono (by assumption) ?_) | ((try simp only [World.heap_size_alloc, World.heap_size_drew, World.heap_size_setCell]); omega)))⟩
    | true =>
      have hb2 := btw_iff.1 hB
      obtain ⟨hb0, hb1⟩ := hb2
      by_cases hZ : b = 0 ∧ t ≠ 0
      · obtain ⟨rfl, hz⟩ := hZ
        have hz1 : (t != 0) = true := by simpa using hz
        have e0 : bookOk 0 t l = false := by simp [bookOk, hz]
        rw [e0]
        clear e0 h hl hz
        go_enter Try.func22, Try.ntmps22
        go_wp2_with (first | (go_at_call 59; refine (between_any _ _ _ _).mono ?_; rintro e2 w2 ⟨rfl, rfl⟩) | (go_at_call 60; refine (timeOk_any _ _).mono ?_; rintro e2 w2 ⟨rfl, rfl⟩))
        go_ret
        exact ⟨rfl, by (repeat' (first | with_reducible exact Below.refl _ _ | with_reducible assumption | with_reducible refine Below.drew ?_ | with_reducible refine Below.alloc ?_ ?_ _ | with_reducible refine Below.setCell ?_ ?_ _ | with_reducible refine Below.trans ?_ (Below.mono (by assumption) ?_) | ((try simp only [World.heap_size_alloc, World.heap_size_drew, World.heap_size_setCell]); omega)))⟩
      · have hz9 : bookOk b t l = (decide (l.length ≤ 20) && (entriesOk l && bookHead b t l)) := by
          have : (b == 0 && t != 0) = false := by
            cases hc : (b == 0 && t != 0) with
            | false => rfl
            | true => simp at hc; exact absurd hc hZ
          simp [bookOk, hB, hT, this]
        rw [hz9]
        have hz1 : Hid (b = 0 → t = 0) := Lib.hid (fun h1 => Classical.byContradiction fun h2 => hZ ⟨h1, h2⟩)
        clear hz9 hZ
        by_cases hb9 : b = 0
        · have ht9 := hz1.out hb9
          have hb8 : (b == 0) = true := by simpa using hb9
          have ht8 : (t != 0) = false := by simpa using ht9
          clear hz1 hb9 ht9
          rcases Nat.lt_or_ge 20 n with hlong | hshort
          · have e0 : decide (l.length ≤ 20) = false := by simp; omega
            rw [e0]
            clear e0 h hl
            go_enter Try.func22, Try.ntmps22
            go_wp2_with (first | (go_at_call 59; refine (between_any _ _ _ _).mono ?_; rintro e2 w2 ⟨rfl, rfl⟩) | (go_at_call 60; refine (timeOk_any _ _).mono ?_; rintro e2 w2 ⟨rfl, rfl⟩))
            go_ret
            exact ⟨rfl, by (repeat' (first | with_reducible exact Below.refl _ _ | with_reducible assumption | with_reducible refine Below.drew ?_ | with_reducible refine Below.alloc ?_ ?_ _ | with_reducible refine Below.setCell ?_ ?_ _ | with_reducible refine Below.trans ?_ (Below.mono (by assumption) ?_) | ((try simp only [World.heap_size_alloc, World.heap_size_drew, World.heap_size_setCell]); omega)))⟩
          · have e0 : decide (l.length ≤ 20) = true := by simp; omega
            rw [e0]
            clear e0
            cases hE : entriesOk l with
            | false =>
              have CO : ∀ W, Sl W lo hi 9 A n c (l.flatMap EntryD.ints) → Calls Try.prog 61 #[.slice A n c] W fun x w' => x = .returned (.bool false) ∧ Below W.heap.size W w' := fun W s => by
                have h7 := entriesOk_any A n c lo hi l W s
                rw [hE] at h7
                exact h7
              have HO := Lib.hid CO
              clear CO
              clear hl hE
              go_enter Try.func22, Try.ntmps22
              go_wp2_with (first | (go_at_call 59; refine (between_any _ _ _ _).mono ?_; rintro e2 w2 ⟨rfl, rfl⟩) | (go_at_call 60; refine (timeOk_any _ _).mono ?_; rintro e2 w2 ⟨rfl, rfl⟩))
              (with_reducible refine (HO.out _ (h.below (B := w.heap.size) (by (repeat' (first | with_reducible exact Below.refl _ _ | with_reducible assumption | with_reducible refine Below.drew ?_ | with_reducible refine Below.alloc ?_ ?_ _ | with_reducible refine Below.setCell ?_ ?_ _ | with_reducible refine Below.trans ?_ (Below.mono (by assumption) ?_) | ((try simp only [World.heap_size_alloc, World.heap_size_drew, World.heap_size_setCell]); omega)))) hhi)).mono ?_); rintro _ w1 ⟨rfl, b1⟩
              go_wp2_with fail
              go_ret
              exact ⟨rfl, by (repeat' (first | with_reducible exact Below.refl _ _ | with_reducible assumption | with_reducible refine Below.drew ?_ | with_reducible refine Below.alloc ?_ ?_ _ | with_reducible refine Below.setCell ?_ ?_ _ | with_reducible refine Below.trans ?_ (Below.mono (by assumption) ?_) | ((try simp only [World.heap_size_alloc, World.heap_size_drew, World.heap_size_setCell]); omega)))⟩
            | true =>
              have CO : ∀ W, Sl W lo hi 9 A n c (l.flatMap EntryD.ints) → Calls Try.prog 61 #[.slice A n c] W fun x w' => x = .returned (.bool true) ∧ Below W.heap.size W w' := fun W s => by
                have h7 := entriesOk_any A n c lo hi l W s
                rw [hE] at h7
                exact h7
              have HO := Lib.hid CO
              clear CO
              clear hE
              rcases Nat.eq_zero_or_pos n with rfl | hpos
              · obtain rfl : l = [] := List.eq_nil_of_length_eq_zero hl
                go_enter Try.func22, Try.ntmps22
                go_wp2_with (first | (go_at_call 59; refine (between_any _ _ _ _).mono ?_; rintro e2 w2 ⟨rfl, rfl⟩) | (go_at_call 60; refine (timeOk_any _ _).mono ?_; rintro e2 w2 ⟨rfl, rfl⟩))
                (with_reducible refine (HO.out _ (h.below (B := w.heap.size) (by (repeat' (first | with_reducible exact Below.refl _ _ | with_reducible assumption | with_reducible refine Below.drew ?_ | with_reducible refine Below.alloc ?_ ?_ _ | with_reducible refine Below.setCell ?_ ?_ _ | with_reducible refine Below.trans ?_ (Below.mono (by assumption) ?_) | ((try simp only [World.heap_size_alloc, World.heap_size_drew, World.heap_size_setCell]); omega)))) hhi)).mono ?_); rintro _ w1 ⟨rfl, b1⟩
                have y1 := b1.size
                simp only [World.heap_size_alloc] at y1
                have hw1 : Below w.heap.size w w1 := by (repeat' (first | with_reducible exact Below.refl _ _ | with_reducible assumption | with_reducible refine Below.drew ?_ | with_reducible refine Below.alloc ?_ ?_ _ | with_reducible refine Below.setCell ?_ ?_ _ | with_reducible refine Below.trans ?_ (Below.mono (by assumption) ?_) | ((try simp only [World.heap_size_alloc, World.heap_size_drew, World.heap_size_setCell]); omega)))
                have v0 : w1.cell? ⟨w.heap.size, 0, none⟩ = some (.int .i64 b) := (b1.cell (p := ⟨w.heap.size, 0, none⟩) (by (try simp only [World.heap_size_alloc, World.heap_size_drew, World.heap_size_setCell]); omega)).trans (by simp)
                have fv0 := fun d os => cell_regrown v0 d os
                have v1 : w1.cell? ⟨w.heap.size, 1, none⟩ = some (.int .i64 t) := (b1.cell (p := ⟨w.heap.size, 1, none⟩) (by (try simp only [World.heap_size_alloc, World.heap_size_drew, World.heap_size_setCell]); omega)).trans (by simp)
                have fv1 := fun d os => cell_regrown v1 d os
                have v2 : w1.cell? ⟨w.heap.size, 2, none⟩ = some (.slice A 0 c) := (b1.cell (p := ⟨w.heap.size, 2, none⟩) (by (try simp only [World.heap_size_alloc, World.heap_size_drew, World.heap_size_setCell]); omega)).trans (by simp)
                have fv2 := fun d os => cell_regrown v2 d os
                go_wp2_with fail
                refine wp_region_quiet_below (by kernel_rfl) (by kernel_rfl) ?_; (repeat (first | go_big_quiet_step (fail) | quiet_step (fail))); refine wpQuiet_nil ?_; intro _ hw'; obtain ⟨⟨nq, osq⟩, hw''⟩ := hw'; subst hw''; have hq := below_regrown w1 nq osq; generalize Sort.grow (redrawn w1 nq) osq = w3 at *
                have hw3 : Below w.heap.size w w3 := hw1.trans (hq.mono (by omega))
                go_wp2
                go_ret
                exact ⟨rfl, hw3⟩
              · obtain ⟨g, off, e, rfl, _, hg, he, p0, p1, _⟩ := h.entry hpos
                have hgw : g < w.heap.size := by omega
                simp only [Nat.zero_mul, Nat.add_zero] at p0 p1
                have hbh : bookHead b t l = ((e.index == b + 1) && decide (t ≤ e.time)) := bookHead_at he
                have hn0 : ((n : Int) == 0) = false := by simp; omega
                have hi0 : (0 : Int) < (n : Int) := by omega
                have hw2 : IntKind.i64.wrap (b + 1) = b + 1 := IntWalk.i64_in _ (by omega)
                rw [hbh]
                clear hbh he hl
                by_cases hi1 : e.index = b + 1
                · have hi2 : (e.index == b + 1) = true := by simpa using hi1
                  have HI1 := Lib.hid hi1
                  clear hi1
                  rw [hi2]
                  by_cases ht : t ≤ e.time
                  · have ht2 : decide (t ≤ e.time) = true := by simpa using ht
                    rw [ht2]
                    go_enter Try.func22, Try.ntmps22
                    go_wp2_with (first | (go_at_call 59; refine (between_any _ _ _ _).mono ?_; rintro e2 w2 ⟨rfl, rfl⟩) | (go_at_call 60; refine (timeOk_any _ _).mono ?_; rintro e2 w2 ⟨rfl, rfl⟩))
                    (with_reducible refine (HO.out _ (h.below (B := w.heap.size) (by (repeat' (first | with_reducible exact Below.refl _ _ | with_reducible assumption | with_reducible refine Below.drew ?_ | with_reducible refine Below.alloc ?_ ?_ _ | with_reducible refine Below.setCell ?_ ?_ _ | with_reducible refine Below.trans ?_ (Below.mono (by assumption) ?_) | ((try simp only [World.heap_size_alloc, World.heap_size_drew, World.heap_size_setCell]); omega)))) hhi)).mono ?_); rintro _ w1 ⟨rfl, b1⟩
                    have y1 := b1.size
                    simp only [World.heap_size_alloc] at y1
                    have hw1 : Below w.heap.size w w1 := by (repeat' (first | with_reducible exact Below.refl _ _ | with_reducible assumption | with_reducible refine Below.drew ?_ | with_reducible refine Below.alloc ?_ ?_ _ | with_reducible refine Below.setCell ?_ ?_ _ | with_reducible refine Below.trans ?_ (Below.mono (by assumption) ?_) | ((try simp only [World.heap_size_alloc, World.heap_size_drew, World.heap_size_setCell]); omega)))
                    have v0 : w1.cell? ⟨w.heap.size, 0, none⟩ = some (.int .i64 b) := (b1.cell (p := ⟨w.heap.size, 0, none⟩) (by (try simp only [World.heap_size_alloc, World.heap_size_drew, World.heap_size_setCell]); omega)).trans (by simp)
                    have fv0 := fun d os => cell_regrown v0 d os
                    have v1 : w1.cell? ⟨w.heap.size, 1, none⟩ = some (.int .i64 t) := (b1.cell (p := ⟨w.heap.size, 1, none⟩) (by (try simp only [World.heap_size_alloc, World.heap_size_drew, World.heap_size_setCell]); omega)).trans (by simp)
                    have fv1 := fun d os => cell_regrown v1 d os
                    have v2 : w1.cell? ⟨w.heap.size, 2, none⟩ = some (.slice (some ⟨g, off, none⟩) n c) := (b1.cell (p := ⟨w.heap.size, 2, none⟩) (by (try simp only [World.heap_size_alloc, World.heap_size_drew, World.heap_size_setCell]); omega)).trans (by simp)
                    have fv2 := fun d os => cell_regrown v2 d os
                    have u0 := (hw1.cell (p := ⟨g, off, none⟩) hgw).trans p0
                    have u1 := (hw1.cell (p := ⟨g, off + 1, none⟩) hgw).trans p1
                    have fu0 := fun d os => cell_regrown u0 d os
                    have fu1 := fun d os => cell_regrown u1 d os
                    go_wp2_with fail
                    refine wp_region_quiet_below (by kernel_rfl) (by kernel_rfl) ?_; (repeat (first | go_big_quiet_step (fail) | quiet_step (fail))); refine wpQuiet_nil ?_; intro _ hw'; obtain ⟨⟨nq, osq⟩, hw''⟩ := hw'; subst hw''; have hq := below_regrown w1 nq osq; generalize Sort.grow (redrawn w1 nq) osq = w3 at *
                    have hw3 : Below w.heap.size w w3 := hw1.trans (hq.mono (by omega))
                    clear hw2
                    go_wp2
                    go_ret
                    exact ⟨by simp, hw3⟩
                  · have ht2 : decide (t ≤ e.time) = false := by simpa using ht
                    rw [ht2]
                    go_enter Try.func22, Try.ntmps22
                    go_wp2_with (first | (go_at_call 59; refine (between_any _ _ _ _).mono ?_; rintro e2 w2 ⟨rfl, rfl⟩) | (go_at_call 60; refine (timeOk_any _ _).mono ?_; rintro e2 w2 ⟨rfl, rfl⟩))
                    (with_reducible refine (HO.out _ (h.below (B := w.heap.size) (by (repeat' (first | with_reducible exact Below.refl _ _ | with_reducible assumption | with_reducible refine Below.drew ?_ | with_reducible refine Below.alloc ?_ ?_ _ | with_reducible refine Below.setCell ?_ ?_ _ | with_reducible refine Below.trans ?_ (Below.mono (by assumption) ?_) | ((try simp only [World.heap_size_alloc, World.heap_size_drew, World.heap_size_setCell]); omega)))) hhi)).mono ?_); rintro _ w1 ⟨rfl, b1⟩
                    have y1 := b1.size
                    simp only [World.heap_size_alloc] at y1
                    have hw1 : Below w.heap.size w w1 := by (repeat' (first | with_reducible exact Below.refl _ _ | with_reducible assumption | with_reducible refine Below.drew ?_ | with_reducible refine Below.alloc ?_ ?_ _ | with_reducible refine Below.setCell ?_ ?_ _ | with_reducible refine Below.trans ?_ (Below.mono (by assumption) ?_) | ((try simp only [World.heap_size_alloc, World.heap_size_drew, World.heap_size_setCell]); omega)))
                    have v0 : w1.cell? ⟨w.heap.size, 0, none⟩ = some (.int .i64 b) := (b1.cell (p := ⟨w.heap.size, 0, none⟩) (by (try simp only [World.heap_size_alloc, World.heap_size_drew, World.heap_size_setCell]); omega)).trans (by simp)
                    have fv0 := fun d os => cell_regrown v0 d os
                    have v1 : w1.cell? ⟨w.heap.size, 1, none⟩ = some (.int .i64 t) := (b1.cell (p := ⟨w.heap.size, 1, none⟩) (by (try simp only [World.heap_size_alloc, World.heap_size_drew, World.heap_size_setCell]); omega)).trans (by simp)
                    have fv1 := fun d os => cell_regrown v1 d os
                    have v2 : w1.cell? ⟨w.heap.size, 2, none⟩ = some (.slice (some ⟨g, off, none⟩) n c) := (b1.cell (p := ⟨w.heap.size, 2, none⟩) (by (try simp only [World.heap_size_alloc, World.heap_size_drew, World.heap_size_setCell]); omega)).trans (by simp)
                    have fv2 := fun d os => cell_regrown v2 d os
                    have u0 := (hw1.cell (p := ⟨g, off, none⟩) hgw).trans p0
                    have u1 := (hw1.cell (p := ⟨g, off + 1, none⟩) hgw).trans p1
                    have fu0 := fun d os => cell_regrown u0 d os
                    have fu1 := fun d os => cell_regrown u1 d os
                    go_wp2_with fail
                    refine wp_region_quiet_below (by kernel_rfl) (by kernel_rfl) ?_; (repeat (first | go_big_quiet_step (fail) | quiet_step (fail))); refine wpQuiet_nil ?_; intro _ hw'; obtain ⟨⟨nq, osq⟩, hw''⟩ := hw'; subst hw''; have hq := below_regrown w1 nq osq; generalize Sort.grow (redrawn w1 nq) osq = w3 at *
                    have hw3 : Below w.heap.size w w3 := hw1.trans (hq.mono (by omega))
                    clear hw2
                    go_wp2
                    go_ret
                    exact ⟨by simp, hw3⟩
                · have hi2 : (e.index == b + 1) = false := by simpa using hi1
                  have HI1 := Lib.hid hi1
                  clear hi1
                  rw [hi2]
                  go_enter Try.func22, Try.ntmps22
                  go_wp2_with (first | (go_at_call 59; refine (between_any _ _ _ _).mono ?_; rintro e2 w2 ⟨rfl, rfl⟩) | (go_at_call 60; refine (timeOk_any _ _).mono ?_; rintro e2 w2 ⟨rfl, rfl⟩))
                  (with_reducible refine (HO.out _ (h.below (B := w.heap.size) (by (repeat' (first | with_reducible exact Below.refl _ _ | with_reducible assumption | with_reducible refine Below.drew ?_ | with_reducible refine Below.alloc ?_ ?_ _ | with_reducible refine Below.setCell ?_ ?_ _ | with_reducible refine Below.trans ?_ (Below.mono (by assumption) ?_) | ((try simp only [World.heap_size_alloc, World.heap_size_drew, World.heap_size_setCell]); omega)))) hhi)).mono ?_); rintro _ w1 ⟨rfl, b1⟩
                  have y1 := b1.size
                  simp only [World.heap_size_alloc] at y1
                  have hw1 : Below w.heap.size w w1 := by (repeat' (first | with_reducible exact Below.refl _ _ | with_reducible assumption | with_reducible refine Below.drew ?_ | with_reducible refine Below.alloc ?_ ?_ _ | with_reducible refine Below.setCell ?_ ?_ _ | with_reducible refine Below.trans ?_ (Below.mono (by assumption) ?_) | ((try simp only [World.heap_size_alloc, World.heap_size_drew, World.heap_size_setCell]); omega)))
                  have v0 : w1.cell? ⟨w.heap.size, 0, none⟩ = some (.int .i64 b) := (b1.cell (p := ⟨w.heap.size, 0, none⟩) (by (try simp only [World.heap_size_alloc, World.heap_size_drew, World.heap_size_setCell]); omega)).trans (by simp)
                  have fv0 := fun d os => cell_regrown v0 d os
                  have v1 : w1.cell? ⟨w.heap.size, 1, none⟩ = some (.int .i64 t) := (b1.cell (p := ⟨w.heap.size, 1, none⟩) (by (try simp only [World.heap_size_alloc, World.heap_size_drew, World.heap_size_setCell]); omega)).trans (by simp)
                  have fv1 := fun d os => cell_regrown v1 d os
                  have v2 : w1.cell? ⟨w.heap.size, 2, none⟩ = some (.slice (some ⟨g, off, none⟩) n c) := (b1.cell (p := ⟨w.heap.size, 2, none⟩) (by (try simp only [World.heap_size_alloc, World.heap_size_drew, World.heap_size_setCell]); omega)).trans (by simp)
                  have fv2 := fun d os => cell_regrown v2 d os
                  have u0 := (hw1.cell (p := ⟨g, off, none⟩) hgw).trans p0
                  have u1 := (hw1.cell (p := ⟨g, off + 1, none⟩) hgw).trans p1
                  have fu0 := fun d os => cell_regrown u0 d os
                  have fu1 := fun d os => cell_regrown u1 d os
                  go_wp2_with fail
                  refine wp_region_quiet_below (by kernel_rfl) (by kernel_rfl) ?_; (repeat (first | go_big_quiet_step (fail) | quiet_step (fail))); refine wpQuiet_nil ?_; intro _ hw'; obtain ⟨⟨nq, osq⟩, hw''⟩ := hw'; subst hw''; have hq := below_regrown w1 nq osq; generalize Sort.grow (redrawn w1 nq) osq = w3 at *
                  have hw3 : Below w.heap.size w w3 := hw1.trans (hq.mono (by omega))
                  clear hw2
                  go_wp2
                  go_ret
                  exact ⟨by simp, hw3⟩
        · have hb8 : (b == 0) = false := by simpa using hb9
          clear hz1 hb9
          rcases Nat.lt_or_ge 20 n with hlong | hshort
          · have e0 : decide (l.length ≤ 20) = false := by simp; omega
            rw [e0]
            clear e0 h hl
            go_enter Try.func22, Try.ntmps22
            go_wp2_with (first | (go_at_call 59; refine (between_any _ _ _ _).mono ?_; rintro e2 w2 ⟨rfl, rfl⟩) | (go_at_call 60; refine (timeOk_any _ _).mono ?_; rintro e2 w2 ⟨rfl, rfl⟩))
            go_ret
            exact ⟨rfl, by (repeat' (first | with_reducible exact Below.refl _ _ | with_reducible assumption | with_reducible refine Below.drew ?_ | with_reducible refine Below.alloc ?_ ?_ _ | with_reducible refine Below.setCell ?_ ?_ _ | with_reducible refine Below.trans ?_ (Below.mono (by assumption) ?_) | ((try simp only [World.heap_size_alloc, World.heap_size_drew, World.heap_size_setCell]); omega)))⟩
          · have e0 : decide (l.length ≤ 20) = true := by simp; omega
            rw [e0]
            clear e0
            cases hE : entriesOk l with
            | false =>
              have CO : ∀ W, Sl W lo hi 9 A n c (l.flatMap EntryD.ints) → Calls Try.prog 61 #[.slice A n c] W fun x w' => x = .returned (.bool false) ∧ Below W.heap.size W w' := fun W s => by
                have h7 := entriesOk_any A n c lo hi l W s
                rw [hE] at h7
                exact h7
              have HO := Lib.hid CO
              clear CO
              clear hl hE
              go_enter Try.func22, Try.ntmps22
              go_wp2_with (first | (go_at_call 59; refine (between_any _ _ _ _).mono ?_; rintro e2 w2 ⟨rfl, rfl⟩) | (go_at_call 60; refine (timeOk_any _ _).mono ?_; rintro e2 w2 ⟨rfl, rfl⟩))
              (with_reducible refine (HO.out _ (h.below (B := w.heap.size) (by (repeat' (first | with_reducible exact Below.refl _ _ | with_reducible assumption | with_reducible refine Below.drew ?_ | with_reducible refine Below.alloc ?_ ?_ _ | with_reducible refine Below.setCell ?_ ?_ _ | with_reducible refine Below.trans ?_ (Below.mono (by assumption) ?_) | ((try simp only [World.heap_size_alloc, World.heap_size_drew, World.heap_size_setCell]); omega)))) hhi)).mono ?_); rintro _ w1 ⟨rfl, b1⟩
              go_wp2_with fail
              go_ret
              exact ⟨rfl, by (repeat' (first | with_reducible exact Below.refl _ _ | with_reducible assumption | with_reducible refine Below.drew ?_ | with_reducible refine Below.alloc ?_ ?_ _ | with_reducible refine Below.setCell ?_ ?_ _ | with_reducible refine Below.trans ?_ (Below.mono (by assumption) ?_) | ((try simp only [World.heap_size_alloc, World.heap_size_drew, World.heap_size_setCell]); omega)))⟩
            | true =>
              have CO : ∀ W, Sl W lo hi 9 A n c (l.flatMap EntryD.ints) → Calls Try.prog 61 #[.slice A n c] W fun x w' => x = .returned (.bool true) ∧ Below W.heap.size W w' := fun W s => by
                have h7 := entriesOk_any A n c lo hi l W s
                rw [hE] at h7
                exact h7
              have HO := Lib.hid CO
              clear CO
              clear hE
              rcases Nat.eq_zero_or_pos n with rfl | hpos
              · obtain rfl : l = [] := List.eq_nil_of_length_eq_zero hl
                go_enter Try.func22, Try.ntmps22
                go_wp2_with (first | (go_at_call 59; refine (between_any _ _ _ _).mono ?_; rintro e2 w2 ⟨rfl, rfl⟩) | (go_at_call 60; refine (timeOk_any _ _).mono ?_; rintro e2 w2 ⟨rfl, rfl⟩))
                (with_reducible refine (HO.out _ (h.below (B := w.heap.size) (by (repeat' (first | with_reducible exact Below.refl _ _ | with_reducible assumption | with_reducible refine Below.drew ?_ | with_reducible refine Below.alloc ?_ ?_ _ | with_reducible refine Below.setCell ?_ ?_ _ | with_reducible refine Below.trans ?_ (Below.mono (by assumption) ?_) | ((try simp only [World.heap_size_alloc, World.heap_size_drew, World.heap_size_setCell]); omega)))) hhi)).mono ?_); rintro _ w1 ⟨rfl, b1⟩
                have y1 := b1.size
                simp only [World.heap_size_alloc] at y1
                have hw1 : Below w.heap.size w w1 := by (repeat' (first | with_reducible exact Below.refl _ _ | with_reducible assumption | with_reducible refine Below.drew ?_ | with_reducible refine Below.alloc ?_ ?_ _ | with_reducible refine Below.setCell ?_ ?_ _ | with_reducible refine Below.trans ?_ (Below.mono (by assumption) ?_) | ((try simp only [World.heap_size_alloc, World.heap_size_drew, World.heap_size_setCell]); omega)))
                have v0 : w1.cell? ⟨w.heap.size, 0, none⟩ = some (.int .i64 b) := (b1.cell (p := ⟨w.heap.size, 0, none⟩) (by (try simp only [World.heap_size_alloc, World.heap_size_drew, World.heap_size_setCell]); omega)).trans (by simp)
                have fv0 := fun d os => cell_regrown v0 d os
                have v1 : w1.cell? ⟨w.heap.size, 1, none⟩ = some (.int .i64 t) := (b1.cell (p := ⟨w.heap.size, 1, none⟩) (by (try simp only [World.heap_size_alloc, World.heap_size_drew, World.heap_size_setCell]); omega)).trans (by simp)
                have fv1 := fun d os => cell_regrown v1 d os
                have v2 : w1.cell? ⟨w.heap.size, 2, none⟩ = some (.slice A 0 c) := (b1.cell (p := ⟨w.heap.size, 2, none⟩) (by (try simp only [World.heap_size_alloc, World.heap_size_drew, World.heap_size_setCell]); omega)).trans (by simp)
                have fv2 := fun d os => cell_regrown v2 d os
                go_wp2_with fail
                refine wp_region_quiet_below (by kernel_rfl) (by kernel_rfl) ?_; (repeat (first | go_big_quiet_step (fail) | quiet_step (fail))); refine wpQuiet_nil ?_; intro _ hw'; obtain ⟨⟨nq, osq⟩, hw''⟩ := hw'; subst hw''; have hq := below_regrown w1 nq osq; generalize Sort.grow (redrawn w1 nq) osq = w3 at *
                have hw3 : Below w.heap.size w w3 := hw1.trans (hq.mono (by omega))
                go_wp2
                go_ret
                exact ⟨rfl, hw3⟩
              · obtain ⟨g, off, e, rfl, _, hg, he, p0, p1, _⟩ := h.entry hpos
                have hgw : g < w.heap.size := by omega
                simp only [Nat.zero_mul, Nat.add_zero] at p0 p1
                have hbh : bookHead b t l = ((e.index == b + 1) && decide (t ≤ e.time)) := bookHead_at he
                have hn0 : ((n : Int) == 0) = false := by simp; omega
                have hi0 : (0 : Int) < (n : Int) := by omega
                have hw2 : IntKind.i64.wrap (b + 1) = b + 1 := IntWalk.i64_in _ (by omega)
                rw [hbh]
                clear hbh he hl
                by_cases hi1 : e.index = b + 1
                · have hi2 : (e.index == b + 1) = true := by simpa using hi1
                  have HI1 := Lib.hid hi1
                  clear hi1
                  rw [hi2]
                  by_cases ht : t ≤ e.time
                  · have ht2 : decide (t ≤ e.time) = true := by simpa using ht
                    rw [ht2]
                    go_enter Try.func22, Try.ntmps22
                    go_wp2_with (first | (go_at_call 59; refine (between_any _ _ _ _).mono ?_; rintro e2 w2 ⟨rfl, rfl⟩) | (go_at_call 60; refine (timeOk_any _ _).mono ?_; rintro e2 w2 ⟨rfl, rfl⟩))
                    (with_reducible refine (HO.out _ (h.below (B := w.heap.size) (by (repeat' (first | with_reducible exact Below.refl _ _ | with_reducible assumption | with_reducible refine Below.drew ?_ | with_reducible refine Below.alloc ?_ ?_ _ | with_reducible refine Below.setCell ?_ ?_ _ | with_reducible refine Below.trans ?_ (Below.mono (by assumption) ?_) | ((try simp only [World.heap_size_alloc, World.heap_size_drew, World.heap_size_setCell]); omega)))) hhi)).mono ?_); rintro _ w1 ⟨rfl, b1⟩
                    have y1 := b1.size
                    simp only [World.heap_size_alloc] at y1
                    have hw1 : Below w.heap.size w w1 := by (repeat' (first | with_reducible exact Below.refl _ _ | with_reducible assumption | with_reducible refine Below.drew ?_ | with_reducible refine Below.alloc ?_ ?_ _ | with_reducible refine Below.setCell ?_ ?_ _ | with_reducible refine Below.trans ?_ (Below.mono (by assumption) ?_) | ((try simp only [World.heap_size_alloc, World.heap_size_drew, World.heap_size_setCell]); omega)))
                    have v0 : w1.cell? ⟨w.heap.size, 0, none⟩ = some (.int .i64 b) := (b1.cell (p := ⟨w.heap.size, 0, none⟩) (by (try simp only [World.heap_size_alloc, World.heap_size_drew, World.heap_size_setCell]); omega)).trans (by simp)
                    have fv0 := fun d os => cell_regrown v0 d os
                    have v1 : w1.cell? ⟨w.heap.size, 1, none⟩ = some (.int .i64 t) := (b1.cell (p := ⟨w.heap.size, 1, none⟩) (by (try simp only [World.heap_size_alloc, World.heap_size_drew, World.heap_size_setCell]); omega)).trans (by simp)
                    have fv1 := fun d os => cell_regrown v1 d os
                    have v2 : w1.cell? ⟨w.heap.size, 2, none⟩ = some (.slice (some ⟨g, off, none⟩) n c) := (b1.cell (p := ⟨w.heap.size, 2, none⟩) (by (try simp only [World.heap_size_alloc, World.heap_size_drew, World.heap_size_setCell]); omega)).trans (by simp)
                    have fv2 := fun d os => cell_regrown v2 d os
                    have u0 := (hw1.cell (p := ⟨g, off, none⟩) hgw).trans p0
                    have u1 := (hw1.cell (p := ⟨g, off + 1, none⟩) hgw).trans p1
                    have fu0 := fun d os => cell_regrown u0 d os
                    have fu1 := fun d os => cell_regrown u1 d os
                    go_wp2_with fail
                    refine wp_region_quiet_below (by kernel_rfl) (by kernel_rfl) ?_; (repeat (first | go_big_quiet_step (fail) | quiet_step (fail))); refine wpQuiet_nil ?_; intro _ hw'; obtain ⟨⟨nq, osq⟩, hw''⟩ := hw'; subst hw''; have hq := below_regrown w1 nq osq; generalize Sort.grow (redrawn w1 nq) osq = w3 at *
                    have hw3 : Below w.heap.size w w3 := hw1.trans (hq.mono (by omega))
                    clear hw2
                    go_wp2
                    go_ret
                    exact ⟨by simp, hw3⟩
                  · have ht2 : decide (t ≤ e.time) = false := by simpa using ht
                    rw [ht2]
                    go_enter Try.func22, Try.ntmps22
                    go_wp2_with (first | (go_at_call 59; refine (between_any _ _ _ _).mono ?_; rintro e2 w2 ⟨rfl, rfl⟩) | (go_at_call 60; refine (timeOk_any _ _).mono ?_; rintro e2 w2 ⟨rfl, rfl⟩))
                    (with_reducible refine (HO.out _ (h.below (B := w.heap.size) (by (repeat' (first | with_reducible exact Below.refl _ _ | with_reducible assumption | with_reducible refine Below.drew ?_ | with_reducible refine Below.alloc ?_ ?_ _ | with_reducible refine Below.setCell ?_ ?_ _ | with_reducible refine Below.trans ?_ (Below.mono (by assumption) ?_) | ((try simp only [World.heap_size_alloc, World.heap_size_drew, World.heap_size_setCell]); omega)))) hhi)).mono ?_); rintro _ w1 ⟨rfl, b1⟩
                    have y1 := b1.size
                    simp only [World.heap_size_alloc] at y1
                    have hw1 : Below w.heap.size w w1 := by (repeat' (first | with_reducible exact Below.refl _ _ | with_reducible assumption | with_reducible refine Below.drew ?_ | with_reducible refine Below.alloc ?_ ?_ _ | with_reducible refine Below.setCell ?_ ?_ _ | with_reducible refine Below.trans ?_ (Below.mono (by assumption) ?_) | ((try simp only [World.heap_size_alloc, World.heap_size_drew, World.heap_size_setCell]); omega)))
                    have v0 : w1.cell? ⟨w.heap.size, 0, none⟩ = some (.int .i64 b) := (b1.cell (p := ⟨w.heap.size, 0, none⟩) (by (try simp only [World.heap_size_alloc, World.heap_size_drew, World.heap_size_setCell]); omega)).trans (by simp)
                    have fv0 := fun d os => cell_regrown v0 d os
                    have v1 : w1.cell? ⟨w.heap.size, 1, none⟩ = some (.int .i64 t) := (b1.cell (p := ⟨w.heap.size, 1, none⟩) (by (try simp only [World.heap_size_alloc, World.heap_size_drew, World.heap_size_setCell]); omega)).trans (by simp)
                    have fv1 := fun d os => cell_regrown v1 d os
                    have v2 : w1.cell? ⟨w.heap.size, 2, none⟩ = some (.slice (some ⟨g, off, none⟩) n c) := (b1.cell (p := ⟨w.heap.size, 2, none⟩) (by (try simp only [World.heap_size_alloc, World.heap_size_drew, World.heap_size_setCell]); omega)).trans (by simp)
                    have fv2 := fun d os => cell_regrown v2 d os
                    have u0 := (hw1.cell (p := ⟨g, off, none⟩) hgw).trans p0
                    have u1 := (hw1.cell (p := ⟨g, off + 1, none⟩) hgw).trans p1
                    have fu0 := fun d os => cell_regrown u0 d os
                    have fu1 := fun d os => cell_regrown u1 d os
                    go_wp2_with fail
                    refine wp_region_quiet_below (by kernel_rfl) (by kernel_rfl) ?_; (repeat (first | go_big_quiet_step (fail) | quiet_step (fail))); refine wpQuiet_nil ?_; intro _ hw'; obtain ⟨⟨nq, osq⟩, hw''⟩ := hw'; subst hw''; have hq := below_regrown w1 nq osq; generalize Sort.grow (redrawn w1 nq) osq = w3 at *
                    have hw3 : Below w.heap.size w w3 := hw1.trans (hq.mono (by omega))
                    clear hw2
                    go_wp2
                    go_ret
                    exact ⟨by simp, hw3⟩
                · have hi2 : (e.index == b + 1) = false := by simpa using hi1
                  have HI1 := Lib.hid hi1
                  clear hi1
                  rw [hi2]
                  go_enter Try.func22, Try.ntmps22
                  go_wp2_with (first | (go_at_call 59; refine (between_any _ _ _ _).mono ?_; rintro e2 w2 ⟨rfl, rfl⟩) | (go_at_call 60; refine (timeOk_any _ _).mono ?_; rintro e2 w2 ⟨rfl, rfl⟩))
                  (with_reducible refine (HO.out _ (h.below (B := w.heap.size) (by (repeat' (first | with_reducible exact Below.refl _ _ | with_reducible assumption | with_reducible refine Below.drew ?_ | with_reducible refine Below.alloc ?_ ?_ _ | with_reducible refine Below.setCell ?_ ?_ _ | with_reducible refine Below.trans ?_ (Below.mono (by assumption) ?_) | ((try simp only [World.heap_size_alloc, World.heap_size_drew, World.heap_size_setCell]); omega)))) hhi)).mono ?_); rintro _ w1 ⟨rfl, b1⟩
                  have y1 := b1.size
                  simp only [World.heap_size_alloc] at y1
                  have hw1 : Below w.heap.size w w1 := by (repeat' (first | with_reducible exact Below.refl _ _ | with_reducible assumption | with_reducible refine Below.drew ?_ | with_reducible refine Below.alloc ?_ ?_ _ | with_reducible refine Below.setCell ?_ ?_ _ | with_reducible refine Below.trans ?_ (Below.mono (by assumption) ?_) | ((try simp only [World.heap_size_alloc, World.heap_size_drew, World.heap_size_setCell]); omega)))
                  have v0 : w1.cell? ⟨w.heap.size, 0, none⟩ = some (.int .i64 b) := (b1.cell (p := ⟨w.heap.size, 0, none⟩) (by (try simp only [World.heap_size_alloc, World.heap_size_drew, World.heap_size_setCell]); omega)).trans (by simp)
                  have fv0 := fun d os => cell_regrown v0 d os
                  have v1 : w1.cell? ⟨w.heap.size, 1, none⟩ = some (.int .i64 t) := (b1.cell (p := ⟨w.heap.size, 1, none⟩) (by (try simp only [World.heap_size_alloc, World.heap_size_drew, World.heap_size_setCell]); omega)).trans (by simp)
                  have fv1 := fun d os => cell_regrown v1 d os
                  have v2 : w1.cell? ⟨w.heap.size, 2, none⟩ = some (.slice (some ⟨g, off, none⟩) n c) := (b1.cell (p := ⟨w.heap.size, 2, none⟩) (by (try simp only [World.heap_size_alloc, World.heap_size_drew, World.heap_size_setCell]); omega)).trans (by simp)
                  have fv2 := fun d os => cell_regrown v2 d os
                  have u0 := (hw1.cell (p := ⟨g, off, none⟩) hgw).trans p0
                  have u1 := (hw1.cell (p := ⟨g, off + 1, none⟩) hgw).trans p1
                  have fu0 := fun d os => cell_regrown u0 d os
                  have fu1 := fun d os => cell_regrown u1 d os
                  go_wp2_with fail
                  refine wp_region_quiet_below (by kernel_rfl) (by kernel_rfl) ?_; (repeat (first | go_big_quiet_step (fail) | quiet_step (fail))); refine wpQuiet_nil ?_; intro _ hw'; obtain ⟨⟨nq, osq⟩, hw''⟩ := hw'; subst hw''; have hq := below_regrown w1 nq osq; generalize Sort.grow (redrawn w1 nq) osq = w3 at *
                  have hw3 : Below w.heap.size w w3 := hw1.trans (hq.mono (by omega))
                  clear hw2
                  go_wp2
                  go_ret
                  exact ⟨by simp, hw3⟩

end Go.Proofs.Ytijefbmnhcecmaa
