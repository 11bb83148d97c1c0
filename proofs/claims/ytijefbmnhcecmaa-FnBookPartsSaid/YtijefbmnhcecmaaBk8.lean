/- Books: trimmed to an index, the program's function. No conditions. -/
import Derived.Test.YtijefbmnhcecmaaBk7
set_option linter.unusedSimpArgs false
set_option linter.unusedVariables false
namespace Go.Proofs.Ytijefbmnhcecmaa
open Go.RowKit

theorem Sl.tailS {α : Type} {f : α → List Int} {k : Nat} {w : World} {lo hi g off : Nat} {n c j : Nat} {l : List α} (h : Sl w lo hi k (some ⟨g, off, none⟩) n c (l.flatMap f)) (hk : ∀ x, (f x).length = k) (hj : j < n) : Sl w lo hi k (some ⟨g, off + j * k, none⟩) (n - j) (c - j) ((l.drop j).flatMap f) := by
  have hl := h.len
  have hc := h.cap
  have hb := h.big
  refine ⟨?_, by omega, by omega, fun hj0 => ?_⟩
  · rw [flat_drop hk, List.length_drop, hl, Nat.sub_mul]
  · obtain ⟨g', off', e, h1, h2, h3⟩ := h.lie (by omega)
    injection e with e
    injection e with e1 e2
    subst e1
    subst e2
    refine ⟨g, off + j * k, rfl, h1, h2, ?_⟩
    rw [flat_drop hk]
    intro i z hz
    rw [List.getElem?_drop] at hz
    have := h3 (j * k + i) z hz
    rw [← Nat.add_assoc] at this
    exact this
set_option maxRecDepth 100000 in
set_option maxHeartbeats 2000000 in
theorem trimmedTo_any (b t : Int) (A : Option Addr) (n c lo hi : Nat) (l : List EntryD) (x : Int) (w : World) (h : Sl w lo hi 9 A n c (l.flatMap EntryD.ints)) :
    Calls Try.prog 40 #[.agg #[.int .i64 b, .int .i64 t, .slice A n c], .int .i64 x] w (BookBRes w (trimmedTo b t l x).1 (trimmedTo b t l x).2.1 (trimmedTo b t l x).2.2.1.length ((trimmedTo b t l x).2.2.1.flatMap EntryD.ints) (trimmedTo b t l x).2.2.2) := by
  have HL := Lib.hid (h.count EntryD.ints_len (by omega) : l.length = n)
  replace h := h.fit (by omega)
  have hhi : min hi w.heap.size ≤ w.heap.size := Nat.min_le_right _ _
  generalize min hi w.heap.size = hi at h hhi
  cases hok : bookOk b t l with
  | false =>
    have e0 : trimmedTo b t l x = (0, 0, [], false) := by simp [trimmedTo, hok]
    rw [e0]
    clear e0
    have CO : ∀ W, Sl W lo hi 9 A n c (l.flatMap EntryD.ints) → Calls Try.prog 22 #[.agg #[.int .i64 b, .int .i64 t, .slice A n c]] W fun x w' => x = .returned (.bool false) ∧ Below W.heap.size W w' := fun W s => by
      have h7 := bookOk_any b t A n c lo hi l W s
      rw [hok] at h7
      exact h7
    have HO := Lib.hid CO
    clear CO
    clear hok
    go_enter Try.func40, Try.ntmps40
    go_wp2_with fail
    (with_reducible refine (HO.out _ (h.below (B := w.heap.size) (by (repeat' (first | with_reducible exact Below.refl _ _ | with_reducible assumption | with_reducible refine Below.drew ?_ | with_reducible refine Below.alloc ?_ ?_ _ | with_reducible refine Below.setCell ?_ ?_ _ | with_reducible refine Below.trans ?_ (Below.mono (by assumption) ?_) | ((try simp only [World.heap_size_alloc, World.heap_size_drew, World.heap_size_setCell]); omega)))) hhi)).mono ?_); rintro _ w1 ⟨rfl, b1⟩
    have y1 := b1.size
    (try simp only [World.heap_size_alloc] at y1)
    have hw1 : Below w.heap.size w w1 := by (repeat' (first | with_reducible exact Below.refl _ _ | with_reducible assumption | with_reducible refine Below.drew ?_ | with_reducible refine Below.alloc ?_ ?_ _ | with_reducible refine Below.setCell ?_ ?_ _ | with_reducible refine Below.trans ?_ (Below.mono (by assumption) ?_) | ((try simp only [World.heap_size_alloc, World.heap_size_drew, World.heap_size_setCell]); omega)))
    have m0 : w1.cell? ⟨w.heap.size + 1, 0, none⟩ = some (.int .i64 0) := (b1.cell (p := ⟨w.heap.size + 1, 0, none⟩) (by (try simp only [World.heap_size_alloc, World.heap_size_drew, World.heap_size_setCell]); omega)).trans (by simp)
    have f0 : w1.frozen? ⟨w.heap.size + 1, 0, none⟩ = false := (b1.frozen (p := ⟨w.heap.size + 1, 0, none⟩) (by (try simp only [World.heap_size_alloc, World.heap_size_drew, World.heap_size_setCell]); omega)).trans (by simp)
    have m1 : w1.cell? ⟨w.heap.size + 1, 1, none⟩ = some (.int .i64 0) := (b1.cell (p := ⟨w.heap.size + 1, 1, none⟩) (by (try simp only [World.heap_size_alloc, World.heap_size_drew, World.heap_size_setCell]); omega)).trans (by simp)
    have f1 : w1.frozen? ⟨w.heap.size + 1, 1, none⟩ = false := (b1.frozen (p := ⟨w.heap.size + 1, 1, none⟩) (by (try simp only [World.heap_size_alloc, World.heap_size_drew, World.heap_size_setCell]); omega)).trans (by simp)
    have m2 : w1.cell? ⟨w.heap.size + 1, 2, none⟩ = some (.slice none 0 0) := (b1.cell (p := ⟨w.heap.size + 1, 2, none⟩) (by (try simp only [World.heap_size_alloc, World.heap_size_drew, World.heap_size_setCell]); omega)).trans (by simp)
    have f2 : w1.frozen? ⟨w.heap.size + 1, 2, none⟩ = false := (b1.frozen (p := ⟨w.heap.size + 1, 2, none⟩) (by (try simp only [World.heap_size_alloc, World.heap_size_drew, World.heap_size_setCell]); omega)).trans (by simp)
    go_wp2_with fail
    refine bodyPost_ret (v := .tuple #[.agg #[.int .i64 0, .int .i64 0, .slice none 0 0], .bool false]) (by simp [results, Try.results40, go_sem, m0, m1, m2]) rfl ⟨none, 0, rfl, Sl.nil _ _ _ _ _ _ (by omega), ?_⟩
    exact hw1.trans (by (repeat' (first | with_reducible exact Below.refl _ _ | with_reducible assumption | with_reducible refine Below.drew ?_ | with_reducible refine Below.alloc ?_ ?_ _ | with_reducible refine Below.setCell ?_ ?_ _ | with_reducible refine Below.trans ?_ (Below.mono (by assumption) ?_) | ((try simp only [World.heap_size_alloc, World.heap_size_drew, World.heap_size_setCell]); omega))))
  | true =>
    cases hbt : btw x b (b + (n : Int)) with
    | false =>
      have e0 : trimmedTo b t l x = (b, t, l, false) := by simp [trimmedTo, hok, HL.out, hbt]
      rw [e0]
      clear e0
      show Calls _ _ _ _ (BookBRes w b t l.length (l.flatMap EntryD.ints) false)
      rw [HL.out]
      obtain ⟨q0, q1, q2, q3, q4, _⟩ := bookOk_facts hok
      rw [HL.out] at q4
      have HLA := Lib.hid (fun W => lastOf_any b t A n c W q0 q1 q4)
      have CO : ∀ W, Sl W lo hi 9 A n c (l.flatMap EntryD.ints) → Calls Try.prog 22 #[.agg #[.int .i64 b, .int .i64 t, .slice A n c]] W fun x w' => x = .returned (.bool true) ∧ Below W.heap.size W w' := fun W s => by
        have h7 := bookOk_any b t A n c lo hi l W s
        rw [hok] at h7
        exact h7
      have HO := Lib.hid CO
      clear CO
      have HCP := Lib.hid (fun W s => copyBook_any b t A n c lo hi l W s (by omega))
      have CB : ∀ W, Calls Try.prog 59 #[.int .i64 x, .int .i64 b, .int .i64 (b + (n : Int))] W fun y w' => y = .returned (.bool false) ∧ Below W.heap.size W w' := fun W => (between_any x b (b + (n : Int)) W).mono fun y w' ⟨h1, h2⟩ => ⟨by rw [h1, hbt], by rw [← h2]; exact Below.refl _ _⟩
      have HBT := Lib.hid CB
      clear CB
      clear hok hbt
      go_enter Try.func40, Try.ntmps40
      go_wp2_with fail
      (with_reducible refine (HO.out _ (h.below (B := w.heap.size) (by (repeat' (first | with_reducible exact Below.refl _ _ | with_reducible assumption | with_reducible refine Below.drew ?_ | with_reducible refine Below.alloc ?_ ?_ _ | with_reducible refine Below.setCell ?_ ?_ _ | with_reducible refine Below.trans ?_ (Below.mono (by assumption) ?_) | ((try simp only [World.heap_size_alloc, World.heap_size_drew, World.heap_size_setCell]); omega)))) hhi)).mono ?_); rintro _ w1 ⟨rfl, b1⟩
      have y1 := b1.size
      (try simp only [World.heap_size_alloc] at y1)
      have hw1 : Below w.heap.size w w1 := by (repeat' (first | with_reducible exact Below.refl _ _ | with_reducible assumption | with_reducible refine Below.drew ?_ | with_reducible refine Below.alloc ?_ ?_ _ | with_reducible refine Below.setCell ?_ ?_ _ | with_reducible refine Below.trans ?_ (Below.mono (by assumption) ?_) | ((try simp only [World.heap_size_alloc, World.heap_size_drew, World.heap_size_setCell]); omega)))
      have ab0 : w1.cell? ⟨w.heap.size, 0, none⟩ = some (.int .i64 b) := (b1.cell (p := ⟨w.heap.size, 0, none⟩) (by (try simp only [World.heap_size_alloc, World.heap_size_drew, World.heap_size_setCell]); omega)).trans (by simp)
      have ab1 : w1.cell? ⟨w.heap.size, 1, none⟩ = some (.int .i64 t) := (b1.cell (p := ⟨w.heap.size, 1, none⟩) (by (try simp only [World.heap_size_alloc, World.heap_size_drew, World.heap_size_setCell]); omega)).trans (by simp)
      have ab2 : w1.cell? ⟨w.heap.size, 2, none⟩ = some (.slice A n c) := (b1.cell (p := ⟨w.heap.size, 2, none⟩) (by (try simp only [World.heap_size_alloc, World.heap_size_drew, World.heap_size_setCell]); omega)).trans (by simp)
      have am0 : w1.cell? ⟨w.heap.size + 1, 0, none⟩ = some (.int .i64 0) := (b1.cell (p := ⟨w.heap.size + 1, 0, none⟩) (by (try simp only [World.heap_size_alloc, World.heap_size_drew, World.heap_size_setCell]); omega)).trans (by simp)
      have am1 : w1.cell? ⟨w.heap.size + 1, 1, none⟩ = some (.int .i64 0) := (b1.cell (p := ⟨w.heap.size + 1, 1, none⟩) (by (try simp only [World.heap_size_alloc, World.heap_size_drew, World.heap_size_setCell]); omega)).trans (by simp)
      have am2 : w1.cell? ⟨w.heap.size + 1, 2, none⟩ = some (.slice none 0 0) := (b1.cell (p := ⟨w.heap.size + 1, 2, none⟩) (by (try simp only [World.heap_size_alloc, World.heap_size_drew, World.heap_size_setCell]); omega)).trans (by simp)
      have az0 : w1.frozen? ⟨w.heap.size + 1, 0, none⟩ = false := (b1.frozen (p := ⟨w.heap.size + 1, 0, none⟩) (by (try simp only [World.heap_size_alloc, World.heap_size_drew, World.heap_size_setCell]); omega)).trans (by simp)
      have az1 : w1.frozen? ⟨w.heap.size + 1, 1, none⟩ = false := (b1.frozen (p := ⟨w.heap.size + 1, 1, none⟩) (by (try simp only [World.heap_size_alloc, World.heap_size_drew, World.heap_size_setCell]); omega)).trans (by simp)
      have az2 : w1.frozen? ⟨w.heap.size + 1, 2, none⟩ = false := (b1.frozen (p := ⟨w.heap.size + 1, 2, none⟩) (by (try simp only [World.heap_size_alloc, World.heap_size_drew, World.heap_size_setCell]); omega)).trans (by simp)
      go_wp2_with fail
      (with_reducible refine (HCP.out _ (h.below hw1 hhi)).mono ?_); rintro _ w2 ⟨A2, c2, rfl, s2, b2⟩
      have y2 := b2.size
      have hz1 : w.heap.size + 1 < w1.heap.size := by omega
      have hw2 : Below w.heap.size w w2 := hw1.trans (b2.mono (by omega))
      have cb0 : (w2.alloc (.cells #[.int .i64 b, .int .i64 t, .slice A2 n c2] 29)).cell? ⟨w.heap.size, 0, none⟩ = some (.int .i64 b) := (World.cell?_alloc_lt _ _ _ (show w.heap.size < w2.heap.size by omega)).trans ((b2.cell (p := ⟨w.heap.size, 0, none⟩) (show w.heap.size < w1.heap.size by omega)).trans ab0)
      have fcb0 := fun d os => cell_regrown cb0 d os
      have cb1 : (w2.alloc (.cells #[.int .i64 b, .int .i64 t, .slice A2 n c2] 29)).cell? ⟨w.heap.size, 1, none⟩ = some (.int .i64 t) := (World.cell?_alloc_lt _ _ _ (show w.heap.size < w2.heap.size by omega)).trans ((b2.cell (p := ⟨w.heap.size, 1, none⟩) (show w.heap.size < w1.heap.size by omega)).trans ab1)
      have fcb1 := fun d os => cell_regrown cb1 d os
      have cb2 : (w2.alloc (.cells #[.int .i64 b, .int .i64 t, .slice A2 n c2] 29)).cell? ⟨w.heap.size, 2, none⟩ = some (.slice A n c) := (World.cell?_alloc_lt _ _ _ (show w.heap.size < w2.heap.size by omega)).trans ((b2.cell (p := ⟨w.heap.size, 2, none⟩) (show w.heap.size < w1.heap.size by omega)).trans ab2)
      have fcb2 := fun d os => cell_regrown cb2 d os
      have S2 := Lib.hid s2
      clear s2
      go_wp2_with fail
      refine wp_region_quiet_below (by kernel_rfl) (by kernel_rfl) ?_; (repeat (first | go_big_quiet_step ((first | (go_at_call 63; exact Calls.regrown_of (HLA.out _)) | (go_at_call 59; exact Calls.regrown_of (HBT.out _)))) | quiet_step ((first | (go_at_call 63; exact Calls.regrown_of (HLA.out _)) | (go_at_call 59; exact Calls.regrown_of (HBT.out _)))))); refine wpQuiet_nil ?_; intro _ hw'; obtain ⟨⟨nq, osq⟩, hw''⟩ := hw'; subst hw''; have hq := below_regrown (w2.alloc (.cells #[.int .i64 b, .int .i64 t, .slice A2 n c2] 29)) nq osq; generalize Sort.grow (redrawn (w2.alloc (.cells #[.int .i64 b, .int .i64 t, .slice A2 n c2] 29)) nq) osq = w3 at *
      have y3 := hq.size
      simp only [World.heap_size_alloc] at y3
      have hw3 : Below w.heap.size w w3 := hw2.trans (((Below.refl _ _).alloc (by omega) _).trans (hq.mono (by (try simp only [World.heap_size_alloc, World.heap_size_drew, World.heap_size_setCell]); omega)))
      have db0 : w3.cell? ⟨w.heap.size, 0, none⟩ = some (.int .i64 b) := (hq.cell (p := ⟨w.heap.size, 0, none⟩) (by (try simp only [World.heap_size_alloc, World.heap_size_drew, World.heap_size_setCell]); omega)).trans cb0
      have db1 : w3.cell? ⟨w.heap.size, 1, none⟩ = some (.int .i64 t) := (hq.cell (p := ⟨w.heap.size, 1, none⟩) (by (try simp only [World.heap_size_alloc, World.heap_size_drew, World.heap_size_setCell]); omega)).trans cb1
      have db2 : w3.cell? ⟨w.heap.size, 2, none⟩ = some (.slice A n c) := (hq.cell (p := ⟨w.heap.size, 2, none⟩) (by (try simp only [World.heap_size_alloc, World.heap_size_drew, World.heap_size_setCell]); omega)).trans cb2
      have dm0 : w3.cell? ⟨w.heap.size + 1, 0, none⟩ = some (.int .i64 0) := (hq.cell (p := ⟨w.heap.size + 1, 0, none⟩) (by (try simp only [World.heap_size_alloc, World.heap_size_drew, World.heap_size_setCell]); omega)).trans ((World.cell?_alloc_lt _ _ _ (show w.heap.size + 1 < w2.heap.size by omega)).trans ((b2.cell (p := ⟨w.heap.size + 1, 0, none⟩) (show w.heap.size + 1 < w1.heap.size by omega)).trans am0))
      have dm1 : w3.cell? ⟨w.heap.size + 1, 1, none⟩ = some (.int .i64 0) := (hq.cell (p := ⟨w.heap.size + 1, 1, none⟩) (by (try simp only [World.heap_size_alloc, World.heap_size_drew, World.heap_size_setCell]); omega)).trans ((World.cell?_alloc_lt _ _ _ (show w.heap.size + 1 < w2.heap.size by omega)).trans ((b2.cell (p := ⟨w.heap.size + 1, 1, none⟩) (show w.heap.size + 1 < w1.heap.size by omega)).trans am1))
      have dm2 : w3.cell? ⟨w.heap.size + 1, 2, none⟩ = some (.slice none 0 0) := (hq.cell (p := ⟨w.heap.size + 1, 2, none⟩) (by (try simp only [World.heap_size_alloc, World.heap_size_drew, World.heap_size_setCell]); omega)).trans ((World.cell?_alloc_lt _ _ _ (show w.heap.size + 1 < w2.heap.size by omega)).trans ((b2.cell (p := ⟨w.heap.size + 1, 2, none⟩) (show w.heap.size + 1 < w1.heap.size by omega)).trans am2))
      have dz0 : w3.frozen? ⟨w.heap.size + 1, 0, none⟩ = false := (hq.frozen (p := ⟨w.heap.size + 1, 0, none⟩) (by (try simp only [World.heap_size_alloc, World.heap_size_drew, World.heap_size_setCell]); omega)).trans ((frozen_alloc_lt _ _ (p := ⟨w.heap.size + 1, 0, none⟩) (show w.heap.size + 1 < w2.heap.size by omega)).trans ((b2.frozen (p := ⟨w.heap.size + 1, 0, none⟩) (show w.heap.size + 1 < w1.heap.size by omega)).trans az0))
      have dz1 : w3.frozen? ⟨w.heap.size + 1, 1, none⟩ = false := (hq.frozen (p := ⟨w.heap.size + 1, 1, none⟩) (by (try simp only [World.heap_size_alloc, World.heap_size_drew, World.heap_size_setCell]); omega)).trans ((frozen_alloc_lt _ _ (p := ⟨w.heap.size + 1, 1, none⟩) (show w.heap.size + 1 < w2.heap.size by omega)).trans ((b2.frozen (p := ⟨w.heap.size + 1, 1, none⟩) (show w.heap.size + 1 < w1.heap.size by omega)).trans az1))
      have dz2 : w3.frozen? ⟨w.heap.size + 1, 2, none⟩ = false := (hq.frozen (p := ⟨w.heap.size + 1, 2, none⟩) (by (try simp only [World.heap_size_alloc, World.heap_size_drew, World.heap_size_setCell]); omega)).trans ((frozen_alloc_lt _ _ (p := ⟨w.heap.size + 1, 2, none⟩) (show w.heap.size + 1 < w2.heap.size by omega)).trans ((b2.frozen (p := ⟨w.heap.size + 1, 2, none⟩) (show w.heap.size + 1 < w1.heap.size by omega)).trans az2))
      have e0 : w3.cell? ⟨w2.heap.size, 0, none⟩ = some (.int .i64 b) := (hq.cell (p := ⟨w2.heap.size, 0, none⟩) (by (try simp only [World.heap_size_alloc, World.heap_size_drew, World.heap_size_setCell]); omega)).trans (by simp)
      have ez0 : w3.frozen? ⟨w2.heap.size, 0, none⟩ = false := (hq.frozen (p := ⟨w2.heap.size, 0, none⟩) (by (try simp only [World.heap_size_alloc, World.heap_size_drew, World.heap_size_setCell]); omega)).trans (by simp)
      have e1 : w3.cell? ⟨w2.heap.size, 1, none⟩ = some (.int .i64 t) := (hq.cell (p := ⟨w2.heap.size, 1, none⟩) (by (try simp only [World.heap_size_alloc, World.heap_size_drew, World.heap_size_setCell]); omega)).trans (by simp)
      have ez1 : w3.frozen? ⟨w2.heap.size, 1, none⟩ = false := (hq.frozen (p := ⟨w2.heap.size, 1, none⟩) (by (try simp only [World.heap_size_alloc, World.heap_size_drew, World.heap_size_setCell]); omega)).trans (by simp)
      have e2 : w3.cell? ⟨w2.heap.size, 2, none⟩ = some (.slice A2 n c2) := (hq.cell (p := ⟨w2.heap.size, 2, none⟩) (by (try simp only [World.heap_size_alloc, World.heap_size_drew, World.heap_size_setCell]); omega)).trans (by simp)
      have ez2 : w3.frozen? ⟨w2.heap.size, 2, none⟩ = false := (hq.frozen (p := ⟨w2.heap.size, 2, none⟩) (by (try simp only [World.heap_size_alloc, World.heap_size_drew, World.heap_size_setCell]); omega)).trans (by simp)
      clear ab0 ab1 ab2 am0 am1 am2 az0 az1 az2 cb0 fcb0 cb1 fcb1 cb2 fcb2
      go_wp2
      have S3 := S2.out.below (B := w2.heap.size) (w' := w3) (((Below.refl _ _).alloc (Nat.le_refl _) _).trans (hq.mono (by (try simp only [World.heap_size_alloc, World.heap_size_drew, World.heap_size_setCell]); omega))) (Nat.le_refl _)
      refine bodyPost_ret (v := .tuple #[.agg #[.int .i64 b, .int .i64 t, .slice A2 n c2], .bool false]) (by simp [results, Try.results40, go_sem, dm0, dm1, dm2, e0, e1, e2]) rfl ⟨A2, c2, rfl, ?_, ?_⟩
      · refine Sl.mono (Sl.upd (lo' := w.heap.size + 1) (hi' := w.heap.size + 2) S3 ?_ (.inr (by omega))) (by omega) (by (try simp only [World.heap_size_alloc, World.heap_size_drew, World.heap_size_setCell]); omega)
        (repeat' (first | with_reducible exact Upd.refl _ _ _ | with_reducible assumption | with_reducible refine Upd.drew ?_ | with_reducible refine Upd.alloc ?_ _ | with_reducible refine Upd.setCell ?_ ?_ ?_ _ | (simp only []; omega) | omega))
      · have c9 := hw3
        (repeat' (first | with_reducible exact Below.refl _ _ | with_reducible assumption | with_reducible refine Below.drew ?_ | with_reducible refine Below.alloc ?_ ?_ _ | with_reducible refine Below.setCell ?_ ?_ _ | with_reducible refine Below.trans ?_ (Below.mono (by assumption) ?_) | ((try simp only [World.heap_size_alloc, World.heap_size_drew, World.heap_size_setCell]); omega)))
    | true =>
      obtain ⟨xb0, xb1⟩ := btw_iff.1 hbt
      obtain ⟨j, hj⟩ := Int.eq_ofNat_of_zero_le (show 0 ≤ x - b by omega)
      have hjn : j ≤ n := by omega
      have hlj : (l.drop j).length = n - j := by rw [List.length_drop, HL.out]
      have e0 : trimmedTo b t l x = (x, timeAt b t l x, l.drop j, true) := by
        have : (x - b).toNat = j := by omega
        simp [trimmedTo, hok, HL.out, hbt, this]
      rw [e0]
      clear e0
      show Calls _ _ _ _ (BookBRes w x (timeAt b t l x) (l.drop j).length ((l.drop j).flatMap EntryD.ints) true)
      rw [hlj]
      obtain ⟨q0, q1, q2, q3, q4, _⟩ := bookOk_facts hok
      rw [HL.out] at q4
      have HLA := Lib.hid (fun W => lastOf_any b t A n c W q0 q1 q4)
      have CO : ∀ W, Sl W lo hi 9 A n c (l.flatMap EntryD.ints) → Calls Try.prog 22 #[.agg #[.int .i64 b, .int .i64 t, .slice A n c]] W fun x w' => x = .returned (.bool true) ∧ Below W.heap.size W w' := fun W s => by
        have h7 := bookOk_any b t A n c lo hi l W s
        rw [hok] at h7
        exact h7
      have HO := Lib.hid CO
      clear CO
      have HCP := Lib.hid (fun W s => copyBook_any b t A n c lo hi l W s (by omega))
      have CB : ∀ W, Calls Try.prog 59 #[.int .i64 x, .int .i64 b, .int .i64 (b + (n : Int))] W fun y w' => y = .returned (.bool true) ∧ Below W.heap.size W w' := fun W => (between_any x b (b + (n : Int)) W).mono fun y w' ⟨h1, h2⟩ => ⟨by rw [h1, hbt], by rw [← h2]; exact Below.refl _ _⟩
      have HBT := Lib.hid CB
      clear CB
      clear hok hbt
      by_cases hj0 : j = 0
      · subst hj0
        have hx1 : b = x := by omega
        clear hj hlj
        subst hx1
        simp only [Nat.sub_zero, List.drop_zero]
        rw [show timeAt b t l b = t from if_pos rfl]
        have hgt : decide (b < b) = false := by simp
        go_enter Try.func40, Try.ntmps40
        go_wp2_with fail
        (with_reducible refine (HO.out _ (h.below (B := w.heap.size) (by (repeat' (first | with_reducible exact Below.refl _ _ | with_reducible assumption | with_reducible refine Below.drew ?_ | with_reducible refine Below.alloc ?_ ?_ _ | with_reducible refine Below.setCell ?_ ?_ _ | with_reducible refine Below.trans ?_ (Below.mono (by assumption) ?_) | ((try simp only [World.heap_size_alloc, World.heap_size_drew, World.heap_size_setCell]); omega)))) hhi)).mono ?_); rintro _ w1 ⟨rfl, b1⟩
        have y1 := b1.size
        (try simp only [World.heap_size_alloc] at y1)
        have hw1 : Below w.heap.size w w1 := by (repeat' (first | with_reducible exact Below.refl _ _ | with_reducible assumption | with_reducible refine Below.drew ?_ | with_reducible refine Below.alloc ?_ ?_ _ | with_reducible refine Below.setCell ?_ ?_ _ | with_reducible refine Below.trans ?_ (Below.mono (by assumption) ?_) | ((try simp only [World.heap_size_alloc, World.heap_size_drew, World.heap_size_setCell]); omega)))
        have ab0 : w1.cell? ⟨w.heap.size, 0, none⟩ = some (.int .i64 b) := (b1.cell (p := ⟨w.heap.size, 0, none⟩) (by (try simp only [World.heap_size_alloc, World.heap_size_drew, World.heap_size_setCell]); omega)).trans (by simp)
        have ab1 : w1.cell? ⟨w.heap.size, 1, none⟩ = some (.int .i64 t) := (b1.cell (p := ⟨w.heap.size, 1, none⟩) (by (try simp only [World.heap_size_alloc, World.heap_size_drew, World.heap_size_setCell]); omega)).trans (by simp)
        have ab2 : w1.cell? ⟨w.heap.size, 2, none⟩ = some (.slice A n c) := (b1.cell (p := ⟨w.heap.size, 2, none⟩) (by (try simp only [World.heap_size_alloc, World.heap_size_drew, World.heap_size_setCell]); omega)).trans (by simp)
        have am0 : w1.cell? ⟨w.heap.size + 1, 0, none⟩ = some (.int .i64 0) := (b1.cell (p := ⟨w.heap.size + 1, 0, none⟩) (by (try simp only [World.heap_size_alloc, World.heap_size_drew, World.heap_size_setCell]); omega)).trans (by simp)
        have am1 : w1.cell? ⟨w.heap.size + 1, 1, none⟩ = some (.int .i64 0) := (b1.cell (p := ⟨w.heap.size + 1, 1, none⟩) (by (try simp only [World.heap_size_alloc, World.heap_size_drew, World.heap_size_setCell]); omega)).trans (by simp)
        have am2 : w1.cell? ⟨w.heap.size + 1, 2, none⟩ = some (.slice none 0 0) := (b1.cell (p := ⟨w.heap.size + 1, 2, none⟩) (by (try simp only [World.heap_size_alloc, World.heap_size_drew, World.heap_size_setCell]); omega)).trans (by simp)
        have az0 : w1.frozen? ⟨w.heap.size + 1, 0, none⟩ = false := (b1.frozen (p := ⟨w.heap.size + 1, 0, none⟩) (by (try simp only [World.heap_size_alloc, World.heap_size_drew, World.heap_size_setCell]); omega)).trans (by simp)
        have az1 : w1.frozen? ⟨w.heap.size + 1, 1, none⟩ = false := (b1.frozen (p := ⟨w.heap.size + 1, 1, none⟩) (by (try simp only [World.heap_size_alloc, World.heap_size_drew, World.heap_size_setCell]); omega)).trans (by simp)
        have az2 : w1.frozen? ⟨w.heap.size + 1, 2, none⟩ = false := (b1.frozen (p := ⟨w.heap.size + 1, 2, none⟩) (by (try simp only [World.heap_size_alloc, World.heap_size_drew, World.heap_size_setCell]); omega)).trans (by simp)
        go_wp2_with fail
        (with_reducible refine (HCP.out _ (h.below hw1 hhi)).mono ?_); rintro _ w2 ⟨A2, c2, rfl, s2, b2⟩
        have y2 := b2.size
        have hz1 : w.heap.size + 1 < w1.heap.size := by omega
        have hw2 : Below w.heap.size w w2 := hw1.trans (b2.mono (by omega))
        have cb0 : (w2.alloc (.cells #[.int .i64 b, .int .i64 t, .slice A2 n c2] 29)).cell? ⟨w.heap.size, 0, none⟩ = some (.int .i64 b) := (World.cell?_alloc_lt _ _ _ (show w.heap.size < w2.heap.size by omega)).trans ((b2.cell (p := ⟨w.heap.size, 0, none⟩) (show w.heap.size < w1.heap.size by omega)).trans ab0)
        have fcb0 := fun d os => cell_regrown cb0 d os
        have cb1 : (w2.alloc (.cells #[.int .i64 b, .int .i64 t, .slice A2 n c2] 29)).cell? ⟨w.heap.size, 1, none⟩ = some (.int .i64 t) := (World.cell?_alloc_lt _ _ _ (show w.heap.size < w2.heap.size by omega)).trans ((b2.cell (p := ⟨w.heap.size, 1, none⟩) (show w.heap.size < w1.heap.size by omega)).trans ab1)
        have fcb1 := fun d os => cell_regrown cb1 d os
        have cb2 : (w2.alloc (.cells #[.int .i64 b, .int .i64 t, .slice A2 n c2] 29)).cell? ⟨w.heap.size, 2, none⟩ = some (.slice A n c) := (World.cell?_alloc_lt _ _ _ (show w.heap.size < w2.heap.size by omega)).trans ((b2.cell (p := ⟨w.heap.size, 2, none⟩) (show w.heap.size < w1.heap.size by omega)).trans ab2)
        have fcb2 := fun d os => cell_regrown cb2 d os
        have S2 := Lib.hid s2
        clear s2
        go_wp2_with fail
        refine wp_region_quiet_below (by kernel_rfl) (by kernel_rfl) ?_; (repeat (first | go_big_quiet_step ((first | (go_at_call 63; exact Calls.regrown_of (HLA.out _)) | (go_at_call 59; exact Calls.regrown_of (HBT.out _)))) | quiet_step ((first | (go_at_call 63; exact Calls.regrown_of (HLA.out _)) | (go_at_call 59; exact Calls.regrown_of (HBT.out _)))))); refine wpQuiet_nil ?_; intro _ hw'; obtain ⟨⟨nq, osq⟩, hw''⟩ := hw'; subst hw''; have hq := below_regrown (w2.alloc (.cells #[.int .i64 b, .int .i64 t, .slice A2 n c2] 29)) nq osq; generalize Sort.grow (redrawn (w2.alloc (.cells #[.int .i64 b, .int .i64 t, .slice A2 n c2] 29)) nq) osq = w3 at *
        have y3 := hq.size
        simp only [World.heap_size_alloc] at y3
        have hw3 : Below w.heap.size w w3 := hw2.trans (((Below.refl _ _).alloc (by omega) _).trans (hq.mono (by (try simp only [World.heap_size_alloc, World.heap_size_drew, World.heap_size_setCell]); omega)))
        have db0 : w3.cell? ⟨w.heap.size, 0, none⟩ = some (.int .i64 b) := (hq.cell (p := ⟨w.heap.size, 0, none⟩) (by (try simp only [World.heap_size_alloc, World.heap_size_drew, World.heap_size_setCell]); omega)).trans cb0
        have db1 : w3.cell? ⟨w.heap.size, 1, none⟩ = some (.int .i64 t) := (hq.cell (p := ⟨w.heap.size, 1, none⟩) (by (try simp only [World.heap_size_alloc, World.heap_size_drew, World.heap_size_setCell]); omega)).trans cb1
        have db2 : w3.cell? ⟨w.heap.size, 2, none⟩ = some (.slice A n c) := (hq.cell (p := ⟨w.heap.size, 2, none⟩) (by (try simp only [World.heap_size_alloc, World.heap_size_drew, World.heap_size_setCell]); omega)).trans cb2
        have dm0 : w3.cell? ⟨w.heap.size + 1, 0, none⟩ = some (.int .i64 0) := (hq.cell (p := ⟨w.heap.size + 1, 0, none⟩) (by (try simp only [World.heap_size_alloc, World.heap_size_drew, World.heap_size_setCell]); omega)).trans ((World.cell?_alloc_lt _ _ _ (show w.heap.size + 1 < w2.heap.size by omega)).trans ((b2.cell (p := ⟨w.heap.size + 1, 0, none⟩) (show w.heap.size + 1 < w1.heap.size by omega)).trans am0))
        have dm1 : w3.cell? ⟨w.heap.size + 1, 1, none⟩ = some (.int .i64 0) := (hq.cell (p := ⟨w.heap.size + 1, 1, none⟩) (by (try simp only [World.heap_size_alloc, World.heap_size_drew, World.heap_size_setCell]); omega)).trans ((World.cell?_alloc_lt _ _ _ (show w.heap.size + 1 < w2.heap.size by omega)).trans ((b2.cell (p := ⟨w.heap.size + 1, 1, none⟩) (show w.heap.size + 1 < w1.heap.size by omega)).trans am1))
        have dm2 : w3.cell? ⟨w.heap.size + 1, 2, none⟩ = some (.slice none 0 0) := (hq.cell (p := ⟨w.heap.size + 1, 2, none⟩) (by (try simp only [World.heap_size_alloc, World.heap_size_drew, World.heap_size_setCell]); omega)).trans ((World.cell?_alloc_lt _ _ _ (show w.heap.size + 1 < w2.heap.size by omega)).trans ((b2.cell (p := ⟨w.heap.size + 1, 2, none⟩) (show w.heap.size + 1 < w1.heap.size by omega)).trans am2))
        have dz0 : w3.frozen? ⟨w.heap.size + 1, 0, none⟩ = false := (hq.frozen (p := ⟨w.heap.size + 1, 0, none⟩) (by (try simp only [World.heap_size_alloc, World.heap_size_drew, World.heap_size_setCell]); omega)).trans ((frozen_alloc_lt _ _ (p := ⟨w.heap.size + 1, 0, none⟩) (show w.heap.size + 1 < w2.heap.size by omega)).trans ((b2.frozen (p := ⟨w.heap.size + 1, 0, none⟩) (show w.heap.size + 1 < w1.heap.size by omega)).trans az0))
        have dz1 : w3.frozen? ⟨w.heap.size + 1, 1, none⟩ = false := (hq.frozen (p := ⟨w.heap.size + 1, 1, none⟩) (by (try simp only [World.heap_size_alloc, World.heap_size_drew, World.heap_size_setCell]); omega)).trans ((frozen_alloc_lt _ _ (p := ⟨w.heap.size + 1, 1, none⟩) (show w.heap.size + 1 < w2.heap.size by omega)).trans ((b2.frozen (p := ⟨w.heap.size + 1, 1, none⟩) (show w.heap.size + 1 < w1.heap.size by omega)).trans az1))
        have dz2 : w3.frozen? ⟨w.heap.size + 1, 2, none⟩ = false := (hq.frozen (p := ⟨w.heap.size + 1, 2, none⟩) (by (try simp only [World.heap_size_alloc, World.heap_size_drew, World.heap_size_setCell]); omega)).trans ((frozen_alloc_lt _ _ (p := ⟨w.heap.size + 1, 2, none⟩) (show w.heap.size + 1 < w2.heap.size by omega)).trans ((b2.frozen (p := ⟨w.heap.size + 1, 2, none⟩) (show w.heap.size + 1 < w1.heap.size by omega)).trans az2))
        have e0 : w3.cell? ⟨w2.heap.size, 0, none⟩ = some (.int .i64 b) := (hq.cell (p := ⟨w2.heap.size, 0, none⟩) (by (try simp only [World.heap_size_alloc, World.heap_size_drew, World.heap_size_setCell]); omega)).trans (by simp)
        have ez0 : w3.frozen? ⟨w2.heap.size, 0, none⟩ = false := (hq.frozen (p := ⟨w2.heap.size, 0, none⟩) (by (try simp only [World.heap_size_alloc, World.heap_size_drew, World.heap_size_setCell]); omega)).trans (by simp)
        have e1 : w3.cell? ⟨w2.heap.size, 1, none⟩ = some (.int .i64 t) := (hq.cell (p := ⟨w2.heap.size, 1, none⟩) (by (try simp only [World.heap_size_alloc, World.heap_size_drew, World.heap_size_setCell]); omega)).trans (by simp)
        have ez1 : w3.frozen? ⟨w2.heap.size, 1, none⟩ = false := (hq.frozen (p := ⟨w2.heap.size, 1, none⟩) (by (try simp only [World.heap_size_alloc, World.heap_size_drew, World.heap_size_setCell]); omega)).trans (by simp)
        have e2 : w3.cell? ⟨w2.heap.size, 2, none⟩ = some (.slice A2 n c2) := (hq.cell (p := ⟨w2.heap.size, 2, none⟩) (by (try simp only [World.heap_size_alloc, World.heap_size_drew, World.heap_size_setCell]); omega)).trans (by simp)
        have ez2 : w3.frozen? ⟨w2.heap.size, 2, none⟩ = false := (hq.frozen (p := ⟨w2.heap.size, 2, none⟩) (by (try simp only [World.heap_size_alloc, World.heap_size_drew, World.heap_size_setCell]); omega)).trans (by simp)
        clear ab0 ab1 ab2 am0 am1 am2 az0 az1 az2 cb0 fcb0 cb1 fcb1 cb2 fcb2
        go_wp2
        have S3 := S2.out.below (B := w2.heap.size) (w' := w3) (((Below.refl _ _).alloc (Nat.le_refl _) _).trans (hq.mono (by (try simp only [World.heap_size_alloc, World.heap_size_drew, World.heap_size_setCell]); omega))) (Nat.le_refl _)
        refine bodyPost_ret (v := .tuple #[.agg #[.int .i64 b, .int .i64 t, .slice A2 n c2], .bool true]) (by simp [results, Try.results40, go_sem, dm0, dm1, dm2, e0, e1, e2]) rfl ⟨A2, c2, rfl, ?_, ?_⟩
        · refine Sl.mono (Sl.upd (lo' := w.heap.size + 1) (hi' := w.heap.size + 2) S3 ?_ (.inr (by omega))) (by omega) (by (try simp only [World.heap_size_alloc, World.heap_size_drew, World.heap_size_setCell]); omega)
          (repeat' (first | with_reducible exact Upd.refl _ _ _ | with_reducible assumption | with_reducible refine Upd.drew ?_ | with_reducible refine Upd.alloc ?_ _ | with_reducible refine Upd.setCell ?_ ?_ ?_ _ | (simp only []; omega) | omega))
        · have c9 := hw3
          (repeat' (first | with_reducible exact Below.refl _ _ | with_reducible assumption | with_reducible refine Below.drew ?_ | with_reducible refine Below.alloc ?_ ?_ _ | with_reducible refine Below.setCell ?_ ?_ _ | with_reducible refine Below.trans ?_ (Below.mono (by assumption) ?_) | ((try simp only [World.heap_size_alloc, World.heap_size_drew, World.heap_size_setCell]); omega)))
      · obtain ⟨q, rfl⟩ : ∃ q, j = q + 1 := ⟨j - 1, by omega⟩
        obtain ⟨g, off, e, rfl, hg0, hg1, he, _, p1, _⟩ := h.entry (show q < n by omega)
        have hgw : g < w.heap.size := by omega
        have htv : timeAt b t l x = e.time := by
          unfold timeAt
          rw [if_neg (by omega), show (x - b - 1).toNat = q by omega, he]
          rfl
        rw [htv]
        generalize e.time = tv at p1 ⊢
        clear htv he
        obtain ⟨j, hjq⟩ : ∃ j, j = q + 1 := ⟨_, rfl⟩
        rw [← hjq] at hlj hjn hj ⊢
        have hx1 : x = b + (j : Int) := by omega
        clear hj
        subst hx1
        have hx2 : b + (j : Int) - b = (j : Int) := by omega
        have hx3 : (j : Int) ≤ (n : Int) := by omega
        have hx4 : (0 : Int) ≤ (j : Int) := by omega
        have hx5 : IntKind.i64.wrap (j : Int) = (j : Int) := IntWalk.i64_in _ (by omega)
        have hx6 : (j : Int) - 1 = (q : Int) := by omega
        have hx7 : IntKind.i64.wrap (q : Int) = (q : Int) := IntWalk.i64_in _ (by omega)
        have hx8 : (q : Int) < (n : Int) := by omega
        have hx9 : (0 : Int) ≤ (q : Int) := by omega
        have hgt : (0 : Int) < (j : Int) := by omega
        have hgt2 : 0 < j := by omega
        have hgt3 : decide (b < b + (j : Int)) = true := by simp; omega
        have hcb : c ≤ 9223372036854775807 := h.big
        have hnc : n ≤ c := h.cap
        have hn20 : n ≤ 20 := q4
        clear hjq
        by_cases hje : j = n
        · have hd0 : l.drop j = [] := List.drop_of_length_le (by rw [HL.out]; omega)
          rw [hd0, show n - j = 0 by omega]
          simp only [List.flatMap_nil]
          clear hd0 hlj
          subst hje
          by_cases hcj : c = j
          · subst hcj
            go_enter Try.func40, Try.ntmps40
            go_wp2_with fail
            (with_reducible refine (HO.out _ (h.below (B := w.heap.size) (by (repeat' (first | with_reducible exact Below.refl _ _ | with_reducible assumption | with_reducible refine Below.drew ?_ | with_reducible refine Below.alloc ?_ ?_ _ | with_reducible refine Below.setCell ?_ ?_ _ | with_reducible refine Below.trans ?_ (Below.mono (by assumption) ?_) | ((try simp only [World.heap_size_alloc, World.heap_size_drew, World.heap_size_setCell]); omega)))) hhi)).mono ?_); rintro _ w1 ⟨rfl, b1⟩
            have y1 := b1.size
            (try simp only [World.heap_size_alloc] at y1)
            have hw1 : Below w.heap.size w w1 := by (repeat' (first | with_reducible exact Below.refl _ _ | with_reducible assumption | with_reducible refine Below.drew ?_ | with_reducible refine Below.alloc ?_ ?_ _ | with_reducible refine Below.setCell ?_ ?_ _ | with_reducible refine Below.trans ?_ (Below.mono (by assumption) ?_) | ((try simp only [World.heap_size_alloc, World.heap_size_drew, World.heap_size_setCell]); omega)))
            have ab0 : w1.cell? ⟨w.heap.size, 0, none⟩ = some (.int .i64 b) := (b1.cell (p := ⟨w.heap.size, 0, none⟩) (by (try simp only [World.heap_size_alloc, World.heap_size_drew, World.heap_size_setCell]); omega)).trans (by simp)
            have ab1 : w1.cell? ⟨w.heap.size, 1, none⟩ = some (.int .i64 t) := (b1.cell (p := ⟨w.heap.size, 1, none⟩) (by (try simp only [World.heap_size_alloc, World.heap_size_drew, World.heap_size_setCell]); omega)).trans (by simp)
            have ab2 : w1.cell? ⟨w.heap.size, 2, none⟩ = some (.slice (some ⟨g, off, none⟩) c c) := (b1.cell (p := ⟨w.heap.size, 2, none⟩) (by (try simp only [World.heap_size_alloc, World.heap_size_drew, World.heap_size_setCell]); omega)).trans (by simp)
            have am0 : w1.cell? ⟨w.heap.size + 1, 0, none⟩ = some (.int .i64 0) := (b1.cell (p := ⟨w.heap.size + 1, 0, none⟩) (by (try simp only [World.heap_size_alloc, World.heap_size_drew, World.heap_size_setCell]); omega)).trans (by simp)
            have am1 : w1.cell? ⟨w.heap.size + 1, 1, none⟩ = some (.int .i64 0) := (b1.cell (p := ⟨w.heap.size + 1, 1, none⟩) (by (try simp only [World.heap_size_alloc, World.heap_size_drew, World.heap_size_setCell]); omega)).trans (by simp)
            have am2 : w1.cell? ⟨w.heap.size + 1, 2, none⟩ = some (.slice none 0 0) := (b1.cell (p := ⟨w.heap.size + 1, 2, none⟩) (by (try simp only [World.heap_size_alloc, World.heap_size_drew, World.heap_size_setCell]); omega)).trans (by simp)
            have az0 : w1.frozen? ⟨w.heap.size + 1, 0, none⟩ = false := (b1.frozen (p := ⟨w.heap.size + 1, 0, none⟩) (by (try simp only [World.heap_size_alloc, World.heap_size_drew, World.heap_size_setCell]); omega)).trans (by simp)
            have az1 : w1.frozen? ⟨w.heap.size + 1, 1, none⟩ = false := (b1.frozen (p := ⟨w.heap.size + 1, 1, none⟩) (by (try simp only [World.heap_size_alloc, World.heap_size_drew, World.heap_size_setCell]); omega)).trans (by simp)
            have az2 : w1.frozen? ⟨w.heap.size + 1, 2, none⟩ = false := (b1.frozen (p := ⟨w.heap.size + 1, 2, none⟩) (by (try simp only [World.heap_size_alloc, World.heap_size_drew, World.heap_size_setCell]); omega)).trans (by simp)
            go_wp2_with fail
            (with_reducible refine (HCP.out _ (h.below hw1 hhi)).mono ?_); rintro _ w2 ⟨A2, c2, rfl, s2, b2⟩
            have y2 := b2.size
            have hz1 : w.heap.size + 1 < w1.heap.size := by omega
            have hw2 : Below w.heap.size w w2 := hw1.trans (b2.mono (by omega))
            have cb0 : (w2.alloc (.cells #[.int .i64 b, .int .i64 t, .slice A2 c c2] 29)).cell? ⟨w.heap.size, 0, none⟩ = some (.int .i64 b) := (World.cell?_alloc_lt _ _ _ (show w.heap.size < w2.heap.size by omega)).trans ((b2.cell (p := ⟨w.heap.size, 0, none⟩) (show w.heap.size < w1.heap.size by omega)).trans ab0)
            have fcb0 := fun d os => cell_regrown cb0 d os
            have cb1 : (w2.alloc (.cells #[.int .i64 b, .int .i64 t, .slice A2 c c2] 29)).cell? ⟨w.heap.size, 1, none⟩ = some (.int .i64 t) := (World.cell?_alloc_lt _ _ _ (show w.heap.size < w2.heap.size by omega)).trans ((b2.cell (p := ⟨w.heap.size, 1, none⟩) (show w.heap.size < w1.heap.size by omega)).trans ab1)
            have fcb1 := fun d os => cell_regrown cb1 d os
            have cb2 : (w2.alloc (.cells #[.int .i64 b, .int .i64 t, .slice A2 c c2] 29)).cell? ⟨w.heap.size, 2, none⟩ = some (.slice (some ⟨g, off, none⟩) c c) := (World.cell?_alloc_lt _ _ _ (show w.heap.size < w2.heap.size by omega)).trans ((b2.cell (p := ⟨w.heap.size, 2, none⟩) (show w.heap.size < w1.heap.size by omega)).trans ab2)
            have fcb2 := fun d os => cell_regrown cb2 d os
            have S2 := Lib.hid s2
            clear s2
            go_wp2_with fail
            refine wp_region_quiet_below (by kernel_rfl) (by kernel_rfl) ?_; (repeat (first | go_big_quiet_step ((first | (go_at_call 63; exact Calls.regrown_of (HLA.out _)) | (go_at_call 59; exact Calls.regrown_of (HBT.out _)))) | quiet_step ((first | (go_at_call 63; exact Calls.regrown_of (HLA.out _)) | (go_at_call 59; exact Calls.regrown_of (HBT.out _)))))); refine wpQuiet_nil ?_; intro _ hw'; obtain ⟨⟨nq, osq⟩, hw''⟩ := hw'; subst hw''; have hq := below_regrown (w2.alloc (.cells #[.int .i64 b, .int .i64 t, .slice A2 c c2] 29)) nq osq; generalize Sort.grow (redrawn (w2.alloc (.cells #[.int .i64 b, .int .i64 t, .slice A2 c c2] 29)) nq) osq = w3 at *
            have y3 := hq.size
            simp only [World.heap_size_alloc] at y3
            have hw3 : Below w.heap.size w w3 := hw2.trans (((Below.refl _ _).alloc (by omega) _).trans (hq.mono (by (try simp only [World.heap_size_alloc, World.heap_size_drew, World.heap_size_setCell]); omega)))
            have db0 : w3.cell? ⟨w.heap.size, 0, none⟩ = some (.int .i64 b) := (hq.cell (p := ⟨w.heap.size, 0, none⟩) (by (try simp only [World.heap_size_alloc, World.heap_size_drew, World.heap_size_setCell]); omega)).trans cb0
            have db1 : w3.cell? ⟨w.heap.size, 1, none⟩ = some (.int .i64 t) := (hq.cell (p := ⟨w.heap.size, 1, none⟩) (by (try simp only [World.heap_size_alloc, World.heap_size_drew, World.heap_size_setCell]); omega)).trans cb1
            have db2 : w3.cell? ⟨w.heap.size, 2, none⟩ = some (.slice (some ⟨g, off, none⟩) c c) := (hq.cell (p := ⟨w.heap.size, 2, none⟩) (by (try simp only [World.heap_size_alloc, World.heap_size_drew, World.heap_size_setCell]); omega)).trans cb2
            have dm0 : w3.cell? ⟨w.heap.size + 1, 0, none⟩ = some (.int .i64 0) := (hq.cell (p := ⟨w.heap.size + 1, 0, none⟩) (by (try simp only [World.heap_size_alloc, World.heap_size_drew, World.heap_size_setCell]); omega)).trans ((World.cell?_alloc_lt _ _ _ (show w.heap.size + 1 < w2.heap.size by omega)).trans ((b2.cell (p := ⟨w.heap.size + 1, 0, none⟩) (show w.heap.size + 1 < w1.heap.size by omega)).trans am0))
            have dm1 : w3.cell? ⟨w.heap.size + 1, 1, none⟩ = some (.int .i64 0) := (hq.cell (p := ⟨w.heap.size + 1, 1, none⟩) (by (try simp only [World.heap_size_alloc, World.heap_size_drew, World.heap_size_setCell]); omega)).trans ((World.cell?_alloc_lt _ _ _ (show w.heap.size + 1 < w2.heap.size by omega)).trans ((b2.cell (p := ⟨w.heap.size + 1, 1, none⟩) (show w.heap.size + 1 < w1.heap.size by omega)).trans am1))
            have dm2 : w3.cell? ⟨w.heap.size + 1, 2, none⟩ = some (.slice none 0 0) := (hq.cell (p := ⟨w.heap.size + 1, 2, none⟩) (by (try simp only [World.heap_size_alloc, World.heap_size_drew, World.heap_size_setCell]); omega)).trans ((World.cell?_alloc_lt _ _ _ (show w.heap.size + 1 < w2.heap.size by omega)).trans ((b2.cell (p := ⟨w.heap.size + 1, 2, none⟩) (show w.heap.size + 1 < w1.heap.size by omega)).trans am2))
            have dz0 : w3.frozen? ⟨w.heap.size + 1, 0, none⟩ = false := (hq.frozen (p := ⟨w.heap.size + 1, 0, none⟩) (by (try simp only [World.heap_size_alloc, World.heap_size_drew, World.heap_size_setCell]); omega)).trans ((frozen_alloc_lt _ _ (p := ⟨w.heap.size + 1, 0, none⟩) (show w.heap.size + 1 < w2.heap.size by omega)).trans ((b2.frozen (p := ⟨w.heap.size + 1, 0, none⟩) (show w.heap.size + 1 < w1.heap.size by omega)).trans az0))
            have dz1 : w3.frozen? ⟨w.heap.size + 1, 1, none⟩ = false := (hq.frozen (p := ⟨w.heap.size + 1, 1, none⟩) (by (try simp only [World.heap_size_alloc, World.heap_size_drew, World.heap_size_setCell]); omega)).trans ((frozen_alloc_lt _ _ (p := ⟨w.heap.size + 1, 1, none⟩) (show w.heap.size + 1 < w2.heap.size by omega)).trans ((b2.frozen (p := ⟨w.heap.size + 1, 1, none⟩) (show w.heap.size + 1 < w1.heap.size by omega)).trans az1))
            have dz2 : w3.frozen? ⟨w.heap.size + 1, 2, none⟩ = false := (hq.frozen (p := ⟨w.heap.size + 1, 2, none⟩) (by (try simp only [World.heap_size_alloc, World.heap_size_drew, World.heap_size_setCell]); omega)).trans ((frozen_alloc_lt _ _ (p := ⟨w.heap.size + 1, 2, none⟩) (show w.heap.size + 1 < w2.heap.size by omega)).trans ((b2.frozen (p := ⟨w.heap.size + 1, 2, none⟩) (show w.heap.size + 1 < w1.heap.size by omega)).trans az2))
            have e0 : w3.cell? ⟨w2.heap.size, 0, none⟩ = some (.int .i64 b) := (hq.cell (p := ⟨w2.heap.size, 0, none⟩) (by (try simp only [World.heap_size_alloc, World.heap_size_drew, World.heap_size_setCell]); omega)).trans (by simp)
            have ez0 : w3.frozen? ⟨w2.heap.size, 0, none⟩ = false := (hq.frozen (p := ⟨w2.heap.size, 0, none⟩) (by (try simp only [World.heap_size_alloc, World.heap_size_drew, World.heap_size_setCell]); omega)).trans (by simp)
            have e1 : w3.cell? ⟨w2.heap.size, 1, none⟩ = some (.int .i64 t) := (hq.cell (p := ⟨w2.heap.size, 1, none⟩) (by (try simp only [World.heap_size_alloc, World.heap_size_drew, World.heap_size_setCell]); omega)).trans (by simp)
            have ez1 : w3.frozen? ⟨w2.heap.size, 1, none⟩ = false := (hq.frozen (p := ⟨w2.heap.size, 1, none⟩) (by (try simp only [World.heap_size_alloc, World.heap_size_drew, World.heap_size_setCell]); omega)).trans (by simp)
            have e2 : w3.cell? ⟨w2.heap.size, 2, none⟩ = some (.slice A2 c c2) := (hq.cell (p := ⟨w2.heap.size, 2, none⟩) (by (try simp only [World.heap_size_alloc, World.heap_size_drew, World.heap_size_setCell]); omega)).trans (by simp)
            have ez2 : w3.frozen? ⟨w2.heap.size, 2, none⟩ = false := (hq.frozen (p := ⟨w2.heap.size, 2, none⟩) (by (try simp only [World.heap_size_alloc, World.heap_size_drew, World.heap_size_setCell]); omega)).trans (by simp)
            clear ab0 ab1 ab2 am0 am1 am2 az0 az1 az2 cb0 fcb0 cb1 fcb1 cb2 fcb2
            have hz23 : w2.heap.size < w3.heap.size := by omega
            have hg3 : g < w3.heap.size := by omega
            have r1 := (hw3.cell (p := ⟨g, off + q * 9 + 1, none⟩) hgw).trans p1
            have hne1 : ¬ w.heap.size = w2.heap.size := by omega
            have hne2 : ¬ w2.heap.size = w.heap.size := by omega
            have hz0 : w.heap.size < w3.heap.size := by omega
            have uV : Upd w2.heap.size (w2.heap.size + 1) w3 ((w3.setCell ⟨w2.heap.size, 1, none⟩ (.int .i64 tv)).setCell ⟨w2.heap.size, 0, none⟩ (.int .i64 (b + (c : Int)))) := by (repeat' (first | with_reducible exact Upd.refl _ _ _ | with_reducible assumption | with_reducible refine Upd.drew ?_ | with_reducible refine Upd.alloc ?_ _ | with_reducible refine Upd.setCell ?_ ?_ ?_ _ | (simp only []; omega) | omega))
            have hoV : Own (((w3.setCell ⟨w2.heap.size, 1, none⟩ (.int .i64 tv)).setCell ⟨w2.heap.size, 0, none⟩ (.int .i64 (b + (c : Int)))).alloc (.cells #[] 37)) w3.heap.size 37 9 (.slice (some ⟨w3.heap.size, 0, none⟩) 0 0) 0 [] := by
              have h7 := Own.new ((w3.setCell ⟨w2.heap.size, 1, none⟩ (.int .i64 tv)).setCell ⟨w2.heap.size, 0, none⟩ (.int .i64 (b + (c : Int)))) (base := w3.heap.size) 37 9 [] (n := 0) rfl (by (try simp only [World.heap_size_alloc, World.heap_size_drew, World.heap_size_setCell]); omega) (by omega)
              simp only [World.heap_size_setCell] at h7
              exact h7
            have vb0 : ((w3.setCell ⟨w2.heap.size, 1, none⟩ (.int .i64 tv)).setCell ⟨w2.heap.size, 0, none⟩ (.int .i64 (b + (c : Int)))).cell? ⟨w.heap.size, 0, none⟩ = some (.int .i64 b) := ((ucell uV (b := w.heap.size) (by omega) (.inl (by omega))).1 0).trans db0
            have vc0 : (((w3.setCell ⟨w2.heap.size, 1, none⟩ (.int .i64 tv)).setCell ⟨w2.heap.size, 0, none⟩ (.int .i64 (b + (c : Int)))).alloc (.cells #[] 37)).cell? ⟨w.heap.size, 0, none⟩ = some (.int .i64 b) := (World.cell?_alloc_lt _ _ _ (by (try simp only [World.heap_size_alloc, World.heap_size_drew, World.heap_size_setCell]); omega)).trans vb0
            have vb1 : ((w3.setCell ⟨w2.heap.size, 1, none⟩ (.int .i64 tv)).setCell ⟨w2.heap.size, 0, none⟩ (.int .i64 (b + (c : Int)))).cell? ⟨w.heap.size, 1, none⟩ = some (.int .i64 t) := ((ucell uV (b := w.heap.size) (by omega) (.inl (by omega))).1 1).trans db1
            have vc1 : (((w3.setCell ⟨w2.heap.size, 1, none⟩ (.int .i64 tv)).setCell ⟨w2.heap.size, 0, none⟩ (.int .i64 (b + (c : Int)))).alloc (.cells #[] 37)).cell? ⟨w.heap.size, 1, none⟩ = some (.int .i64 t) := (World.cell?_alloc_lt _ _ _ (by (try simp only [World.heap_size_alloc, World.heap_size_drew, World.heap_size_setCell]); omega)).trans vb1
            have vb2 : ((w3.setCell ⟨w2.heap.size, 1, none⟩ (.int .i64 tv)).setCell ⟨w2.heap.size, 0, none⟩ (.int .i64 (b + (c : Int)))).cell? ⟨w.heap.size, 2, none⟩ = some (.slice (some ⟨g, off, none⟩) c c) := ((ucell uV (b := w.heap.size) (by omega) (.inl (by omega))).1 2).trans db2
            have vc2 : (((w3.setCell ⟨w2.heap.size, 1, none⟩ (.int .i64 tv)).setCell ⟨w2.heap.size, 0, none⟩ (.int .i64 (b + (c : Int)))).alloc (.cells #[] 37)).cell? ⟨w.heap.size, 2, none⟩ = some (.slice (some ⟨g, off, none⟩) c c) := (World.cell?_alloc_lt _ _ _ (by (try simp only [World.heap_size_alloc, World.heap_size_drew, World.heap_size_setCell]); omega)).trans vb2
            have hbV : Below w.heap.size w (((w3.setCell ⟨w2.heap.size, 1, none⟩ (.int .i64 tv)).setCell ⟨w2.heap.size, 0, none⟩ (.int .i64 (b + (c : Int)))).alloc (.cells #[] 37)) := by (repeat' (first | with_reducible exact Below.refl _ _ | with_reducible assumption | with_reducible refine Below.drew ?_ | with_reducible refine Below.alloc ?_ ?_ _ | with_reducible refine Below.setCell ?_ ?_ _ | with_reducible refine Below.trans ?_ (Below.mono (by assumption) ?_) | ((try simp only [World.heap_size_alloc, World.heap_size_drew, World.heap_size_setCell]); omega)))
            have HOV := Lib.hid hoV
            clear hoV
            have HSV : Hid (Sl (((w3.setCell ⟨w2.heap.size, 1, none⟩ (.int .i64 tv)).setCell ⟨w2.heap.size, 0, none⟩ (.int .i64 (b + (c : Int)))).alloc (.cells #[] 37)) 0 0 9 (some ⟨g, off, none⟩) 0 0 []) := Lib.hid (Sl.nil _ _ _ _ _ _ (by omega))
            have RK : ∀ W, Below w3.heap.size (((w3.setCell ⟨w2.heap.size, 1, none⟩ (.int .i64 tv)).setCell ⟨w2.heap.size, 0, none⟩ (.int .i64 (b + (c : Int)))).alloc (.cells #[] 37)) W → (W.cell? ⟨w2.heap.size, 0, none⟩ = some (.int .i64 (b + (c : Int))) ∧ W.frozen? ⟨w2.heap.size, 0, none⟩ = false ∧ W.cell? ⟨w2.heap.size, 1, none⟩ = some (.int .i64 tv) ∧ W.frozen? ⟨w2.heap.size, 1, none⟩ = false ∧ W.cell? ⟨w2.heap.size, 2, none⟩ = some (.slice A2 c c2) ∧ W.frozen? ⟨w2.heap.size, 2, none⟩ = false ∧ W.cell? ⟨w.heap.size + 1, 0, none⟩ = some (.int .i64 0) ∧ W.frozen? ⟨w.heap.size + 1, 0, none⟩ = false ∧ W.cell? ⟨w.heap.size + 1, 1, none⟩ = some (.int .i64 0) ∧ W.frozen? ⟨w.heap.size + 1, 1, none⟩ = false ∧ W.cell? ⟨w.heap.size + 1, 2, none⟩ = some (.slice none 0 0) ∧ W.frozen? ⟨w.heap.size + 1, 2, none⟩ = false) := fun W hb => ⟨(hb.cell (p := ⟨w2.heap.size, 0, none⟩) hz23).trans ((World.cell?_alloc_lt _ _ _ (by (try simp only [World.heap_size_alloc, World.heap_size_drew, World.heap_size_setCell]); omega)).trans (by simp [go_sem, e0, e1, e2, ez0, ez1, ez2, hz23])), (hb.frozen (p := ⟨w2.heap.size, 0, none⟩) hz23).trans ((frozen_alloc_lt _ _ (p := ⟨w2.heap.size, 0, none⟩) (by (try simp only [World.heap_size_alloc, World.heap_size_drew, World.heap_size_setCell]); omega)).trans (by simp [go_sem, ez0, ez1, ez2, hz23])), (hb.cell (p := ⟨w2.heap.size, 1, none⟩) hz23).trans ((World.cell?_alloc_lt _ _ _ (by (try simp only [World.heap_size_alloc, World.heap_size_drew, World.heap_size_setCell]); omega)).trans (by simp [go_sem, e0, e1, e2, ez0, ez1, ez2, hz23])), (hb.frozen (p := ⟨w2.heap.size, 1, none⟩) hz23).trans ((frozen_alloc_lt _ _ (p := ⟨w2.heap.size, 1, none⟩) (by (try simp only [World.heap_size_alloc, World.heap_size_drew, World.heap_size_setCell]); omega)).trans (by simp [go_sem, ez0, ez1, ez2, hz23])), (hb.cell (p := ⟨w2.heap.size, 2, none⟩) hz23).trans ((World.cell?_alloc_lt _ _ _ (by (try simp only [World.heap_size_alloc, World.heap_size_drew, World.heap_size_setCell]); omega)).trans (by simp [go_sem, e0, e1, e2, ez0, ez1, ez2, hz23])), (hb.frozen (p := ⟨w2.heap.size, 2, none⟩) hz23).trans ((frozen_alloc_lt _ _ (p := ⟨w2.heap.size, 2, none⟩) (by (try simp only [World.heap_size_alloc, World.heap_size_drew, World.heap_size_setCell]); omega)).trans (by simp [go_sem, ez0, ez1, ez2, hz23])), (hb.cell (p := ⟨w.heap.size + 1, 0, none⟩) (by (try simp only [World.heap_size_alloc, World.heap_size_drew, World.heap_size_setCell]); omega)).trans ((World.cell?_alloc_lt _ _ _ (by (try simp only [World.heap_size_alloc, World.heap_size_drew, World.heap_size_setCell]); omega)).trans (((ucell uV (b := w.heap.size + 1) (by omega) (.inl (by omega))).1 0).trans dm0)), (hb.frozen (p := ⟨w.heap.size + 1, 0, none⟩) (by (try simp only [World.heap_size_alloc, World.heap_size_drew, World.heap_size_setCell]); omega)).trans ((frozen_alloc_lt _ _ (p := ⟨w.heap.size + 1, 0, none⟩) (by (try simp only [World.heap_size_alloc, World.heap_size_drew, World.heap_size_setCell]); omega)).trans (((ucell uV (b := w.heap.size + 1) (by omega) (.inl (by omega))).2 0).trans dz0)), (hb.cell (p := ⟨w.heap.size + 1, 1, none⟩) (by (try simp only [World.heap_size_alloc, World.heap_size_drew, World.heap_size_setCell]); omega)).trans ((World.cell?_alloc_lt _ _ _ (by (try simp only [World.heap_size_alloc, World.heap_size_drew, World.heap_size_setCell]); omega)).trans (((ucell uV (b := w.heap.size + 1) (by omega) (.inl (by omega))).1 1).trans dm1)), (hb.frozen (p := ⟨w.heap.size + 1, 1, none⟩) (by (try simp only [World.heap_size_alloc, World.heap_size_drew, World.heap_size_setCell]); omega)).trans ((frozen_alloc_lt _ _ (p := ⟨w.heap.size + 1, 1, none⟩) (by (try simp only [World.heap_size_alloc, World.heap_size_drew, World.heap_size_setCell]); omega)).trans (((ucell uV (b := w.heap.size + 1) (by omega) (.inl (by omega))).2 1).trans dz1)), (hb.cell (p := ⟨w.heap.size + 1, 2, none⟩) (by (try simp only [World.heap_size_alloc, World.heap_size_drew, World.heap_size_setCell]); omega)).trans ((World.cell?_alloc_lt _ _ _ (by (try simp only [World.heap_size_alloc, World.heap_size_drew, World.heap_size_setCell]); omega)).trans (((ucell uV (b := w.heap.size + 1) (by omega) (.inl (by omega))).1 2).trans dm2)), (hb.frozen (p := ⟨w.heap.size + 1, 2, none⟩) (by (try simp only [World.heap_size_alloc, World.heap_size_drew, World.heap_size_setCell]); omega)).trans ((frozen_alloc_lt _ _ (p := ⟨w.heap.size + 1, 2, none⟩) (by (try simp only [World.heap_size_alloc, World.heap_size_drew, World.heap_size_setCell]); omega)).trans (((ucell uV (b := w.heap.size + 1) (by omega) (.inl (by omega))).2 2).trans dz2))⟩
            have HRK := Lib.hid RK
            clear RK
            have hm9 : ¬ w.heap.size + 1 = w2.heap.size := by omega
            have hm8 : ¬ w2.heap.size = w.heap.size + 1 := by omega
            go_wp2_with (at_builtin; go_loud (refine wpList_append_sl _ rfl (.tmp 38) (.tmp 45) 27 rfl w3.heap.size 37 Try.underlying27 infoEntry rfl (by omega) _ _ _ rfl HOV.out _ 0 0 _ _ [] rfl HSV.out (by omega) (by omega) (by (try simp only [World.heap_size_alloc, World.heap_size_drew, World.heap_size_setCell]); omega) ?_); intro v6 w6 o6 g6 a6; have c6 : Below w3.heap.size (((w3.setCell ⟨w2.heap.size, 1, none⟩ (.int .i64 tv)).setCell ⟨w2.heap.size, 0, none⟩ (.int .i64 (b + (c : Int)))).alloc (.cells #[] 37)) w6 := grown_below g6 (by (try simp only [World.heap_size_alloc, World.heap_size_drew, World.heap_size_setCell]); omega) (fun g hg => (Own.lt HOV.out g hg).1); obtain ⟨f0, fz0, f1, fz1, f2, fz2, m0, mz0, m1, mz1, m2, mz2⟩ := HRK.out w6 c6; have y6 := c6.size; (try simp only [World.heap_size_alloc, World.heap_size_setCell] at y6); obtain ⟨A6, c8, rfl, s6⟩ := o6.sl; rw [Nat.zero_add, List.nil_append] at s6; simp only [Nat.zero_add]; clear g6 a6 o6)
            (try go_wp2_with fail)
            refine bodyPost_ret (v := .tuple #[.agg #[.int .i64 (b + (c : Int)), .int .i64 tv, .slice A6 0 c8], .bool true]) (by simp [results, Try.results40, go_sem, m0, m1, m2, f0, f1, f2]) rfl ⟨A6, c8, rfl, ?_, ?_⟩
            · have S5 := Sl.upd (w' := w6.setCell ⟨w2.heap.size, 2, none⟩ (.slice A6 0 c8)) (lo' := w2.heap.size) (hi' := w2.heap.size + 1) s6 (by (repeat' (first | with_reducible exact Upd.refl _ _ _ | with_reducible assumption | with_reducible refine Upd.drew ?_ | with_reducible refine Upd.alloc ?_ _ | with_reducible refine Upd.setCell ?_ ?_ ?_ _ | (simp only []; omega) | omega))) (.inr (by omega))
              refine Sl.mono (Sl.upd (lo' := w.heap.size + 1) (hi' := w.heap.size + 2) S5 ?_ (.inr (by omega))) (by omega) (by (try simp only [World.heap_size_alloc, World.heap_size_drew, World.heap_size_setCell]); omega)
              (repeat' (first | with_reducible exact Upd.refl _ _ _ | with_reducible assumption | with_reducible refine Upd.drew ?_ | with_reducible refine Upd.alloc ?_ _ | with_reducible refine Upd.setCell ?_ ?_ ?_ _ | (simp only []; omega) | omega))
            · have c9 : Below w.heap.size w w6 := hbV.trans (c6.mono (by omega))
              (repeat' (first | with_reducible exact Below.refl _ _ | with_reducible assumption | with_reducible refine Below.drew ?_ | with_reducible refine Below.alloc ?_ ?_ _ | with_reducible refine Below.setCell ?_ ?_ _ | with_reducible refine Below.trans ?_ (Below.mono (by assumption) ?_) | ((try simp only [World.heap_size_alloc, World.heap_size_drew, World.heap_size_setCell]); omega)))
          · go_enter Try.func40, Try.ntmps40
            go_wp2_with fail
            (with_reducible refine (HO.out _ (h.below (B := w.heap.size) (by (repeat' (first | with_reducible exact Below.refl _ _ | with_reducible assumption | with_reducible refine Below.drew ?_ | with_reducible refine Below.alloc ?_ ?_ _ | with_reducible refine Below.setCell ?_ ?_ _ | with_reducible refine Below.trans ?_ (Below.mono (by assumption) ?_) | ((try simp only [World.heap_size_alloc, World.heap_size_drew, World.heap_size_setCell]); omega)))) hhi)).mono ?_); rintro _ w1 ⟨rfl, b1⟩
            have y1 := b1.size
            (try simp only [World.heap_size_alloc] at y1)
            have hw1 : Below w.heap.size w w1 := by (repeat' (first | with_reducible exact Below.refl _ _ | with_reducible assumption | with_reducible refine Below.drew ?_ | with_reducible refine Below.alloc ?_ ?_ _ | with_reducible refine Below.setCell ?_ ?_ _ | with_reducible refine Below.trans ?_ (Below.mono (by assumption) ?_) | ((try simp only [World.heap_size_alloc, World.heap_size_drew, World.heap_size_setCell]); omega)))
            have ab0 : w1.cell? ⟨w.heap.size, 0, none⟩ = some (.int .i64 b) := (b1.cell (p := ⟨w.heap.size, 0, none⟩) (by (try simp only [World.heap_size_alloc, World.heap_size_drew, World.heap_size_setCell]); omega)).trans (by simp)
            have ab1 : w1.cell? ⟨w.heap.size, 1, none⟩ = some (.int .i64 t) := (b1.cell (p := ⟨w.heap.size, 1, none⟩) (by (try simp only [World.heap_size_alloc, World.heap_size_drew, World.heap_size_setCell]); omega)).trans (by simp)
            have ab2 : w1.cell? ⟨w.heap.size, 2, none⟩ = some (.slice (some ⟨g, off, none⟩) j c) := (b1.cell (p := ⟨w.heap.size, 2, none⟩) (by (try simp only [World.heap_size_alloc, World.heap_size_drew, World.heap_size_setCell]); omega)).trans (by simp)
            have am0 : w1.cell? ⟨w.heap.size + 1, 0, none⟩ = some (.int .i64 0) := (b1.cell (p := ⟨w.heap.size + 1, 0, none⟩) (by (try simp only [World.heap_size_alloc, World.heap_size_drew, World.heap_size_setCell]); omega)).trans (by simp)
            have am1 : w1.cell? ⟨w.heap.size + 1, 1, none⟩ = some (.int .i64 0) := (b1.cell (p := ⟨w.heap.size + 1, 1, none⟩) (by (try simp only [World.heap_size_alloc, World.heap_size_drew, World.heap_size_setCell]); omega)).trans (by simp)
            have am2 : w1.cell? ⟨w.heap.size + 1, 2, none⟩ = some (.slice none 0 0) := (b1.cell (p := ⟨w.heap.size + 1, 2, none⟩) (by (try simp only [World.heap_size_alloc, World.heap_size_drew, World.heap_size_setCell]); omega)).trans (by simp)
            have az0 : w1.frozen? ⟨w.heap.size + 1, 0, none⟩ = false := (b1.frozen (p := ⟨w.heap.size + 1, 0, none⟩) (by (try simp only [World.heap_size_alloc, World.heap_size_drew, World.heap_size_setCell]); omega)).trans (by simp)
            have az1 : w1.frozen? ⟨w.heap.size + 1, 1, none⟩ = false := (b1.frozen (p := ⟨w.heap.size + 1, 1, none⟩) (by (try simp only [World.heap_size_alloc, World.heap_size_drew, World.heap_size_setCell]); omega)).trans (by simp)
            have az2 : w1.frozen? ⟨w.heap.size + 1, 2, none⟩ = false := (b1.frozen (p := ⟨w.heap.size + 1, 2, none⟩) (by (try simp only [World.heap_size_alloc, World.heap_size_drew, World.heap_size_setCell]); omega)).trans (by simp)
            go_wp2_with fail
            (with_reducible refine (HCP.out _ (h.below hw1 hhi)).mono ?_); rintro _ w2 ⟨A2, c2, rfl, s2, b2⟩
            have y2 := b2.size
            have hz1 : w.heap.size + 1 < w1.heap.size := by omega
            have hw2 : Below w.heap.size w w2 := hw1.trans (b2.mono (by omega))
            have cb0 : (w2.alloc (.cells #[.int .i64 b, .int .i64 t, .slice A2 j c2] 29)).cell? ⟨w.heap.size, 0, none⟩ = some (.int .i64 b) := (World.cell?_alloc_lt _ _ _ (show w.heap.size < w2.heap.size by omega)).trans ((b2.cell (p := ⟨w.heap.size, 0, none⟩) (show w.heap.size < w1.heap.size by omega)).trans ab0)
            have fcb0 := fun d os => cell_regrown cb0 d os
            have cb1 : (w2.alloc (.cells #[.int .i64 b, .int .i64 t, .slice A2 j c2] 29)).cell? ⟨w.heap.size, 1, none⟩ = some (.int .i64 t) := (World.cell?_alloc_lt _ _ _ (show w.heap.size < w2.heap.size by omega)).trans ((b2.cell (p := ⟨w.heap.size, 1, none⟩) (show w.heap.size < w1.heap.size by omega)).trans ab1)
            have fcb1 := fun d os => cell_regrown cb1 d os
            have cb2 : (w2.alloc (.cells #[.int .i64 b, .int .i64 t, .slice A2 j c2] 29)).cell? ⟨w.heap.size, 2, none⟩ = some (.slice (some ⟨g, off, none⟩) j c) := (World.cell?_alloc_lt _ _ _ (show w.heap.size < w2.heap.size by omega)).trans ((b2.cell (p := ⟨w.heap.size, 2, none⟩) (show w.heap.size < w1.heap.size by omega)).trans ab2)
            have fcb2 := fun d os => cell_regrown cb2 d os
            have S2 := Lib.hid s2
            clear s2
            go_wp2_with fail
            refine wp_region_quiet_below (by kernel_rfl) (by kernel_rfl) ?_; (repeat (first | go_big_quiet_step ((first | (go_at_call 63; exact Calls.regrown_of (HLA.out _)) | (go_at_call 59; exact Calls.regrown_of (HBT.out _)))) | quiet_step ((first | (go_at_call 63; exact Calls.regrown_of (HLA.out _)) | (go_at_call 59; exact Calls.regrown_of (HBT.out _)))))); refine wpQuiet_nil ?_; intro _ hw'; obtain ⟨⟨nq, osq⟩, hw''⟩ := hw'; subst hw''; have hq := below_regrown (w2.alloc (.cells #[.int .i64 b, .int .i64 t, .slice A2 j c2] 29)) nq osq; generalize Sort.grow (redrawn (w2.alloc (.cells #[.int .i64 b, .int .i64 t, .slice A2 j c2] 29)) nq) osq = w3 at *
            have y3 := hq.size
            simp only [World.heap_size_alloc] at y3
            have hw3 : Below w.heap.size w w3 := hw2.trans (((Below.refl _ _).alloc (by omega) _).trans (hq.mono (by (try simp only [World.heap_size_alloc, World.heap_size_drew, World.heap_size_setCell]); omega)))
            have db0 : w3.cell? ⟨w.heap.size, 0, none⟩ = some (.int .i64 b) := (hq.cell (p := ⟨w.heap.size, 0, none⟩) (by (try simp only [World.heap_size_alloc, World.heap_size_drew, World.heap_size_setCell]); omega)).trans cb0
            have db1 : w3.cell? ⟨w.heap.size, 1, none⟩ = some (.int .i64 t) := (hq.cell (p := ⟨w.heap.size, 1, none⟩) (by (try simp only [World.heap_size_alloc, World.heap_size_drew, World.heap_size_setCell]); omega)).trans cb1
            have db2 : w3.cell? ⟨w.heap.size, 2, none⟩ = some (.slice (some ⟨g, off, none⟩) j c) := (hq.cell (p := ⟨w.heap.size, 2, none⟩) (by (try simp only [World.heap_size_alloc, World.heap_size_drew, World.heap_size_setCell]); omega)).trans cb2
            have dm0 : w3.cell? ⟨w.heap.size + 1, 0, none⟩ = some (.int .i64 0) := (hq.cell (p := ⟨w.heap.size + 1, 0, none⟩) (by (try simp only [World.heap_size_alloc, World.heap_size_drew, World.heap_size_setCell]); omega)).trans ((World.cell?_alloc_lt _ _ _ (show w.heap.size + 1 < w2.heap.size by omega)).trans ((b2.cell (p := ⟨w.heap.size + 1, 0, none⟩) (show w.heap.size + 1 < w1.heap.size by omega)).trans am0))
            have dm1 : w3.cell? ⟨w.heap.size + 1, 1, none⟩ = some (.int .i64 0) := (hq.cell (p := ⟨w.heap.size + 1, 1, none⟩) (by (try simp only [World.heap_size_alloc, World.heap_size_drew, World.heap_size_setCell]); omega)).trans ((World.cell?_alloc_lt _ _ _ (show w.heap.size + 1 < w2.heap.size by omega)).trans ((b2.cell (p := ⟨w.heap.size + 1, 1, none⟩) (show w.heap.size + 1 < w1.heap.size by omega)).trans am1))
            have dm2 : w3.cell? ⟨w.heap.size + 1, 2, none⟩ = some (.slice none 0 0) := (hq.cell (p := ⟨w.heap.size + 1, 2, none⟩) (by (try simp only [World.heap_size_alloc, World.heap_size_drew, World.heap_size_setCell]); omega)).trans ((World.cell?_alloc_lt _ _ _ (show w.heap.size + 1 < w2.heap.size by omega)).trans ((b2.cell (p := ⟨w.heap.size + 1, 2, none⟩) (show w.heap.size + 1 < w1.heap.size by omega)).trans am2))
            have dz0 : w3.frozen? ⟨w.heap.size + 1, 0, none⟩ = false := (hq.frozen (p := ⟨w.heap.size + 1, 0, none⟩) (by (try simp only [World.heap_size_alloc, World.heap_size_drew, World.heap_size_setCell]); omega)).trans ((frozen_alloc_lt _ _ (p := ⟨w.heap.size + 1, 0, none⟩) (show w.heap.size + 1 < w2.heap.size by omega)).trans ((b2.frozen (p := ⟨w.heap.size + 1, 0, none⟩) (show w.heap.size + 1 < w1.heap.size by omega)).trans az0))
            have dz1 : w3.frozen? ⟨w.heap.size + 1, 1, none⟩ = false := (hq.frozen (p := ⟨w.heap.size + 1, 1, none⟩) (by (try simp only [World.heap_size_alloc, World.heap_size_drew, World.heap_size_setCell]); omega)).trans ((frozen_alloc_lt _ _ (p := ⟨w.heap.size + 1, 1, none⟩) (show w.heap.size + 1 < w2.heap.size by omega)).trans ((b2.frozen (p := ⟨w.heap.size + 1, 1, none⟩) (show w.heap.size + 1 < w1.heap.size by omega)).trans az1))
            have dz2 : w3.frozen? ⟨w.heap.size + 1, 2, none⟩ = false := (hq.frozen (p := ⟨w.heap.size + 1, 2, none⟩) (by (try simp only [World.heap_size_alloc, World.heap_size_drew, World.heap_size_setCell]); omega)).trans ((frozen_alloc_lt _ _ (p := ⟨w.heap.size + 1, 2, none⟩) (show w.heap.size + 1 < w2.heap.size by omega)).trans ((b2.frozen (p := ⟨w.heap.size + 1, 2, none⟩) (show w.heap.size + 1 < w1.heap.size by omega)).trans az2))
            have e0 : w3.cell? ⟨w2.heap.size, 0, none⟩ = some (.int .i64 b) := (hq.cell (p := ⟨w2.heap.size, 0, none⟩) (by (try simp only [World.heap_size_alloc, World.heap_size_drew, World.heap_size_setCell]); omega)).trans (by simp)
            have ez0 : w3.frozen? ⟨w2.heap.size, 0, none⟩ = false := (hq.frozen (p := ⟨w2.heap.size, 0, none⟩) (by (try simp only [World.heap_size_alloc, World.heap_size_drew, World.heap_size_setCell]); omega)).trans (by simp)
            have e1 : w3.cell? ⟨w2.heap.size, 1, none⟩ = some (.int .i64 t) := (hq.cell (p := ⟨w2.heap.size, 1, none⟩) (by (try simp only [World.heap_size_alloc, World.heap_size_drew, World.heap_size_setCell]); omega)).trans (by simp)
            have ez1 : w3.frozen? ⟨w2.heap.size, 1, none⟩ = false := (hq.frozen (p := ⟨w2.heap.size, 1, none⟩) (by (try simp only [World.heap_size_alloc, World.heap_size_drew, World.heap_size_setCell]); omega)).trans (by simp)
            have e2 : w3.cell? ⟨w2.heap.size, 2, none⟩ = some (.slice A2 j c2) := (hq.cell (p := ⟨w2.heap.size, 2, none⟩) (by (try simp only [World.heap_size_alloc, World.heap_size_drew, World.heap_size_setCell]); omega)).trans (by simp)
            have ez2 : w3.frozen? ⟨w2.heap.size, 2, none⟩ = false := (hq.frozen (p := ⟨w2.heap.size, 2, none⟩) (by (try simp only [World.heap_size_alloc, World.heap_size_drew, World.heap_size_setCell]); omega)).trans (by simp)
            clear ab0 ab1 ab2 am0 am1 am2 az0 az1 az2 cb0 fcb0 cb1 fcb1 cb2 fcb2
            have hz23 : w2.heap.size < w3.heap.size := by omega
            have hg3 : g < w3.heap.size := by omega
            have r1 := (hw3.cell (p := ⟨g, off + q * 9 + 1, none⟩) hgw).trans p1
            have hne1 : ¬ w.heap.size = w2.heap.size := by omega
            have hne2 : ¬ w2.heap.size = w.heap.size := by omega
            have hz0 : w.heap.size < w3.heap.size := by omega
            have uV : Upd w2.heap.size (w2.heap.size + 1) w3 ((w3.setCell ⟨w2.heap.size, 1, none⟩ (.int .i64 tv)).setCell ⟨w2.heap.size, 0, none⟩ (.int .i64 (b + (j : Int)))) := by (repeat' (first | with_reducible exact Upd.refl _ _ _ | with_reducible assumption | with_reducible refine Upd.drew ?_ | with_reducible refine Upd.alloc ?_ _ | with_reducible refine Upd.setCell ?_ ?_ ?_ _ | (simp only []; omega) | omega))
            have hoV : Own (((w3.setCell ⟨w2.heap.size, 1, none⟩ (.int .i64 tv)).setCell ⟨w2.heap.size, 0, none⟩ (.int .i64 (b + (j : Int)))).alloc (.cells #[] 37)) w3.heap.size 37 9 (.slice (some ⟨w3.heap.size, 0, none⟩) 0 0) 0 [] := by
              have h7 := Own.new ((w3.setCell ⟨w2.heap.size, 1, none⟩ (.int .i64 tv)).setCell ⟨w2.heap.size, 0, none⟩ (.int .i64 (b + (j : Int)))) (base := w3.heap.size) 37 9 [] (n := 0) rfl (by (try simp only [World.heap_size_alloc, World.heap_size_drew, World.heap_size_setCell]); omega) (by omega)
              simp only [World.heap_size_setCell] at h7
              exact h7
            have vb0 : ((w3.setCell ⟨w2.heap.size, 1, none⟩ (.int .i64 tv)).setCell ⟨w2.heap.size, 0, none⟩ (.int .i64 (b + (j : Int)))).cell? ⟨w.heap.size, 0, none⟩ = some (.int .i64 b) := ((ucell uV (b := w.heap.size) (by omega) (.inl (by omega))).1 0).trans db0
            have vc0 : (((w3.setCell ⟨w2.heap.size, 1, none⟩ (.int .i64 tv)).setCell ⟨w2.heap.size, 0, none⟩ (.int .i64 (b + (j : Int)))).alloc (.cells #[] 37)).cell? ⟨w.heap.size, 0, none⟩ = some (.int .i64 b) := (World.cell?_alloc_lt _ _ _ (by (try simp only [World.heap_size_alloc, World.heap_size_drew, World.heap_size_setCell]); omega)).trans vb0
            have vb1 : ((w3.setCell ⟨w2.heap.size, 1, none⟩ (.int .i64 tv)).setCell ⟨w2.heap.size, 0, none⟩ (.int .i64 (b + (j : Int)))).cell? ⟨w.heap.size, 1, none⟩ = some (.int .i64 t) := ((ucell uV (b := w.heap.size) (by omega) (.inl (by omega))).1 1).trans db1
            have vc1 : (((w3.setCell ⟨w2.heap.size, 1, none⟩ (.int .i64 tv)).setCell ⟨w2.heap.size, 0, none⟩ (.int .i64 (b + (j : Int)))).alloc (.cells #[] 37)).cell? ⟨w.heap.size, 1, none⟩ = some (.int .i64 t) := (World.cell?_alloc_lt _ _ _ (by (try simp only [World.heap_size_alloc, World.heap_size_drew, World.heap_size_setCell]); omega)).trans vb1
            have vb2 : ((w3.setCell ⟨w2.heap.size, 1, none⟩ (.int .i64 tv)).setCell ⟨w2.heap.size, 0, none⟩ (.int .i64 (b + (j : Int)))).cell? ⟨w.heap.size, 2, none⟩ = some (.slice (some ⟨g, off, none⟩) j c) := ((ucell uV (b := w.heap.size) (by omega) (.inl (by omega))).1 2).trans db2
            have vc2 : (((w3.setCell ⟨w2.heap.size, 1, none⟩ (.int .i64 tv)).setCell ⟨w2.heap.size, 0, none⟩ (.int .i64 (b + (j : Int)))).alloc (.cells #[] 37)).cell? ⟨w.heap.size, 2, none⟩ = some (.slice (some ⟨g, off, none⟩) j c) := (World.cell?_alloc_lt _ _ _ (by (try simp only [World.heap_size_alloc, World.heap_size_drew, World.heap_size_setCell]); omega)).trans vb2
            have hbV : Below w.heap.size w (((w3.setCell ⟨w2.heap.size, 1, none⟩ (.int .i64 tv)).setCell ⟨w2.heap.size, 0, none⟩ (.int .i64 (b + (j : Int)))).alloc (.cells #[] 37)) := by (repeat' (first | with_reducible exact Below.refl _ _ | with_reducible assumption | with_reducible refine Below.drew ?_ | with_reducible refine Below.alloc ?_ ?_ _ | with_reducible refine Below.setCell ?_ ?_ _ | with_reducible refine Below.trans ?_ (Below.mono (by assumption) ?_) | ((try simp only [World.heap_size_alloc, World.heap_size_drew, World.heap_size_setCell]); omega)))
            have HOV := Lib.hid hoV
            clear hoV
            have HSV : Hid (Sl (((w3.setCell ⟨w2.heap.size, 1, none⟩ (.int .i64 tv)).setCell ⟨w2.heap.size, 0, none⟩ (.int .i64 (b + (j : Int)))).alloc (.cells #[] 37)) 0 0 9 (some ⟨g, off + j * 9, none⟩) 0 (c - j) []) := Lib.hid (Sl.nil _ _ _ _ _ _ (by omega))
            have RK : ∀ W, Below w3.heap.size (((w3.setCell ⟨w2.heap.size, 1, none⟩ (.int .i64 tv)).setCell ⟨w2.heap.size, 0, none⟩ (.int .i64 (b + (j : Int)))).alloc (.cells #[] 37)) W → (W.cell? ⟨w2.heap.size, 0, none⟩ = some (.int .i64 (b + (j : Int))) ∧ W.frozen? ⟨w2.heap.size, 0, none⟩ = false ∧ W.cell? ⟨w2.heap.size, 1, none⟩ = some (.int .i64 tv) ∧ W.frozen? ⟨w2.heap.size, 1, none⟩ = false ∧ W.cell? ⟨w2.heap.size, 2, none⟩ = some (.slice A2 j c2) ∧ W.frozen? ⟨w2.heap.size, 2, none⟩ = false ∧ W.cell? ⟨w.heap.size + 1, 0, none⟩ = some (.int .i64 0) ∧ W.frozen? ⟨w.heap.size + 1, 0, none⟩ = false ∧ W.cell? ⟨w.heap.size + 1, 1, none⟩ = some (.int .i64 0) ∧ W.frozen? ⟨w.heap.size + 1, 1, none⟩ = false ∧ W.cell? ⟨w.heap.size + 1, 2, none⟩ = some (.slice none 0 0) ∧ W.frozen? ⟨w.heap.size + 1, 2, none⟩ = false) := fun W hb => ⟨(hb.cell (p := ⟨w2.heap.size, 0, none⟩) hz23).trans ((World.cell?_alloc_lt _ _ _ (by (try simp only [World.heap_size_alloc, World.heap_size_drew, World.heap_size_setCell]); omega)).trans (by simp [go_sem, e0, e1, e2, ez0, ez1, ez2, hz23])), (hb.frozen (p := ⟨w2.heap.size, 0, none⟩) hz23).trans ((frozen_alloc_lt _ _ (p := ⟨w2.heap.size, 0, none⟩) (by (try simp only [World.heap_size_alloc, World.heap_size_drew, World.heap_size_setCell]); omega)).trans (by simp [go_sem, ez0, ez1, ez2, hz23])), (hb.cell (p := ⟨w2.heap.size, 1, none⟩) hz23).trans ((World.cell?_alloc_lt _ _ _ (by (try simp only [World.heap_size_alloc, World.heap_size_drew, World.heap_size_setCell]); omega)).trans (by simp [go_sem, e0, e1, e2, ez0, ez1, ez2, hz23])), (hb.frozen (p := ⟨w2.heap.size, 1, none⟩) hz23).trans ((frozen_alloc_lt _ _ (p := ⟨w2.heap.size, 1, none⟩) (by (try simp only [World.heap_size_alloc, World.heap_size_drew, World.heap_size_setCell]); omega)).trans (by simp [go_sem, ez0, ez1, ez2, hz23])), (hb.cell (p := ⟨w2.heap.size, 2, none⟩) hz23).trans ((World.cell?_alloc_lt _ _ _ (by (try simp only [World.heap_size_alloc, World.heap_size_drew, World.heap_size_setCell]); omega)).trans (by simp [go_sem, e0, e1, e2, ez0, ez1, ez2, hz23])), (hb.frozen (p := ⟨w2.heap.size, 2, none⟩) hz23).trans ((frozen_alloc_lt _ _ (p := ⟨w2.heap.size, 2, none⟩) (by (try simp only [World.heap_size_alloc, World.heap_size_drew, World.heap_size_setCell]); omega)).trans (by simp [go_sem, ez0, ez1, ez2, hz23])), (hb.cell (p := ⟨w.heap.size + 1, 0, none⟩) (by (try simp only [World.heap_size_alloc, World.heap_size_drew, World.heap_size_setCell]); omega)).trans ((World.cell?_alloc_lt _ _ _ (by (try simp only [World.heap_size_alloc, World.heap_size_drew, World.heap_size_setCell]); omega)).trans (((ucell uV (b := w.heap.size + 1) (by omega) (.inl (by omega))).1 0).trans dm0)), (hb.frozen (p := ⟨w.heap.size + 1, 0, none⟩) (by (try simp only [World.heap_size_alloc, World.heap_size_drew, World.heap_size_setCell]); omega)).trans ((frozen_alloc_lt _ _ (p := ⟨w.heap.size + 1, 0, none⟩) (by (try simp only [World.heap_size_alloc, World.heap_size_drew, World.heap_size_setCell]); omega)).trans (((ucell uV (b := w.heap.size + 1) (by omega) (.inl (by omega))).2 0).trans dz0)), (hb.cell (p := ⟨w.heap.size + 1, 1, none⟩) (by (try simp only [World.heap_size_alloc, World.heap_size_drew, World.heap_size_setCell]); omega)).trans ((World.cell?_alloc_lt _ _ _ (by (try simp only [World.heap_size_alloc, World.heap_size_drew, World.heap_size_setCell]); omega)).trans (((ucell uV (b := w.heap.size + 1) (by omega) (.inl (by omega))).1 1).trans dm1)), (hb.frozen (p := ⟨w.heap.size + 1, 1, none⟩) (by (try simp only [World.heap_size_alloc, World.heap_size_drew, World.heap_size_setCell]); omega)).trans ((frozen_alloc_lt _ _ (p := ⟨w.heap.size + 1, 1, none⟩) (by (try simp only [World.heap_size_alloc, World.heap_size_drew, World.heap_size_setCell]); omega)).trans (((ucell uV (b := w.heap.size + 1) (by omega) (.inl (by omega))).2 1).trans dz1)), (hb.cell (p := ⟨w.heap.size + 1, 2, none⟩) (by (try simp only [World.heap_size_alloc, World.heap_size_drew, World.heap_size_setCell]); omega)).trans ((World.cell?_alloc_lt _ _ _ (by (try simp only [World.heap_size_alloc, World.heap_size_drew, World.heap_size_setCell]); omega)).trans (((ucell uV (b := w.heap.size + 1) (by omega) (.inl (by omega))).1 2).trans dm2)), (hb.frozen (p := ⟨w.heap.size + 1, 2, none⟩) (by (try simp only [World.heap_size_alloc, World.heap_size_drew, World.heap_size_setCell]); omega)).trans ((frozen_alloc_lt _ _ (p := ⟨w.heap.size + 1, 2, none⟩) (by (try simp only [World.heap_size_alloc, World.heap_size_drew, World.heap_size_setCell]); omega)).trans (((ucell uV (b := w.heap.size + 1) (by omega) (.inl (by omega))).2 2).trans dz2))⟩
            have HRK := Lib.hid RK
            clear RK
            have hm9 : ¬ w.heap.size + 1 = w2.heap.size := by omega
            have hm8 : ¬ w2.heap.size = w.heap.size + 1 := by omega
            go_wp2_with (at_builtin; go_loud (refine wpList_append_sl _ rfl (.tmp 38) (.tmp 45) 27 rfl w3.heap.size 37 Try.underlying27 infoEntry rfl (by omega) _ _ _ rfl HOV.out _ 0 (c - j) _ _ [] rfl HSV.out (by omega) (by omega) (by (try simp only [World.heap_size_alloc, World.heap_size_drew, World.heap_size_setCell]); omega) ?_); intro v6 w6 o6 g6 a6; have c6 : Below w3.heap.size (((w3.setCell ⟨w2.heap.size, 1, none⟩ (.int .i64 tv)).setCell ⟨w2.heap.size, 0, none⟩ (.int .i64 (b + (j : Int)))).alloc (.cells #[] 37)) w6 := grown_below g6 (by (try simp only [World.heap_size_alloc, World.heap_size_drew, World.heap_size_setCell]); omega) (fun g hg => (Own.lt HOV.out g hg).1); obtain ⟨f0, fz0, f1, fz1, f2, fz2, m0, mz0, m1, mz1, m2, mz2⟩ := HRK.out w6 c6; have y6 := c6.size; (try simp only [World.heap_size_alloc, World.heap_size_setCell] at y6); obtain ⟨A6, c8, rfl, s6⟩ := o6.sl; rw [Nat.zero_add, List.nil_append] at s6; simp only [Nat.zero_add]; clear g6 a6 o6)
            (try go_wp2_with fail)
            refine bodyPost_ret (v := .tuple #[.agg #[.int .i64 (b + (j : Int)), .int .i64 tv, .slice A6 0 c8], .bool true]) (by simp [results, Try.results40, go_sem, m0, m1, m2, f0, f1, f2]) rfl ⟨A6, c8, rfl, ?_, ?_⟩
            · have S5 := Sl.upd (w' := w6.setCell ⟨w2.heap.size, 2, none⟩ (.slice A6 0 c8)) (lo' := w2.heap.size) (hi' := w2.heap.size + 1) s6 (by (repeat' (first | with_reducible exact Upd.refl _ _ _ | with_reducible assumption | with_reducible refine Upd.drew ?_ | with_reducible refine Upd.alloc ?_ _ | with_reducible refine Upd.setCell ?_ ?_ ?_ _ | (simp only []; omega) | omega))) (.inr (by omega))
              refine Sl.mono (Sl.upd (lo' := w.heap.size + 1) (hi' := w.heap.size + 2) S5 ?_ (.inr (by omega))) (by omega) (by (try simp only [World.heap_size_alloc, World.heap_size_drew, World.heap_size_setCell]); omega)
              (repeat' (first | with_reducible exact Upd.refl _ _ _ | with_reducible assumption | with_reducible refine Upd.drew ?_ | with_reducible refine Upd.alloc ?_ _ | with_reducible refine Upd.setCell ?_ ?_ ?_ _ | (simp only []; omega) | omega))
            · have c9 : Below w.heap.size w w6 := hbV.trans (c6.mono (by omega))
              (repeat' (first | with_reducible exact Below.refl _ _ | with_reducible assumption | with_reducible refine Below.drew ?_ | with_reducible refine Below.alloc ?_ ?_ _ | with_reducible refine Below.setCell ?_ ?_ _ | with_reducible refine Below.trans ?_ (Below.mono (by assumption) ?_) | ((try simp only [World.heap_size_alloc, World.heap_size_drew, World.heap_size_setCell]); omega)))
        · have hcj : ¬ c = j := by omega
          have HT := h.tailS EntryD.ints_len (show j < n by omega)
          generalize (l.drop j).flatMap EntryD.ints = zs at HT ⊢
          clear hlj
          go_enter Try.func40, Try.ntmps40
          go_wp2_with fail
          (with_reducible refine (HO.out _ (h.below (B := w.heap.size) (by (repeat' (first | with_reducible exact Below.refl _ _ | with_reducible assumption | with_reducible refine Below.drew ?_ | with_reducible refine Below.alloc ?_ ?_ _ | with_reducible refine Below.setCell ?_ ?_ _ | with_reducible refine Below.trans ?_ (Below.mono (by assumption) ?_) | ((try simp only [World.heap_size_alloc, World.heap_size_drew, World.heap_size_setCell]); omega)))) hhi)).mono ?_); rintro _ w1 ⟨rfl, b1⟩
          have y1 := b1.size
          (try simp only [World.heap_size_alloc] at y1)
          have hw1 : Below w.heap.size w w1 := by (repeat' (first | with_reducible exact Below.refl _ _ | with_reducible assumption | with_reducible refine Below.drew ?_ | with_reducible refine Below.alloc ?_ ?_ _ | with_reducible refine Below.setCell ?_ ?_ _ | with_reducible refine Below.trans ?_ (Below.mono (by assumption) ?_) | ((try simp only [World.heap_size_alloc, World.heap_size_drew, World.heap_size_setCell]); omega)))
          have ab0 : w1.cell? ⟨w.heap.size, 0, none⟩ = some (.int .i64 b) := (b1.cell (p := ⟨w.heap.size, 0, none⟩) (by (try simp only [World.heap_size_alloc, World.heap_size_drew, World.heap_size_setCell]); omega)).trans (by simp)
          have ab1 : w1.cell? ⟨w.heap.size, 1, none⟩ = some (.int .i64 t) := (b1.cell (p := ⟨w.heap.size, 1, none⟩) (by (try simp only [World.heap_size_alloc, World.heap_size_drew, World.heap_size_setCell]); omega)).trans (by simp)
          have ab2 : w1.cell? ⟨w.heap.size, 2, none⟩ = some (.slice (some ⟨g, off, none⟩) n c) := (b1.cell (p := ⟨w.heap.size, 2, none⟩) (by (try simp only [World.heap_size_alloc, World.heap_size_drew, World.heap_size_setCell]); omega)).trans (by simp)
          have am0 : w1.cell? ⟨w.heap.size + 1, 0, none⟩ = some (.int .i64 0) := (b1.cell (p := ⟨w.heap.size + 1, 0, none⟩) (by (try simp only [World.heap_size_alloc, World.heap_size_drew, World.heap_size_setCell]); omega)).trans (by simp)
          have am1 : w1.cell? ⟨w.heap.size + 1, 1, none⟩ = some (.int .i64 0) := (b1.cell (p := ⟨w.heap.size + 1, 1, none⟩) (by (try simp only [World.heap_size_alloc, World.heap_size_drew, World.heap_size_setCell]); omega)).trans (by simp)
          have am2 : w1.cell? ⟨w.heap.size + 1, 2, none⟩ = some (.slice none 0 0) := (b1.cell (p := ⟨w.heap.size + 1, 2, none⟩) (by (try simp only [World.heap_size_alloc, World.heap_size_drew, World.heap_size_setCell]); omega)).trans (by simp)
          have az0 : w1.frozen? ⟨w.heap.size + 1, 0, none⟩ = false := (b1.frozen (p := ⟨w.heap.size + 1, 0, none⟩) (by (try simp only [World.heap_size_alloc, World.heap_size_drew, World.heap_size_setCell]); omega)).trans (by simp)
          have az1 : w1.frozen? ⟨w.heap.size + 1, 1, none⟩ = false := (b1.frozen (p := ⟨w.heap.size + 1, 1, none⟩) (by (try simp only [World.heap_size_alloc, World.heap_size_drew, World.heap_size_setCell]); omega)).trans (by simp)
          have az2 : w1.frozen? ⟨w.heap.size + 1, 2, none⟩ = false := (b1.frozen (p := ⟨w.heap.size + 1, 2, none⟩) (by (try simp only [World.heap_size_alloc, World.heap_size_drew, World.heap_size_setCell]); omega)).trans (by simp)
          go_wp2_with fail
          (with_reducible refine (HCP.out _ (h.below hw1 hhi)).mono ?_); rintro _ w2 ⟨A2, c2, rfl, s2, b2⟩
          have y2 := b2.size
          have hz1 : w.heap.size + 1 < w1.heap.size := by omega
          have hw2 : Below w.heap.size w w2 := hw1.trans (b2.mono (by omega))
          have cb0 : (w2.alloc (.cells #[.int .i64 b, .int .i64 t, .slice A2 n c2] 29)).cell? ⟨w.heap.size, 0, none⟩ = some (.int .i64 b) := (World.cell?_alloc_lt _ _ _ (show w.heap.size < w2.heap.size by omega)).trans ((b2.cell (p := ⟨w.heap.size, 0, none⟩) (show w.heap.size < w1.heap.size by omega)).trans ab0)
          have fcb0 := fun d os => cell_regrown cb0 d os
          have cb1 : (w2.alloc (.cells #[.int .i64 b, .int .i64 t, .slice A2 n c2] 29)).cell? ⟨w.heap.size, 1, none⟩ = some (.int .i64 t) := (World.cell?_alloc_lt _ _ _ (show w.heap.size < w2.heap.size by omega)).trans ((b2.cell (p := ⟨w.heap.size, 1, none⟩) (show w.heap.size < w1.heap.size by omega)).trans ab1)
          have fcb1 := fun d os => cell_regrown cb1 d os
          have cb2 : (w2.alloc (.cells #[.int .i64 b, .int .i64 t, .slice A2 n c2] 29)).cell? ⟨w.heap.size, 2, none⟩ = some (.slice (some ⟨g, off, none⟩) n c) := (World.cell?_alloc_lt _ _ _ (show w.heap.size < w2.heap.size by omega)).trans ((b2.cell (p := ⟨w.heap.size, 2, none⟩) (show w.heap.size < w1.heap.size by omega)).trans ab2)
          have fcb2 := fun d os => cell_regrown cb2 d os
          have S2 := Lib.hid s2
          clear s2
          go_wp2_with fail
          refine wp_region_quiet_below (by kernel_rfl) (by kernel_rfl) ?_; (repeat (first | go_big_quiet_step ((first | (go_at_call 63; exact Calls.regrown_of (HLA.out _)) | (go_at_call 59; exact Calls.regrown_of (HBT.out _)))) | quiet_step ((first | (go_at_call 63; exact Calls.regrown_of (HLA.out _)) | (go_at_call 59; exact Calls.regrown_of (HBT.out _)))))); refine wpQuiet_nil ?_; intro _ hw'; obtain ⟨⟨nq, osq⟩, hw''⟩ := hw'; subst hw''; have hq := below_regrown (w2.alloc (.cells #[.int .i64 b, .int .i64 t, .slice A2 n c2] 29)) nq osq; generalize Sort.grow (redrawn (w2.alloc (.cells #[.int .i64 b, .int .i64 t, .slice A2 n c2] 29)) nq) osq = w3 at *
          have y3 := hq.size
          simp only [World.heap_size_alloc] at y3
          have hw3 : Below w.heap.size w w3 := hw2.trans (((Below.refl _ _).alloc (by omega) _).trans (hq.mono (by (try simp only [World.heap_size_alloc, World.heap_size_drew, World.heap_size_setCell]); omega)))
          have db0 : w3.cell? ⟨w.heap.size, 0, none⟩ = some (.int .i64 b) := (hq.cell (p := ⟨w.heap.size, 0, none⟩) (by (try simp only [World.heap_size_alloc, World.heap_size_drew, World.heap_size_setCell]); omega)).trans cb0
          have db1 : w3.cell? ⟨w.heap.size, 1, none⟩ = some (.int .i64 t) := (hq.cell (p := ⟨w.heap.size, 1, none⟩) (by (try simp only [World.heap_size_alloc, World.heap_size_drew, World.heap_size_setCell]); omega)).trans cb1
          have db2 : w3.cell? ⟨w.heap.size, 2, none⟩ = some (.slice (some ⟨g, off, none⟩) n c) := (hq.cell (p := ⟨w.heap.size, 2, none⟩) (by (try simp only [World.heap_size_alloc, World.heap_size_drew, World.heap_size_setCell]); omega)).trans cb2
          have dm0 : w3.cell? ⟨w.heap.size + 1, 0, none⟩ = some (.int .i64 0) := (hq.cell (p := ⟨w.heap.size + 1, 0, none⟩) (by (try simp only [World.heap_size_alloc, World.heap_size_drew, World.heap_size_setCell]); omega)).trans ((World.cell?_alloc_lt _ _ _ (show w.heap.size + 1 < w2.heap.size by omega)).trans ((b2.cell (p := ⟨w.heap.size + 1, 0, none⟩) (show w.heap.size + 1 < w1.heap.size by omega)).trans am0))
          have dm1 : w3.cell? ⟨w.heap.size + 1, 1, none⟩ = some (.int .i64 0) := (hq.cell (p := ⟨w.heap.size + 1, 1, none⟩) (by (try simp only [World.heap_size_alloc, World.heap_size_drew, World.heap_size_setCell]); omega)).trans ((World.cell?_alloc_lt _ _ _ (show w.heap.size + 1 < w2.heap.size by omega)).trans ((b2.cell (p := ⟨w.heap.size + 1, 1, none⟩) (show w.heap.size + 1 < w1.heap.size by omega)).trans am1))
          have dm2 : w3.cell? ⟨w.heap.size + 1, 2, none⟩ = some (.slice none 0 0) := (hq.cell (p := ⟨w.heap.size + 1, 2, none⟩) (by (try simp only [World.heap_size_alloc, World.heap_size_drew, World.heap_size_setCell]); omega)).trans ((World.cell?_alloc_lt _ _ _ (show w.heap.size + 1 < w2.heap.size by omega)).trans ((b2.cell (p := ⟨w.heap.size + 1, 2, none⟩) (show w.heap.size + 1 < w1.heap.size by omega)).trans am2))
          have dz0 : w3.frozen? ⟨w.heap.size + 1, 0, none⟩ = false := (hq.frozen (p := ⟨w.heap.size + 1, 0, none⟩) (by (try simp only [World.heap_size_alloc, World.heap_size_drew, World.heap_size_setCell]); omega)).trans ((frozen_alloc_lt _ _ (p := ⟨w.heap.size + 1, 0, none⟩) (show w.heap.size + 1 < w2.heap.size by omega)).trans ((b2.frozen (p := ⟨w.heap.size + 1, 0, none⟩) (show w.heap.size + 1 < w1.heap.size by omega)).trans az0))
          have dz1 : w3.frozen? ⟨w.heap.size + 1, 1, none⟩ = false := (hq.frozen (p := ⟨w.heap.size + 1, 1, none⟩) (by (try simp only [World.heap_size_alloc, World.heap_size_drew, World.heap_size_setCell]); omega)).trans ((frozen_alloc_lt _ _ (p := ⟨w.heap.size + 1, 1, none⟩) (show w.heap.size + 1 < w2.heap.size by omega)).trans ((b2.frozen (p := ⟨w.heap.size + 1, 1, none⟩) (show w.heap.size + 1 < w1.heap.size by omega)).trans az1))
          have dz2 : w3.frozen? ⟨w.heap.size + 1, 2, none⟩ = false := (hq.frozen (p := ⟨w.heap.size + 1, 2, none⟩) (by (try simp only [World.heap_size_alloc, World.heap_size_drew, World.heap_size_setCell]); omega)).trans ((frozen_alloc_lt _ _ (p := ⟨w.heap.size + 1, 2, none⟩) (show w.heap.size + 1 < w2.heap.size by omega)).trans ((b2.frozen (p := ⟨w.heap.size + 1, 2, none⟩) (show w.heap.size + 1 < w1.heap.size by omega)).trans az2))
          have e0 : w3.cell? ⟨w2.heap.size, 0, none⟩ = some (.int .i64 b) := (hq.cell (p := ⟨w2.heap.size, 0, none⟩) (by (try simp only [World.heap_size_alloc, World.heap_size_drew, World.heap_size_setCell]); omega)).trans (by simp)
          have ez0 : w3.frozen? ⟨w2.heap.size, 0, none⟩ = false := (hq.frozen (p := ⟨w2.heap.size, 0, none⟩) (by (try simp only [World.heap_size_alloc, World.heap_size_drew, World.heap_size_setCell]); omega)).trans (by simp)
          have e1 : w3.cell? ⟨w2.heap.size, 1, none⟩ = some (.int .i64 t) := (hq.cell (p := ⟨w2.heap.size, 1, none⟩) (by (try simp only [World.heap_size_alloc, World.heap_size_drew, World.heap_size_setCell]); omega)).trans (by simp)
          have ez1 : w3.frozen? ⟨w2.heap.size, 1, none⟩ = false := (hq.frozen (p := ⟨w2.heap.size, 1, none⟩) (by (try simp only [World.heap_size_alloc, World.heap_size_drew, World.heap_size_setCell]); omega)).trans (by simp)
          have e2 : w3.cell? ⟨w2.heap.size, 2, none⟩ = some (.slice A2 n c2) := (hq.cell (p := ⟨w2.heap.size, 2, none⟩) (by (try simp only [World.heap_size_alloc, World.heap_size_drew, World.heap_size_setCell]); omega)).trans (by simp)
          have ez2 : w3.frozen? ⟨w2.heap.size, 2, none⟩ = false := (hq.frozen (p := ⟨w2.heap.size, 2, none⟩) (by (try simp only [World.heap_size_alloc, World.heap_size_drew, World.heap_size_setCell]); omega)).trans (by simp)
          clear ab0 ab1 ab2 am0 am1 am2 az0 az1 az2 cb0 fcb0 cb1 fcb1 cb2 fcb2
          have hz23 : w2.heap.size < w3.heap.size := by omega
          have hg3 : g < w3.heap.size := by omega
          have r1 := (hw3.cell (p := ⟨g, off + q * 9 + 1, none⟩) hgw).trans p1
          have hne1 : ¬ w.heap.size = w2.heap.size := by omega
          have hne2 : ¬ w2.heap.size = w.heap.size := by omega
          have hz0 : w.heap.size < w3.heap.size := by omega
          have uV : Upd w2.heap.size (w2.heap.size + 1) w3 ((w3.setCell ⟨w2.heap.size, 1, none⟩ (.int .i64 tv)).setCell ⟨w2.heap.size, 0, none⟩ (.int .i64 (b + (j : Int)))) := by (repeat' (first | with_reducible exact Upd.refl _ _ _ | with_reducible assumption | with_reducible refine Upd.drew ?_ | with_reducible refine Upd.alloc ?_ _ | with_reducible refine Upd.setCell ?_ ?_ ?_ _ | (simp only []; omega) | omega))
          have hoV : Own (((w3.setCell ⟨w2.heap.size, 1, none⟩ (.int .i64 tv)).setCell ⟨w2.heap.size, 0, none⟩ (.int .i64 (b + (j : Int)))).alloc (.cells #[] 37)) w3.heap.size 37 9 (.slice (some ⟨w3.heap.size, 0, none⟩) 0 0) 0 [] := by
            have h7 := Own.new ((w3.setCell ⟨w2.heap.size, 1, none⟩ (.int .i64 tv)).setCell ⟨w2.heap.size, 0, none⟩ (.int .i64 (b + (j : Int)))) (base := w3.heap.size) 37 9 [] (n := 0) rfl (by (try simp only [World.heap_size_alloc, World.heap_size_drew, World.heap_size_setCell]); omega) (by omega)
            simp only [World.heap_size_setCell] at h7
            exact h7
          have vb0 : ((w3.setCell ⟨w2.heap.size, 1, none⟩ (.int .i64 tv)).setCell ⟨w2.heap.size, 0, none⟩ (.int .i64 (b + (j : Int)))).cell? ⟨w.heap.size, 0, none⟩ = some (.int .i64 b) := ((ucell uV (b := w.heap.size) (by omega) (.inl (by omega))).1 0).trans db0
          have vc0 : (((w3.setCell ⟨w2.heap.size, 1, none⟩ (.int .i64 tv)).setCell ⟨w2.heap.size, 0, none⟩ (.int .i64 (b + (j : Int)))).alloc (.cells #[] 37)).cell? ⟨w.heap.size, 0, none⟩ = some (.int .i64 b) := (World.cell?_alloc_lt _ _ _ (by (try simp only [World.heap_size_alloc, World.heap_size_drew, World.heap_size_setCell]); omega)).trans vb0
          have vb1 : ((w3.setCell ⟨w2.heap.size, 1, none⟩ (.int .i64 tv)).setCell ⟨w2.heap.size, 0, none⟩ (.int .i64 (b + (j : Int)))).cell? ⟨w.heap.size, 1, none⟩ = some (.int .i64 t) := ((ucell uV (b := w.heap.size) (by omega) (.inl (by omega))).1 1).trans db1
          have vc1 : (((w3.setCell ⟨w2.heap.size, 1, none⟩ (.int .i64 tv)).setCell ⟨w2.heap.size, 0, none⟩ (.int .i64 (b + (j : Int)))).alloc (.cells #[] 37)).cell? ⟨w.heap.size, 1, none⟩ = some (.int .i64 t) := (World.cell?_alloc_lt _ _ _ (by (try simp only [World.heap_size_alloc, World.heap_size_drew, World.heap_size_setCell]); omega)).trans vb1
          have vb2 : ((w3.setCell ⟨w2.heap.size, 1, none⟩ (.int .i64 tv)).setCell ⟨w2.heap.size, 0, none⟩ (.int .i64 (b + (j : Int)))).cell? ⟨w.heap.size, 2, none⟩ = some (.slice (some ⟨g, off, none⟩) n c) := ((ucell uV (b := w.heap.size) (by omega) (.inl (by omega))).1 2).trans db2
          have vc2 : (((w3.setCell ⟨w2.heap.size, 1, none⟩ (.int .i64 tv)).setCell ⟨w2.heap.size, 0, none⟩ (.int .i64 (b + (j : Int)))).alloc (.cells #[] 37)).cell? ⟨w.heap.size, 2, none⟩ = some (.slice (some ⟨g, off, none⟩) n c) := (World.cell?_alloc_lt _ _ _ (by (try simp only [World.heap_size_alloc, World.heap_size_drew, World.heap_size_setCell]); omega)).trans vb2
          have hbV : Below w.heap.size w (((w3.setCell ⟨w2.heap.size, 1, none⟩ (.int .i64 tv)).setCell ⟨w2.heap.size, 0, none⟩ (.int .i64 (b + (j : Int)))).alloc (.cells #[] 37)) := by (repeat' (first | with_reducible exact Below.refl _ _ | with_reducible assumption | with_reducible refine Below.drew ?_ | with_reducible refine Below.alloc ?_ ?_ _ | with_reducible refine Below.setCell ?_ ?_ _ | with_reducible refine Below.trans ?_ (Below.mono (by assumption) ?_) | ((try simp only [World.heap_size_alloc, World.heap_size_drew, World.heap_size_setCell]); omega)))
          have HOV := Lib.hid hoV
          clear hoV
          have HSV := Lib.hid (HT.below (B := w.heap.size) (w' := (((w3.setCell ⟨w2.heap.size, 1, none⟩ (.int .i64 tv)).setCell ⟨w2.heap.size, 0, none⟩ (.int .i64 (b + (j : Int)))).alloc (.cells #[] 37))) hbV hhi)
          have RK : ∀ W, Below w3.heap.size (((w3.setCell ⟨w2.heap.size, 1, none⟩ (.int .i64 tv)).setCell ⟨w2.heap.size, 0, none⟩ (.int .i64 (b + (j : Int)))).alloc (.cells #[] 37)) W → (W.cell? ⟨w2.heap.size, 0, none⟩ = some (.int .i64 (b + (j : Int))) ∧ W.frozen? ⟨w2.heap.size, 0, none⟩ = false ∧ W.cell? ⟨w2.heap.size, 1, none⟩ = some (.int .i64 tv) ∧ W.frozen? ⟨w2.heap.size, 1, none⟩ = false ∧ W.cell? ⟨w2.heap.size, 2, none⟩ = some (.slice A2 n c2) ∧ W.frozen? ⟨w2.heap.size, 2, none⟩ = false ∧ W.cell? ⟨w.heap.size + 1, 0, none⟩ = some (.int .i64 0) ∧ W.frozen? ⟨w.heap.size + 1, 0, none⟩ = false ∧ W.cell? ⟨w.heap.size + 1, 1, none⟩ = some (.int .i64 0) ∧ W.frozen? ⟨w.heap.size + 1, 1, none⟩ = false ∧ W.cell? ⟨w.heap.size + 1, 2, none⟩ = some (.slice none 0 0) ∧ W.frozen? ⟨w.heap.size + 1, 2, none⟩ = false) := fun W hb => ⟨(hb.cell (p := ⟨w2.heap.size, 0, none⟩) hz23).trans ((World.cell?_alloc_lt _ _ _ (by (try simp only [World.heap_size_alloc, World.heap_size_drew, World.heap_size_setCell]); omega)).trans (by simp [go_sem, e0, e1, e2, ez0, ez1, ez2, hz23])), (hb.frozen (p := ⟨w2.heap.size, 0, none⟩) hz23).trans ((frozen_alloc_lt _ _ (p := ⟨w2.heap.size, 0, none⟩) (by (try simp only [World.heap_size_alloc, World.heap_size_drew, World.heap_size_setCell]); omega)).trans (by simp [go_sem, ez0, ez1, ez2, hz23])), (hb.cell (p := ⟨w2.heap.size, 1, none⟩) hz23).trans ((World.cell?_alloc_lt _ _ _ (by (try simp only [World.heap_size_alloc, World.heap_size_drew, World.heap_size_setCell]); omega)).trans (by simp [go_sem, e0, e1, e2, ez0, ez1, ez2, hz23])), (hb.frozen (p := ⟨w2.heap.size, 1, none⟩) hz23).trans ((frozen_alloc_lt _ _ (p := ⟨w2.heap.size, 1, none⟩) (by (try simp only [World.heap_size_alloc, World.heap_size_drew, World.heap_size_setCell]); omega)).trans (by simp [go_sem, ez0, ez1, ez2, hz23])), (hb.cell (p := ⟨w2.heap.size, 2, none⟩) hz23).trans ((World.cell?_alloc_lt _ _ _ (by (try simp only [World.heap_size_alloc, World.heap_size_drew, World.heap_size_setCell]); omega)).trans (by simp [go_sem, e0, e1, e2, ez0, ez1, ez2, hz23])), (hb.frozen (p := ⟨w2.heap.size, 2, none⟩) hz23).trans ((frozen_alloc_lt _ _ (p := ⟨w2.heap.size, 2, none⟩) (by (try simp only [World.heap_size_alloc, World.heap_size_drew, World.heap_size_setCell]); omega)).trans (by simp [go_sem, ez0, ez1, ez2, hz23])), (hb.cell (p := ⟨w.heap.size + 1, 0, none⟩) (by (try simp only [World.heap_size_alloc, World.heap_size_drew, World.heap_size_setCell]); omega)).trans ((World.cell?_alloc_lt _ _ _ (by (try simp only [World.heap_size_alloc, World.heap_size_drew, World.heap_size_setCell]); omega)).trans (((ucell uV (b := w.heap.size + 1) (by omega) (.inl (by omega))).1 0).trans dm0)), (hb.frozen (p := ⟨w.heap.size + 1, 0, none⟩) (by (try simp only [World.heap_size_alloc, World.heap_size_drew, World.heap_size_setCell]); omega)).trans ((frozen_alloc_lt _ _ (p := ⟨w.heap.size + 1, 0, none⟩) (by (try simp only [World.heap_size_alloc, World.heap_size_drew, World.heap_size_setCell]); omega)).trans (((ucell uV (b := w.heap.size + 1) (by omega) (.inl (by omega))).2 0).trans dz0)), (hb.cell (p := ⟨w.heap.size + 1, 1, none⟩) (by (try simp only [World.heap_size_alloc, World.heap_size_drew, World.heap_size_setCell]); omega)).trans ((World.cell?_alloc_lt _ _ _ (by (try simp only [World.heap_size_alloc, World.heap_size_drew, World.heap_size_setCell]); omega)).trans (((ucell uV (b := w.heap.size + 1) (by omega) (.inl (by omega))).1 1).trans dm1)), (hb.frozen (p := ⟨w.heap.size + 1, 1, none⟩) (by (try simp only [World.heap_size_alloc, World.heap_size_drew, World.heap_size_setCell]); omega)).trans ((frozen_alloc_lt _ _ (p := ⟨w.heap.size + 1, 1, none⟩) (by (try simp only [World.heap_size_alloc, World.heap_size_drew, World.heap_size_setCell]); omega)).trans (((ucell uV (b := w.heap.size + 1) (by omega) (.inl (by omega))).2 1).trans dz1)), (hb.cell (p := ⟨w.heap.size + 1, 2, none⟩) (by (try simp only [World.heap_size_alloc, World.heap_size_drew, World.heap_size_setCell]); omega)).trans ((World.cell?_alloc_lt _ _ _ (by (try simp only [World.heap_size_alloc, World.heap_size_drew, World.heap_size_setCell]); omega)).trans (((ucell uV (b := w.heap.size + 1) (by omega) (.inl (by omega))).1 2).trans dm2)), (hb.frozen (p := ⟨w.heap.size + 1, 2, none⟩) (by (try simp only [World.heap_size_alloc, World.heap_size_drew, World.heap_size_setCell]); omega)).trans ((frozen_alloc_lt _ _ (p := ⟨w.heap.size + 1, 2, none⟩) (by (try simp only [World.heap_size_alloc, World.heap_size_drew, World.heap_size_setCell]); omega)).trans (((ucell uV (b := w.heap.size + 1) (by omega) (.inl (by omega))).2 2).trans dz2))⟩
          have HRK := Lib.hid RK
          clear RK
          have hm9 : ¬ w.heap.size + 1 = w2.heap.size := by omega
          have hm8 : ¬ w2.heap.size = w.heap.size + 1 := by omega
          go_wp2_with (at_builtin; go_loud (refine wpList_append_sl _ rfl (.tmp 38) (.tmp 45) 27 rfl w3.heap.size 37 Try.underlying27 infoEntry rfl (by omega) _ _ _ rfl HOV.out _ (n - j) (c - j) _ _ zs rfl HSV.out (by omega) (by omega) (by (try simp only [World.heap_size_alloc, World.heap_size_drew, World.heap_size_setCell]); omega) ?_); intro v6 w6 o6 g6 a6; have c6 : Below w3.heap.size (((w3.setCell ⟨w2.heap.size, 1, none⟩ (.int .i64 tv)).setCell ⟨w2.heap.size, 0, none⟩ (.int .i64 (b + (j : Int)))).alloc (.cells #[] 37)) w6 := grown_below g6 (by (try simp only [World.heap_size_alloc, World.heap_size_drew, World.heap_size_setCell]); omega) (fun g hg => (Own.lt HOV.out g hg).1); obtain ⟨f0, fz0, f1, fz1, f2, fz2, m0, mz0, m1, mz1, m2, mz2⟩ := HRK.out w6 c6; have y6 := c6.size; (try simp only [World.heap_size_alloc, World.heap_size_setCell] at y6); obtain ⟨A6, c8, rfl, s6⟩ := o6.sl; rw [Nat.zero_add, List.nil_append] at s6; simp only [Nat.zero_add]; clear g6 a6 o6)
          (try go_wp2_with fail)
          refine bodyPost_ret (v := .tuple #[.agg #[.int .i64 (b + (j : Int)), .int .i64 tv, .slice A6 (n - j) c8], .bool true]) (by simp [results, Try.results40, go_sem, m0, m1, m2, f0, f1, f2]) rfl ⟨A6, c8, rfl, ?_, ?_⟩
          · have S5 := Sl.upd (w' := w6.setCell ⟨w2.heap.size, 2, none⟩ (.slice A6 (n - j) c8)) (lo' := w2.heap.size) (hi' := w2.heap.size + 1) s6 (by (repeat' (first | with_reducible exact Upd.refl _ _ _ | with_reducible assumption | with_reducible refine Upd.drew ?_ | with_reducible refine Upd.alloc ?_ _ | with_reducible refine Upd.setCell ?_ ?_ ?_ _ | (simp only []; omega) | omega))) (.inr (by omega))
            refine Sl.mono (Sl.upd (lo' := w.heap.size + 1) (hi' := w.heap.size + 2) S5 ?_ (.inr (by omega))) (by omega) (by (try simp only [World.heap_size_alloc, World.heap_size_drew, World.heap_size_setCell]); omega)
            (repeat' (first | with_reducible exact Upd.refl _ _ _ | with_reducible assumption | with_reducible refine Upd.drew ?_ | with_reducible refine Upd.alloc ?_ _ | with_reducible refine Upd.setCell ?_ ?_ ?_ _ | (simp only []; omega) | omega))
          · have c9 : Below w.heap.size w w6 := hbV.trans (c6.mono (by omega))
            (repeat' (first | with_reducible exact Below.refl _ _ | with_reducible assumption | with_reducible refine Below.drew ?_ | with_reducible refine Below.alloc ?_ ?_ _ | with_reducible refine Below.setCell ?_ ?_ _ | with_reducible refine Below.trans ?_ (Below.mono (by assumption) ?_) | ((try simp only [World.heap_size_alloc, World.heap_size_drew, World.heap_size_setCell]); omega)))

end Go.Proofs.Ytijefbmnhcecmaa
