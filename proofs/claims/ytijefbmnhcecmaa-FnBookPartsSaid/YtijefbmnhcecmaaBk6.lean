/- Books: back to an index. No conditions. -/
import Derived.Test.YtijefbmnhcecmaaBk5
set_option linter.unusedSimpArgs false
set_option linter.unusedVariables false
namespace Go.Proofs.Ytijefbmnhcecmaa
open Go.RowKit

def backTo (b t : Int) (l : List EntryD) (x : Int) : Int × Int × List EntryD × Bool := if bookOk b t l then if btw x b (b + (l.length : Int)) then (b, t, l.take (x - b).toNat, true) else (b, t, l, false) else (0, 0, [], false)
def trimmedTo (b t : Int) (l : List EntryD) (x : Int) : Int × Int × List EntryD × Bool := if bookOk b t l then if btw x b (b + (l.length : Int)) then (x, timeAt b t l x, l.drop (x - b).toNat, true) else (b, t, l, false) else (0, 0, [], false)
theorem backTo_len (b t : Int) (l : List EntryD) (x : Int) : (backTo b t l x).2.2.1.length ≤ 1048576 := by
  unfold backTo
  split
  · rename_i h
    have := (bookOk_facts h).2.2.2.2.1
    split
    · simp only [List.length_take]; omega
    · simp only []; omega
  · simp
theorem trimmedTo_len (b t : Int) (l : List EntryD) (x : Int) : (trimmedTo b t l x).2.2.1.length ≤ 1048576 := by
  unfold trimmedTo
  split
  · rename_i h
    have := (bookOk_facts h).2.2.2.2.1
    split
    · simp only [List.length_drop]; omega
    · simp only []; omega
  · simp
theorem frozen_alloc_lt (w : World) (o : Obj) {p : Addr} (h : p.block < w.heap.size) : (w.alloc o).frozen? p = w.frozen? p := ((Below.refl w.heap.size w).alloc (Nat.le_refl _) o).frozen (p := p) h
theorem Sl.front {α : Type} {f : α → List Int} {k : Nat} {w : World} {lo hi : Nat} {A : Option Addr} {n c j : Nat} {l : List α} (h : Sl w lo hi k A n c (l.flatMap f)) (hk : ∀ x, (f x).length = k) (hj : j ≤ n) : Sl w lo hi k A j c ((l.take j).flatMap f) := by
  have hl := h.len
  refine ⟨?_, Nat.le_trans hj h.cap, h.big, fun hj0 => ?_⟩
  · rw [flat_take hk, List.length_take, hl]
    exact Nat.min_eq_left (Nat.mul_le_mul_right k hj)
  · obtain ⟨g, off, e, h1, h2, h3⟩ := h.lie (by omega)
    refine ⟨g, off, e, h1, h2, ?_⟩
    rw [flat_take hk]
    have := h3.sub 0 (j * k)
    rw [Nat.add_zero, List.drop_zero] at this
    exact this
set_option maxRecDepth 100000 in
set_option maxHeartbeats 2000000 in
theorem sBackTo_any (b t : Int) (A : Option Addr) (n c lo hi : Nat) (l : List EntryD) (x : Int) (w : World) (h : Sl w lo hi 9 A n c (l.flatMap EntryD.ints)) :
    Calls Try.prog 36 #[.agg #[.int .i64 b, .int .i64 t, .slice A n c], .int .i64 x] w (BookBRes w (backTo b t l x).1 (backTo b t l x).2.1 (backTo b t l x).2.2.1.length ((backTo b t l x).2.2.1.flatMap EntryD.ints) (backTo b t l x).2.2.2) := by
  have HL := Lib.hid (h.count EntryD.ints_len (by omega) : l.length = n)
  replace h := h.fit (by omega)
  have hhi : min hi w.heap.size ≤ w.heap.size := Nat.min_le_right _ _
  generalize min hi w.heap.size = hi at h hhi
  cases hok : bookOk b t l with
  | false =>
    have e0 : backTo b t l x = (0, 0, [], false) := by simp [backTo, trimmedTo, hok]
    rw [e0]
    clear e0
    have CO : ∀ W, Sl W lo hi 9 A n c (l.flatMap EntryD.ints) → Calls Try.prog 21 #[.agg #[.int .i64 b, .int .i64 t, .slice A n c]] W fun x w' => x = .returned (.bool false) ∧ Below W.heap.size W w' := fun W s => by
      have h7 := sBookOk_any b t A n c lo hi l W s
      rw [hok] at h7
      exact h7
    have HO := Lib.hid CO
    clear CO
    clear hok
    go_enter Try.func36, Try.ntmps36
    go_wp2_with fail
    (with_reducible refine (HO.out _ (h.below (B := w.heap.size) (by (repeat' (first | with_reducible exact Below.refl _ _ | with_reducible assumption | with_reducible refine Below.drew ?_ | with_reducible refine Below.alloc ?_ ?_ _ | with_reducible refine Below.setCell ?_ ?_ _ | with_reducible refine Below.trans ?_ (Below.mono (by assumption) ?_) | ((try simp only [World.heap_size_alloc, World.heap_size_drew, World.heap_size_setCell]); omega)))) hhi)).mono ?_); rintro _ w1 ⟨rfl, b1⟩
    have y1 := b1.size
    (try simp only [World.heap_size_alloc] at y1)
    have hw1 : Below w.heap.size w w1 := by (repeat' (first | with_reducible exact Below.refl _ _ | with_reducible assumption | with_reducible refine Below.drew ?_ | with_reducible refine Below.alloc ?_ ?_ _ | with_reducible refine Below.setCell ?_ ?_ _ | with_reducible refine Below.trans ?_ (Below.mono (by assumption) ?_) | ((try simp only [World.heap_size_alloc, World.heap_size_drew, World.heap_size_setCell]); omega)))
    have m0 : w1.cell? ⟨w.heap.size + 1, 0, none⟩ = some (.int .i64 0) := (b1.cell (p := ⟨w.heap.size + 1, 0, none⟩) (by (try simp only [World.heap_size_alloc, World.heap_size_drew, World.heap_size_setCell]); omega)).trans (by simp)
    have f0 : w1.frozen? ⟨w.heap.size + 1, 0, none⟩ = false := (b1.frozen (p := ⟨w.heap.size + 1, 0, none⟩) (by (try simp only [World.heap_size_alloc, World.heap_size_drew, World.heap_size_setCell]); omega)).trans (by simp)
    have m1 : w1.cell? ⟨w.heap.size + 1, 1, none⟩ = some (.int .i64 0) := (b1.cell (p := ⟨w.heap.size + 1, 1, none⟩) (by (try simp only [World.heap_size_alloc, World.heap_size_drew, World.heap_size_setCell]); omega)).trans (by simp)
    have f1 : w1.frozen? ⟨w.heap.size + 1, 1, none⟩ = false := (b1.frozen (p := ⟨w.heap.size + 1, 1, none⟩) (by (try simp only [World.heap_size_alloc, World.heap_size_drew, World.heap_size_setCell]); omega)).trans (by simp)
    have m2 : w1.cell? ⟨w.heap.size + 1, 2, none⟩ = some (.slice none 0 0) := (b1.cell (p := ⟨w.heap.size + 1, 2, none⟩) (by (try simp only [World.heap_size_alloc, World.heap_size_drew, World.heap_size_setCell]); omega)).trans (by simp)
    have f2 : w1.frozen? ⟨w.heap.size + 1, 2, none⟩ = false := (b1.frozen (p := ⟨w.heap.size + 1, 2, none⟩) (by (try simp only [World.heap_size_alloc, World.heap_size_drew, World.heap_size_setCell]); omega)).trans (by simp)
    go_wp2_with fail
    refine bodyPost_ret (v := .tuple #[.agg #[.int .i64 0, .int .i64 0, .slice none 0 0], .bool false]) (by simp [results, Try.results36, go_sem, m0, m1, m2]) rfl ⟨none, 0, rfl, Sl.nil _ _ _ _ _ _ (by omega), ?_⟩
    exact hw1.trans (by (repeat' (first | with_reducible exact Below.refl _ _ | with_reducible assumption | with_reducible refine Below.drew ?_ | with_reducible refine Below.alloc ?_ ?_ _ | with_reducible refine Below.setCell ?_ ?_ _ | with_reducible refine Below.trans ?_ (Below.mono (by assumption) ?_) | ((try simp only [World.heap_size_alloc, World.heap_size_drew, World.heap_size_setCell]); omega))))
  | true =>
    cases hbt : btw x b (b + (n : Int)) with
    | false =>
      have e0 : backTo b t l x = (b, t, l, false) := by simp [backTo, hok, HL.out, hbt]
      rw [e0]
      clear e0
      show Calls _ _ _ _ (BookBRes w b t l.length (l.flatMap EntryD.ints) false)
      rw [HL.out]
      obtain ⟨q0, q1, q2, q3, q4, _⟩ := bookOk_facts hok
      rw [HL.out] at q4
      have HLA := Lib.hid (fun W => l8Last_any b t A n c W q0 q1 q4)
      have CO : ∀ W, Sl W lo hi 9 A n c (l.flatMap EntryD.ints) → Calls Try.prog 21 #[.agg #[.int .i64 b, .int .i64 t, .slice A n c]] W fun x w' => x = .returned (.bool true) ∧ Below W.heap.size W w' := fun W s => by
        have h7 := sBookOk_any b t A n c lo hi l W s
        rw [hok] at h7
        exact h7
      have HO := Lib.hid CO
      clear CO
      have HCP := Lib.hid (fun W s => l8Copy_any b t A n c lo hi l W s (by omega))
      have CB : ∀ W, Calls Try.prog 56 #[.int .i64 x, .int .i64 b, .int .i64 (b + (n : Int))] W fun y w' => y = .returned (.bool false) ∧ Below W.heap.size W w' := fun W => (l1In_any x b (b + (n : Int)) W).mono fun y w' ⟨h1, h2⟩ => ⟨by rw [h1, hbt], by rw [← h2]; exact Below.refl _ _⟩
      have HBT := Lib.hid CB
      clear CB
      clear hok hbt
      go_enter Try.func36, Try.ntmps36
      go_wp2_with fail
      (with_reducible refine (HO.out _ (h.below (B := w.heap.size) (by (repeat' (first | with_reducible exact Below.refl _ _ | with_reducible assumption | with_reducible refine Below.drew ?_ | with_reducible refine Below.alloc ?_ ?_ _ | with_reducible refine Below.setCell ?_ ?_ _ | with_reducible refine Below.trans ?_ (Below.mono (by assumption) ?_) | ((try simp only [World.heap_size_alloc, World.heap_size_drew, World.heap_size_setCell]); omega)))) hhi)).mono ?_); rintro _ w1 ⟨rfl, b1⟩
      have y1 := b1.size
      (try simp only [World.heap_size_alloc] at y1)
      have hw1 : Below w.heap.size w w1 := by (repeat' (first | with_reducible exact Below.refl _ _ | with_reducible assumption | with_reducible refine Below.drew ?_ | with_reducible refine Below.alloc ?_ ?_ _ | with_reducible refine Below.setCell ?_ ?_ _ | with_reducible refine Below.trans ?_ (Below.mono (by assumption) ?_) | ((try simp only [World.heap_size_alloc, World.heap_size_drew, World.heap_size_setCell]); omega)))
      have ab0 : w1.cell? ⟨w.heap.size, 0, none⟩ = some (.int .i64 b) := (b1.cell (p := ⟨w.heap.size, 0, none⟩) (by (try simp only [World.heap_size_alloc, World.heap_size_drew, World.heap_size_setCell]); omega)).trans (by simp)
      have ab1 : w1.cell? ⟨w.heap.size, 1, none⟩ = some (.int .i64 t) := (b1.cell (p := ⟨w.heap.size, 1, none⟩) (by (try simp only [World.heap_size_alloc, World.heap_size_drew, World.heap_size_setCell]); omega)).trans (by simp)
      have ab2 : w1.cell? ⟨w.heap.size, 2, none⟩ = some (.slice A n c) := (b1.cell (p := ⟨w.heap.size, 2, none⟩) (by (try simp only [World.heap_size_alloc, World.heap_size_drew, World.heap_size_setCell]); omega)).trans (by simp)
      have am0 : w1.cell? ⟨w.heap.size + 1, 0, none⟩ = some (.int .i64 0) := (b1.cell (p := ⟨w.heap.size + 1, 0, none⟩) (by (try simp only [World.heap_size_alloc, World.heap_size_drew, World.heap_size_setCell]); omega)).trans (by simp)
      have am1 : w1.cell? ⟨w.heap.size + 1, 1, none⟩ = some (.int .i64 0) := (b1.cell (p := ⟨w.heap.size + 1, 1, none⟩) (by (try simp only [World.heap_size_alloc, World.heap_size_drew, World.heap_size_setCell]); omega)).trans (by simp)
      have am2 : w1.cell? ⟨w.heap.size + 1, 2, none⟩ = some (.slice none 0 0) := (b1.cell (p := ⟨w.heap.size + 1, 2, none⟩) (by (try simp only [World.heap_size_alloc, World.heap_size_drew, World.heap_size_setCell]); omega)).trans (by simp)
      have az0 : w1.frozen? ⟨w.heap.size + 1, 0, none⟩ = false := (b1.frozen (p := ⟨w.heap.size + 1, 0, none⟩) (by (try simp only [World.heap_size_alloc, World.heap_size_drew, World.heap_size_setCell]); omega)).trans (by simp)
      have az1 : w1.frozen? ⟨w.heap.size + 1, 1, none⟩ = false := (b1.frozen (p := ⟨w.heap.size + 1, 1, none⟩) (by (try simp only [World.heap_size_alloc, World.heap_size_drew, World.heap_size_setCell]); omega)).trans (by simp)
      have az2 : w1.frozen? ⟨w.heap.size + 1, 2, none⟩ = false := (b1.frozen (p := ⟨w.heap.size + 1, 2, none⟩) (by (try simp only [World.heap_size_alloc, World.heap_size_drew, World.heap_size_setCell]); omega)).trans (by simp)
      go_wp2_with fail
      (with_reducible refine (HCP.out _ (h.below hw1 hhi)).mono ?_); rintro _ w2 ⟨A2, c2, rfl, s2, b2⟩
      have y2 := b2.size
      have hz1 : w.heap.size + 1 < w1.heap.size := by omega
      have hw2 : Below w.heap.size w w2 := hw1.trans (b2.mono (by omega))
      have cb0 : (w2.alloc (.cells #[.int .i64 b, .int .i64 t, .slice A2 n c2] 29)).cell? ⟨w.heap.size, 0, none⟩ = some (.int .i64 b) := (World.cell?_alloc_lt _ _ _ (show w.heap.size < w2.heap.size by omega)).trans ((b2.cell (p := ⟨w.heap.size, 0, none⟩) (show w.heap.size < w1.heap.size by omega)).trans ab0)
      have fcb0 := fun d os => cell_regrown cb0 d os
      have cb1 : (w2.alloc (.cells #[.int .i64 b, .int .i64 t, .slice A2 n c2] 29)).cell? ⟨w.heap.size, 1, none⟩ = some (.int .i64 t) := (World.cell?_alloc_lt _ _ _ (show w.heap.size < w2.heap.size by omega)).trans ((b2.cell (p := ⟨w.heap.size, 1, none⟩) (show w.heap.size < w1.heap.size by omega)).trans ab1)
      have fcb1 := fun d os => cell_regrown cb1 d os
      have cb2 : (w2.alloc (.cells #[.int .i64 b, .int .i64 t, .slice A2 n c2] 29)).cell? ⟨w.heap.size, 2, none⟩ = some (.slice A n c) := (World.cell?_alloc_lt _ _ _ (show w.heap.size < w2.heap.size by omega)).trans ((b2.cell (p := ⟨w.heap.size, 2, none⟩) (show w.heap.size < w1.heap.size by omega)).trans ab2)
      have fcb2 := fun d os => cell_regrown cb2 d os
      have S2 := Lib.hid s2
      clear s2
      go_wp2_with fail
      refine wp_region_quiet_below (by kernel_rfl) (by kernel_rfl) ?_; (repeat (first | go_big_quiet_step ((first | (go_at_call 62; exact Calls.regrown_of (HLA.out _)) | (go_at_call 56; exact Calls.regrown_of (HBT.out _)))) | quiet_step ((first | (go_at_call 62; exact Calls.regrown_of (HLA.out _)) | (go_at_call 56; exact Calls.regrown_of (HBT.out _)))))); refine wpQuiet_nil ?_; intro _ hw'; obtain ⟨⟨nq, osq⟩, hw''⟩ := hw'; subst hw''; have hq := below_regrown (w2.alloc (.cells #[.int .i64 b, .int .i64 t, .slice A2 n c2] 29)) nq osq; generalize Sort.grow (redrawn (w2.alloc (.cells #[.int .i64 b, .int .i64 t, .slice A2 n c2] 29)) nq) osq = w3 at *
      have y3 := hq.size
      simp only [World.heap_size_alloc] at y3
      have hw3 : Below w.heap.size w w3 := hw2.trans (((Below.refl _ _).alloc (by omega) _).trans (hq.mono (by (try simp only [World.heap_size_alloc, World.heap_size_drew, World.heap_size_setCell]); omega)))
      have db0 : w3.cell? ⟨w.heap.size, 0, none⟩ = some (.int .i64 b) := (hq.cell (p := ⟨w.heap.size, 0, none⟩) (by (try simp only [World.heap_size_alloc, World.heap_size_drew, World.heap_size_setCell]); omega)).trans cb0
      have db1 : w3.cell? ⟨w.heap.size, 1, none⟩ = some (.int .i64 t) := (hq.cell (p := ⟨w.heap.size, 1, none⟩) (by (try simp only [World.heap_size_alloc, World.heap_size_drew, World.heap_size_setCell]); omega)).trans cb1
      have db2 : w3.cell? ⟨w.heap.size, 2, none⟩ = some (.slice A n c) := (hq.cell (p := ⟨w.heap.size, 2, none⟩) (by (try simp only [World.heap_size_alloc, World.heap_size_drew, World.heap_size_setCell]); omega)).trans cb2
      have dm0 : w3.cell? ⟨w.heap.size + 1, 0, none⟩ = some (.int .i64 0) := (hq.cell (p := ⟨w.heap.size + 1, 0, none⟩) (by (try simp only [World.heap_size_alloc, World.heap_size_drew, World.heap_size_setCell]); omega)).trans ((World.cell?_alloc_lt _ _ _ (show w.heap.size + 1 < w2.heap.size by omega)).trans ((b2.cell (p := ⟨w.heap.size + 1, 0, none⟩) (show w.heap.size + 1 < w1.heap.size by omega)).trans am0))
      have dm1 : w3.cell? ⟨w.heap.size + 1, 1, none⟩ = some (.int .i64 0) := (hq.cell (p := ⟨w.heap.size + 1, 1, none⟩) (by (try simp only [World.heap_size_alloc, World.heap_size_drew, World.heap_size_setCell]); omega)).trans ((World.cell?_alloc_lt _ _ _ (show w.heap.size + 1 < w2.heap.size by omega)).trans ((b2.cell (p := ⟨w.heap.size + 1, 1, none⟩) (show w.heap.size + 1 < w1.heap.size by omega)).trans am1))
      have dm2 : w3.cell? ⟨w.heap.size + 1, 2, none⟩ = some (.slice none 0 0) := (hq.cell (p := ⟨w.heap.size + 1, 2, none⟩) (by (try simp only [World.heap_size_alloc, World.heap_size_drew, World.heap_size_setCell]); omega)).trans ((World.cell?_alloc_lt _ _ _ (show w.heap.size + 1 < w2.heap.size by omega)).trans ((b2.cell (p := ⟨w.heap.size + 1, 2, none⟩) (show w.heap.size + 1 < w1.heap.size by omega)).trans am2))
      have dz0 : w3.frozen? ⟨w.heap.size + 1, 0, none⟩ = false := (hq.frozen (p := ⟨w.heap.size + 1, 0, none⟩) (by (try simp only [World.heap_size_alloc, World.heap_size_drew, World.heap_size_setCell]); omega)).trans ((frozen_alloc_lt _ _ (p := ⟨w.heap.size + 1, 0, none⟩) (show w.heap.size + 1 < w2.heap.size by omega)).trans ((b2.frozen (p := ⟨w.heap.size + 1, 0, none⟩) (show w.heap.size + 1 < w1.heap.size by omega)).trans az0))
      have dz1 : w3.frozen? ⟨w.heap.size + 1, 1, none⟩ = false := (hq.frozen (p := ⟨w.heap.size + 1, 1, none⟩) (by (try simp only [World.heap_size_alloc, World.heap_size_drew, World.heap_size_setCell]); omega)).trans ((frozen_alloc_lt _ _ (p := ⟨w.heap.size + 1, 1, none⟩) (show w.heap.size + 1 < w2.heap.size by omega)).trans ((b2.frozen (p := ⟨w.heap.size + 1, 1, none⟩) (show w.heap.size + 1 < w1.heap.size by omega)).trans az1))
      have dz2 : w3.frozen? ⟨w.heap.size + 1, 2, none⟩ = false := (hq.frozen (p := ⟨w.heap.size + 1, 2, none⟩) (by (try simp only [World.heap_size_alloc, World.heap_size_drew, World.heap_size_setCell]); omega)).trans ((frozen_alloc_lt _ _ (p := ⟨w.heap.size + 1, 2, none⟩) (show w.heap.size + 1 < w2.heap.size by omega)).trans ((b2.frozen (p := ⟨w.heap.size + 1, 2, none⟩) (show w.heap.size + 1 < w1.heap.size by omega)).trans az2))
      have e0 : w3.cell? ⟨w2.heap.size, 0, none⟩ = some (.int .i64 b) := (hq.cell (p := ⟨w2.heap.size, 0, none⟩) (by (try simp only [World.heap_size_alloc, World.heap_size_drew, World.heap_size_setCell]); omega)).trans (by simp)
      have ez0 : w3.frozen? ⟨w2.heap.size, 0, none⟩ = false := (hq.frozen (p := ⟨w2.heap.size, 0, none⟩) (by (try simp only [World.heap_size_alloc, World.heap_size_drew, World.heap_size_setCell]); omega)).trans (by simp)
      have e1 : w3.cell? ⟨w2.heap.size, 1, none⟩ = some (.int .i64 t) := (hq.cell (p := ⟨w2.heap.size, 1, none⟩) (by (try simp only [World.heap_size_alloc, World.heap_size_drew, World.heap_size_setCell]); omega)).trans (by simp)
      have ez1 : w3.frozen? ⟨w2.heap.size, 1, none⟩ = false := (hq.frozen (p := ⟨w2.heap.size, 1, none⟩) (by (try simp only [World.heap_size_alloc, World.heap_size_drew, World.heap_size_setCell]); omega)).trans (by simp)
      have e2 : w3.cell? ⟨w2.heap.size, 2, none⟩ = some (.slice A2 n c2) := (hq.cell (p := ⟨w2.heap.size, 2, none⟩) (by (try simp only [World.heap_size_alloc, World.heap_size_drew, World.heap_size_setCell]); omega)).trans (by simp)
      have ez2 : w3.frozen? ⟨w2.heap.size, 2, none⟩ = false := (hq.frozen (p := ⟨w2.heap.size, 2, none⟩) (by (try simp only [World.heap_size_alloc, World.heap_size_drew, World.heap_size_setCell]); omega)).trans (by simp)
      clear ab0 ab1 ab2 am0 am1 am2 az0 az1 az2 cb0 fcb0 cb1 fcb1 cb2 fcb2
      go_wp2
      have S3 := S2.out.below (B := w2.heap.size) (w' := w3) (((Below.refl _ _).alloc (Nat.le_refl _) _).trans (hq.mono (by (try simp only [World.heap_size_alloc, World.heap_size_drew, World.heap_size_setCell]); omega))) (Nat.le_refl _)
      refine bodyPost_ret (v := .tuple #[.agg #[.int .i64 b, .int .i64 t, .slice A2 n c2], .bool false]) (by simp [results, Try.results36, go_sem, dm0, dm1, dm2, e0, e1, e2]) rfl ⟨A2, c2, rfl, ?_, ?_⟩
      · refine Sl.mono (Sl.upd (lo' := w.heap.size + 1) (hi' := w.heap.size + 2) S3 ?_ (.inr (by omega))) (by omega) (by (try simp only [World.heap_size_alloc, World.heap_size_drew, World.heap_size_setCell]); omega)
        (repeat' (first | with_reducible exact Upd.refl _ _ _ | with_reducible assumption | with_reducible refine Upd.drew ?_ | with_reducible refine Upd.alloc ?_ _ | with_reducible refine Upd.setCell ?_ ?_ ?_ _ | (simp only []; omega) | omega))
      · have c9 := hw3
        (repeat' (first | with_reducible exact Below.refl _ _ | with_reducible assumption | with_reducible refine Below.drew ?_ | with_reducible refine Below.alloc ?_ ?_ _ | with_reducible refine Below.setCell ?_ ?_ _ | with_reducible refine Below.trans ?_ (Below.mono (by assumption) ?_) | ((try simp only [World.heap_size_alloc, World.heap_size_drew, World.heap_size_setCell]); omega)))
    | true =>
      obtain ⟨xb0, xb1⟩ := btw_iff.1 hbt
      obtain ⟨j, hj⟩ := Int.eq_ofNat_of_zero_le (show 0 ≤ x - b by omega)
      have hjn : j ≤ n := by omega
      have hlj : (l.take j).length = j := by rw [List.length_take, HL.out]; omega
      have e0 : backTo b t l x = (b, t, l.take j, true) := by
        have : (x - b).toNat = j := by omega
        simp [backTo, hok, HL.out, hbt, this]
      rw [e0]
      clear e0
      show Calls _ _ _ _ (BookBRes w b t (l.take j).length ((l.take j).flatMap EntryD.ints) true)
      rw [hlj]
      obtain ⟨q0, q1, q2, q3, q4, _⟩ := bookOk_facts hok
      rw [HL.out] at q4
      have HLA := Lib.hid (fun W => l8Last_any b t A n c W q0 q1 q4)
      have CO : ∀ W, Sl W lo hi 9 A n c (l.flatMap EntryD.ints) → Calls Try.prog 21 #[.agg #[.int .i64 b, .int .i64 t, .slice A n c]] W fun x w' => x = .returned (.bool true) ∧ Below W.heap.size W w' := fun W s => by
        have h7 := sBookOk_any b t A n c lo hi l W s
        rw [hok] at h7
        exact h7
      have HO := Lib.hid CO
      clear CO
      have HCP := Lib.hid (fun W s => l8Copy_any b t A n c lo hi l W s (by omega))
      have CB : ∀ W, Calls Try.prog 56 #[.int .i64 x, .int .i64 b, .int .i64 (b + (n : Int))] W fun y w' => y = .returned (.bool true) ∧ Below W.heap.size W w' := fun W => (l1In_any x b (b + (n : Int)) W).mono fun y w' ⟨h1, h2⟩ => ⟨by rw [h1, hbt], by rw [← h2]; exact Below.refl _ _⟩
      have HBT := Lib.hid CB
      clear CB
      clear hok hbt
      go_enter Try.func36, Try.ntmps36
      go_wp2_with fail
      (with_reducible refine (HO.out _ (h.below (B := w.heap.size) (by (repeat' (first | with_reducible exact Below.refl _ _ | with_reducible assumption | with_reducible refine Below.drew ?_ | with_reducible refine Below.alloc ?_ ?_ _ | with_reducible refine Below.setCell ?_ ?_ _ | with_reducible refine Below.trans ?_ (Below.mono (by assumption) ?_) | ((try simp only [World.heap_size_alloc, World.heap_size_drew, World.heap_size_setCell]); omega)))) hhi)).mono ?_); rintro _ w1 ⟨rfl, b1⟩
      have y1 := b1.size
      (try simp only [World.heap_size_alloc] at y1)
      have hw1 : Below w.heap.size w w1 := by (repeat' (first | with_reducible exact Below.refl _ _ | with_reducible assumption | with_reducible refine Below.drew ?_ | with_reducible refine Below.alloc ?_ ?_ _ | with_reducible refine Below.setCell ?_ ?_ _ | with_reducible refine Below.trans ?_ (Below.mono (by assumption) ?_) | ((try simp only [World.heap_size_alloc, World.heap_size_drew, World.heap_size_setCell]); omega)))
      have ab0 : w1.cell? ⟨w.heap.size, 0, none⟩ = some (.int .i64 b) := (b1.cell (p := ⟨w.heap.size, 0, none⟩) (by (try simp only [World.heap_size_alloc, World.heap_size_drew, World.heap_size_setCell]); omega)).trans (by simp)
      have ab1 : w1.cell? ⟨w.heap.size, 1, none⟩ = some (.int .i64 t) := (b1.cell (p := ⟨w.heap.size, 1, none⟩) (by (try simp only [World.heap_size_alloc, World.heap_size_drew, World.heap_size_setCell]); omega)).trans (by simp)
      have ab2 : w1.cell? ⟨w.heap.size, 2, none⟩ = some (.slice A n c) := (b1.cell (p := ⟨w.heap.size, 2, none⟩) (by (try simp only [World.heap_size_alloc, World.heap_size_drew, World.heap_size_setCell]); omega)).trans (by simp)
      have am0 : w1.cell? ⟨w.heap.size + 1, 0, none⟩ = some (.int .i64 0) := (b1.cell (p := ⟨w.heap.size + 1, 0, none⟩) (by (try simp only [World.heap_size_alloc, World.heap_size_drew, World.heap_size_setCell]); omega)).trans (by simp)
      have am1 : w1.cell? ⟨w.heap.size + 1, 1, none⟩ = some (.int .i64 0) := (b1.cell (p := ⟨w.heap.size + 1, 1, none⟩) (by (try simp only [World.heap_size_alloc, World.heap_size_drew, World.heap_size_setCell]); omega)).trans (by simp)
      have am2 : w1.cell? ⟨w.heap.size + 1, 2, none⟩ = some (.slice none 0 0) := (b1.cell (p := ⟨w.heap.size + 1, 2, none⟩) (by (try simp only [World.heap_size_alloc, World.heap_size_drew, World.heap_size_setCell]); omega)).trans (by simp)
      have az0 : w1.frozen? ⟨w.heap.size + 1, 0, none⟩ = false := (b1.frozen (p := ⟨w.heap.size + 1, 0, none⟩) (by (try simp only [World.heap_size_alloc, World.heap_size_drew, World.heap_size_setCell]); omega)).trans (by simp)
      have az1 : w1.frozen? ⟨w.heap.size + 1, 1, none⟩ = false := (b1.frozen (p := ⟨w.heap.size + 1, 1, none⟩) (by (try simp only [World.heap_size_alloc, World.heap_size_drew, World.heap_size_setCell]); omega)).trans (by simp)
      have az2 : w1.frozen? ⟨w.heap.size + 1, 2, none⟩ = false := (b1.frozen (p := ⟨w.heap.size + 1, 2, none⟩) (by (try simp only [World.heap_size_alloc, World.heap_size_drew, World.heap_size_setCell]); omega)).trans (by simp)
      go_wp2_with fail
      (with_reducible refine (HCP.out _ (h.below hw1 hhi)).mono ?_); rintro _ w2 ⟨A2, c2, rfl, s2, b2⟩
      have y2 := b2.size
      have hz1 : w.heap.size + 1 < w1.heap.size := by omega
      have hw2 : Below w.heap.size w w2 := hw1.trans (b2.mono (by omega))
      have cb0 : (w2.alloc (.cells #[.int .i64 b, .int .i64 t, .slice A2 n c2] 29)).cell? ⟨w.heap.size, 0, none⟩ = some (.int .i64 b) := (World.cell?_alloc_lt _ _ _ (show w.heap.size < w2.heap.size by omega)).trans ((b2.cell (p := ⟨w.heap.size, 0, none⟩) (show w.heap.size < w1.heap.size by omega)).trans ab0)
      have fcb0 := fun d os => cell_regrown cb0 d os
      have cb1 : (w2.alloc (.cells #[.int .i64 b, .int .i64 t, .slice A2 n c2] 29)).cell? ⟨w.heap.size, 1, none⟩ = some (.int .i64 t) := (World.cell?_alloc_lt _ _ _ (show w.heap.size < w2.heap.size by omega)).trans ((b2.cell (p := ⟨w.heap.size, 1, none⟩) (show w.heap.size < w1.heap.size by omega)).trans ab1)
      have fcb1 := fun d os => cell_regrown cb1 d os
      have cb2 : (w2.alloc (.cells #[.int .i64 b, .int .i64 t, .slice A2 n c2] 29)).cell? ⟨w.heap.size, 2, none⟩ = some (.slice A n c) := (World.cell?_alloc_lt _ _ _ (show w.heap.size < w2.heap.size by omega)).trans ((b2.cell (p := ⟨w.heap.size, 2, none⟩) (show w.heap.size < w1.heap.size by omega)).trans ab2)
      have fcb2 := fun d os => cell_regrown cb2 d os
      have S2 := Lib.hid s2
      clear s2
      go_wp2_with fail
      refine wp_region_quiet_below (by kernel_rfl) (by kernel_rfl) ?_; (repeat (first | go_big_quiet_step ((first | (go_at_call 62; exact Calls.regrown_of (HLA.out _)) | (go_at_call 56; exact Calls.regrown_of (HBT.out _)))) | quiet_step ((first | (go_at_call 62; exact Calls.regrown_of (HLA.out _)) | (go_at_call 56; exact Calls.regrown_of (HBT.out _)))))); refine wpQuiet_nil ?_; intro _ hw'; obtain ⟨⟨nq, osq⟩, hw''⟩ := hw'; subst hw''; have hq := below_regrown (w2.alloc (.cells #[.int .i64 b, .int .i64 t, .slice A2 n c2] 29)) nq osq; generalize Sort.grow (redrawn (w2.alloc (.cells #[.int .i64 b, .int .i64 t, .slice A2 n c2] 29)) nq) osq = w3 at *
      have y3 := hq.size
      simp only [World.heap_size_alloc] at y3
      have hw3 : Below w.heap.size w w3 := hw2.trans (((Below.refl _ _).alloc (by omega) _).trans (hq.mono (by (try simp only [World.heap_size_alloc, World.heap_size_drew, World.heap_size_setCell]); omega)))
      have db0 : w3.cell? ⟨w.heap.size, 0, none⟩ = some (.int .i64 b) := (hq.cell (p := ⟨w.heap.size, 0, none⟩) (by (try simp only [World.heap_size_alloc, World.heap_size_drew, World.heap_size_setCell]); omega)).trans cb0
      have db1 : w3.cell? ⟨w.heap.size, 1, none⟩ = some (.int .i64 t) := (hq.cell (p := ⟨w.heap.size, 1, none⟩) (by (try simp only [World.heap_size_alloc, World.heap_size_drew, World.heap_size_setCell]); omega)).trans cb1
      have db2 : w3.cell? ⟨w.heap.size, 2, none⟩ = some (.slice A n c) := (hq.cell (p := ⟨w.heap.size, 2, none⟩) (by (try simp only [World.heap_size_alloc, World.heap_size_drew, World.heap_size_setCell]); omega)).trans cb2
      have dm0 : w3.cell? ⟨w.heap.size + 1, 0, none⟩ = some (.int .i64 0) := (hq.cell (p := ⟨w.heap.size + 1, 0, none⟩) (by (try simp only [World.heap_size_alloc, World.heap_size_drew, World.heap_size_setCell]); omega)).trans ((World.cell?_alloc_lt _ _ _ (show w.heap.size + 1 < w2.heap.size by omega)).trans ((b2.cell (p := ⟨w.heap.size + 1, 0, none⟩) (show w.heap.size + 1 < w1.heap.size by omega)).trans am0))
      have dm1 : w3.cell? ⟨w.heap.size + 1, 1, none⟩ = some (.int .i64 0) := (hq.cell (p := ⟨w.heap.size + 1, 1, none⟩) (by (try simp only [World.heap_size_alloc, World.heap_size_drew, World.heap_size_setCell]); omega)).trans ((World.cell?_alloc_lt _ _ _ (show w.heap.size + 1 < w2.heap.size by omega)).trans ((b2.cell (p := ⟨w.heap.size + 1, 1, none⟩) (show w.heap.size + 1 < w1.heap.size by omega)).trans am1))
      have dm2 : w3.cell? ⟨w.heap.size + 1, 2, none⟩ = some (.slice none 0 0) := (hq.cell (p := ⟨w.heap.size + 1, 2, none⟩) (by (try simp only [World.heap_size_alloc, World.heap_size_drew, World.heap_size_setCell]); omega)).trans ((World.cell?_alloc_lt _ _ _ (show w.heap.size + 1 < w2.heap.size by omega)).trans ((b2.cell (p := ⟨w.heap.size + 1, 2, none⟩) (show w.heap.size + 1 < w1.heap.size by omega)).trans am2))
      have dz0 : w3.frozen? ⟨w.heap.size + 1, 0, none⟩ = false := (hq.frozen (p := ⟨w.heap.size + 1, 0, none⟩) (by (try simp only [World.heap_size_alloc, World.heap_size_drew, World.heap_size_setCell]); omega)).trans ((frozen_alloc_lt _ _ (p := ⟨w.heap.size + 1, 0, none⟩) (show w.heap.size + 1 < w2.heap.size by omega)).trans ((b2.frozen (p := ⟨w.heap.size + 1, 0, none⟩) (show w.heap.size + 1 < w1.heap.size by omega)).trans az0))
      have dz1 : w3.frozen? ⟨w.heap.size + 1, 1, none⟩ = false := (hq.frozen (p := ⟨w.heap.size + 1, 1, none⟩) (by (try simp only [World.heap_size_alloc, World.heap_size_drew, World.heap_size_setCell]); omega)).trans ((frozen_alloc_lt _ _ (p := ⟨w.heap.size + 1, 1, none⟩) (show w.heap.size + 1 < w2.heap.size by omega)).trans ((b2.frozen (p := ⟨w.heap.size + 1, 1, none⟩) (show w.heap.size + 1 < w1.heap.size by omega)).trans az1))
      have dz2 : w3.frozen? ⟨w.heap.size + 1, 2, none⟩ = false := (hq.frozen (p := ⟨w.heap.size + 1, 2, none⟩) (by (try simp only [World.heap_size_alloc, World.heap_size_drew, World.heap_size_setCell]); omega)).trans ((frozen_alloc_lt _ _ (p := ⟨w.heap.size + 1, 2, none⟩) (show w.heap.size + 1 < w2.heap.size by omega)).trans ((b2.frozen (p := ⟨w.heap.size + 1, 2, none⟩) (show w.heap.size + 1 < w1.heap.size by omega)).trans az2))
      have e0 : w3.cell? ⟨w2.heap.size, 0, none⟩ = some (.int .i64 b) := (hq.cell (p := ⟨w2.heap.size, 0, none⟩) (by (try simp only [World.heap_size_alloc, World.heap_size_drew, World.heap_size_setCell]); omega)).trans (by simp)
      have ez0 : w3.frozen? ⟨w2.heap.size, 0, none⟩ = false := (hq.frozen (p := ⟨w2.heap.size, 0, none⟩) (by (try simp only [World.heap_size_alloc, World.heap_size_drew, World.heap_size_setCell]); omega)).trans (by simp)
      have e1 : w3.cell? ⟨w2.heap.size, 1, none⟩ = some (.int .i64 t) := (hq.cell (p := ⟨w2.heap.size, 1, none⟩) (by (try simp only [World.heap_size_alloc, World.heap_size_drew, World.heap_size_setCell]); omega)).trans (by simp)
      have ez1 : w3.frozen? ⟨w2.heap.size, 1, none⟩ = false := (hq.frozen (p := ⟨w2.heap.size, 1, none⟩) (by (try simp only [World.heap_size_alloc, World.heap_size_drew, World.heap_size_setCell]); omega)).trans (by simp)
      have e2 : w3.cell? ⟨w2.heap.size, 2, none⟩ = some (.slice A2 n c2) := (hq.cell (p := ⟨w2.heap.size, 2, none⟩) (by (try simp only [World.heap_size_alloc, World.heap_size_drew, World.heap_size_setCell]); omega)).trans (by simp)
      have ez2 : w3.frozen? ⟨w2.heap.size, 2, none⟩ = false := (hq.frozen (p := ⟨w2.heap.size, 2, none⟩) (by (try simp only [World.heap_size_alloc, World.heap_size_drew, World.heap_size_setCell]); omega)).trans (by simp)
      clear ab0 ab1 ab2 am0 am1 am2 az0 az1 az2 cb0 fcb0 cb1 fcb1 cb2 fcb2
      have S3 := S2.out.below (B := w2.heap.size) (w' := w3) (((Below.refl _ _).alloc (Nat.le_refl _) _).trans (hq.mono (by (try simp only [World.heap_size_alloc, World.heap_size_drew, World.heap_size_setCell]); omega))) (Nat.le_refl _)
      have S4 : Hid (Sl w3 w1.heap.size w2.heap.size 9 A2 j c2 ((l.take j).flatMap EntryD.ints)) := Lib.hid (S3.front EntryD.ints_len hjn)
      have hc2 : n ≤ c2 := S3.cap
      have hc3 : c2 ≤ 9223372036854775807 := S3.big
      have hx1 : x = b + (j : Int) := by omega
      clear hj hlj S3 hq
      subst hx1
      have hx2 : b + (j : Int) - b = (j : Int) := by omega
      have hx3 : (j : Int) ≤ (c2 : Int) := by omega
      have hx4 : (0 : Int) ≤ (j : Int) := by omega
      go_wp2
      refine bodyPost_ret (v := .tuple #[.agg #[.int .i64 b, .int .i64 t, .slice A2 j c2], .bool true]) (by simp [results, Try.results36, go_sem, dm0, dm1, dm2, e0, e1, e2]) rfl ⟨A2, c2, rfl, ?_, ?_⟩
      · have S5 := Sl.upd (w' := w3.setCell ⟨w2.heap.size, 2, none⟩ (.slice A2 j c2)) (lo' := w2.heap.size) (hi' := w2.heap.size + 1) S4.out (by (repeat' (first | with_reducible exact Upd.refl _ _ _ | with_reducible assumption | with_reducible refine Upd.drew ?_ | with_reducible refine Upd.alloc ?_ _ | with_reducible refine Upd.setCell ?_ ?_ ?_ _ | (simp only []; omega) | omega))) (.inl (Nat.le_refl _))
        refine Sl.mono (Sl.upd (lo' := w.heap.size + 1) (hi' := w.heap.size + 2) S5 ?_ (.inr (by omega))) (by omega) (by (try simp only [World.heap_size_alloc, World.heap_size_drew, World.heap_size_setCell]); omega)
        (repeat' (first | with_reducible exact Upd.refl _ _ _ | with_reducible assumption | with_reducible refine Upd.drew ?_ | with_reducible refine Upd.alloc ?_ _ | with_reducible refine Upd.setCell ?_ ?_ ?_ _ | (simp only []; omega) | omega))
      · have c9 := hw3
        (repeat' (first | with_reducible exact Below.refl _ _ | with_reducible assumption | with_reducible refine Below.drew ?_ | with_reducible refine Below.alloc ?_ ?_ _ | with_reducible refine Below.setCell ?_ ?_ _ | with_reducible refine Below.trans ?_ (Below.mono (by assumption) ?_) | ((try simp only [World.heap_size_alloc, World.heap_size_drew, World.heap_size_setCell]); omega)))
set_option maxRecDepth 100000 in
set_option maxHeartbeats 2000000 in
theorem backTo_any (b t : Int) (A : Option Addr) (n c lo hi : Nat) (l : List EntryD) (x : Int) (w : World) (h : Sl w lo hi 9 A n c (l.flatMap EntryD.ints)) :
    Calls Try.prog 37 #[.agg #[.int .i64 b, .int .i64 t, .slice A n c], .int .i64 x] w (BookBRes w (backTo b t l x).1 (backTo b t l x).2.1 (backTo b t l x).2.2.1.length ((backTo b t l x).2.2.1.flatMap EntryD.ints) (backTo b t l x).2.2.2) := by
  have HL := Lib.hid (h.count EntryD.ints_len (by omega) : l.length = n)
  replace h := h.fit (by omega)
  have hhi : min hi w.heap.size ≤ w.heap.size := Nat.min_le_right _ _
  generalize min hi w.heap.size = hi at h hhi
  cases hok : bookOk b t l with
  | false =>
    have e0 : backTo b t l x = (0, 0, [], false) := by simp [backTo, trimmedTo, hok]
    rw [e0]
    clear e0
    have CO : ∀ W, Sl W lo hi 9 A n c (l.flatMap EntryD.ints) → Calls Try.prog 22 #[.agg #[.int .i64 b, .int .i64 t, .slice A n c]] W fun x w' => x = .returned (.bool false) ∧ Below W.heap.size W w' := fun W s => by
      have h7 := bookOk_any b t A n c lo hi l W s
      rw [hok] at h7
      exact h7
    have HO := Lib.hid CO
    clear CO
    clear hok
    go_enter Try.func37, Try.ntmps37
    go_wp2_with fail
    (with_reducible refine (HO.out _ (h.below (B := w.heap.size) (by (repeat' (first | with_reducible exact Below.refl _ _ | with_reducible assumption | with_reducible refine Below.drew ?_ | with_reducible refine Below.alloc ?_ ?_ _ | with_reducible refine Below.setCell ?_ ?_ _ | with_reducible refine Below.trans ?_ (Below.mono (by assumption) ?_) | ((try simp only [World.heap_size_alloc, World.heap_size_drew, World.heap_size_setCell]); omega)))) hhi)).mono ?_); rintro _ w1 ⟨rfl, b1⟩
    have y1 := b1.size
    (try simp only [World.heap_size_alloc] at y1)
    have hw1 : Below w.heap.size w w1 := by (repeat' (first | with_reducible exact Below.refl _ _ | with_reducible assumption | with_reducible refine Below.drew ?_ | with_reducible refine Below.alloc ?_ ?_ _ | with_reducible refine Below.setCell ?_ ?_ _ | with_reducible refine Below.trans ?_ (Below.mono (by assumption) ?_) | ((try simp only [World.heap_size_alloc, World.heap_size_drew, World.heap_size_setCell]); omega)))
    have m0 : w1.cell? ⟨w.heap.size + 1, 0, none⟩ = some (.int .i64 0) := (b1.cell (p := ⟨w.heap.size + 1, 0, none⟩) (by (try simp only [World.heap_size_alloc, World.heap_size_drew, World.heap_size_setCell]); omega)).trans (by simp)
    have f0 : w1.frozen? ⟨w.heap.size + 1, 0, none⟩ = false := (b1.frozen (p := ⟨w.heap.size + 1, 0, none⟩) (by (try simp only [World.heap_size_alloc, World.heap_size_drew, World.heap_size_setCell]); omega)).trans (by simp)
    have m1 : w1.cell? ⟨w.heap.size + 1, 1, none⟩ = some (.int .i64 0) := (b1.cell (p := ⟨w.heap.size + 1, 1, none⟩) (by (try simp only [World.heap_size_alloc, World.heap_size_drew, World.heap_size_setCell]); omega)).trans (by simp)
    have f1 : w1.frozen? ⟨w.heap.size + 1, 1, none⟩ = false := (b1.frozen (p := ⟨w.heap.size + 1, 1, none⟩) (by (try simp only [World.heap_size_alloc, World.heap_size_drew, World.heap_size_setCell]); omega)).trans (by simp)
    have m2 : w1.cell? ⟨w.heap.size + 1, 2, none⟩ = some (.slice none 0 0) := (b1.cell (p := ⟨w.heap.size + 1, 2, none⟩) (by (try simp only [World.heap_size_alloc, World.heap_size_drew, World.heap_size_setCell]); omega)).trans (by simp)
    have f2 : w1.frozen? ⟨w.heap.size + 1, 2, none⟩ = false := (b1.frozen (p := ⟨w.heap.size + 1, 2, none⟩) (by (try simp only [World.heap_size_alloc, World.heap_size_drew, World.heap_size_setCell]); omega)).trans (by simp)
    go_wp2_with fail
    refine bodyPost_ret (v := .tuple #[.agg #[.int .i64 0, .int .i64 0, .slice none 0 0], .bool false]) (by simp [results, Try.results37, go_sem, m0, m1, m2]) rfl ⟨none, 0, rfl, Sl.nil _ _ _ _ _ _ (by omega), ?_⟩
    exact hw1.trans (by (repeat' (first | with_reducible exact Below.refl _ _ | with_reducible assumption | with_reducible refine Below.drew ?_ | with_reducible refine Below.alloc ?_ ?_ _ | with_reducible refine Below.setCell ?_ ?_ _ | with_reducible refine Below.trans ?_ (Below.mono (by assumption) ?_) | ((try simp only [World.heap_size_alloc, World.heap_size_drew, World.heap_size_setCell]); omega))))
  | true =>
    cases hbt : btw x b (b + (n : Int)) with
    | false =>
      have e0 : backTo b t l x = (b, t, l, false) := by simp [backTo, hok, HL.out, hbt]
      rw [e0]
      clear e0
      show Calls _ _ _ _ (BookBRes w b t l.length (l.flatMap EntryD.ints) false)
      rw [HL.out]
      obtain ⟨q0, q1, q2, q3, q4, _⟩ := bookOk_facts hok
      rw [HL.out] at q4
      have HLA := Lib.hid (fun W => lastOf_any b t A n c W q0 q1 q4)
      have CO : ∀ W, Sl W lo hi 9 A n c (l.flatMap EntryD.ints) → Calls Try.prog 22 #[.agg #[.int .i64 b, .int .i64 t, .slice A n c]] W fun x w' => x = .returned (.bool true) ∧ Below W.heap.size W w' := fun W s => by
        have h7 := bookOk_any b t A n c lo hi l W s
        rw [hok] at h7
        exact h7
      have HO := Lib.hid CO
      clear CO
      have HCP := Lib.hid (fun W s => copyBook_any b t A n c lo hi l W s (by omega))
      have CB : ∀ W, Calls Try.prog 59 #[.int .i64 x, .int .i64 b, .int .i64 (b + (n : Int))] W fun y w' => y = .returned (.bool false) ∧ Below W.heap.size W w' := fun W => (between_any x b (b + (n : Int)) W).mono fun y w' ⟨h1, h2⟩ => ⟨by rw [h1, hbt], by rw [← h2]; exact Below.refl _ _⟩
      have HBT := Lib.hid CB
      clear CB
      clear hok hbt
      go_enter Try.func37, Try.ntmps37
      go_wp2_with fail
      (with_reducible refine (HO.out _ (h.below (B := w.heap.size) (by (repeat' (first | with_reducible exact Below.refl _ _ | with_reducible assumption | with_reducible refine Below.drew ?_ | with_reducible refine Below.alloc ?_ ?_ _ | with_reducible refine Below.setCell ?_ ?_ _ | with_reducible refine Below.trans ?_ (Below.mono (by assumption) ?_) | ((try simp only [World.heap_size_alloc, World.heap_size_drew, World.heap_size_setCell]); omega)))) hhi)).mono ?_); rintro _ w1 ⟨rfl, b1⟩
      have y1 := b1.size
      (try simp only [World.heap_size_alloc] at y1)
      have hw1 : Below w.heap.size w w1 := by (repeat' (first | with_reducible exact Below.refl _ _ | with_reducible assumption | with_reducible refine Below.drew ?_ | with_reducible refine Below.alloc ?_ ?_ _ | with_reducible refine Below.setCell ?_ ?_ _ | with_reducible refine Below.trans ?_ (Below.mono (by assumption) ?_) | ((try simp only [World.heap_size_alloc, World.heap_size_drew, World.heap_size_setCell]); omega)))
      have ab0 : w1.cell? ⟨w.heap.size, 0, none⟩ = some (.int .i64 b) := (b1.cell (p := ⟨w.heap.size, 0, none⟩) (by (try simp only [World.heap_size_alloc, World.heap_size_drew, World.heap_size_setCell]); omega)).trans (by simp)
      have ab1 : w1.cell? ⟨w.heap.size, 1, none⟩ = some (.int .i64 t) := (b1.cell (p := ⟨w.heap.size, 1, none⟩) (by (try simp only [World.heap_size_alloc, World.heap_size_drew, World.heap_size_setCell]); omega)).trans (by simp)
      have ab2 : w1.cell? ⟨w.heap.size, 2, none⟩ = some (.slice A n c) := (b1.cell (p := ⟨w.heap.size, 2, none⟩) (by (try simp only [World.heap_size_alloc, World.heap_size_drew, World.heap_size_setCell]); omega)).trans (by simp)
      have am0 : w1.cell? ⟨w.heap.size + 1, 0, none⟩ = some (.int .i64 0) := (b1.cell (p := ⟨w.heap.size + 1, 0, none⟩) (by (try simp only [World.heap_size_alloc, World.heap_size_drew, World.heap_size_setCell]); omega)).trans (by simp)
      have am1 : w1.cell? ⟨w.heap.size + 1, 1, none⟩ = some (.int .i64 0) := (b1.cell (p := ⟨w.heap.size + 1, 1, none⟩) (by (try simp only [World.heap_size_alloc, World.heap_size_drew, World.heap_size_setCell]); omega)).trans (by simp)
      have am2 : w1.cell? ⟨w.heap.size + 1, 2, none⟩ = some (.slice none 0 0) := (b1.cell (p := ⟨w.heap.size + 1, 2, none⟩) (by (try simp only [World.heap_size_alloc, World.heap_size_drew, World.heap_size_setCell]); omega)).trans (by simp)
      have az0 : w1.frozen? ⟨w.heap.size + 1, 0, none⟩ = false := (b1.frozen (p := ⟨w.heap.size + 1, 0, none⟩) (by (try simp only [World.heap_size_alloc, World.heap_size_drew, World.heap_size_setCell]); omega)).trans (by simp)
      have az1 : w1.frozen? ⟨w.heap.size + 1, 1, none⟩ = false := (b1.frozen (p := ⟨w.heap.size + 1, 1, none⟩) (by (try simp only [World.heap_size_alloc, World.heap_size_drew, World.heap_size_setCell]); omega)).trans (by simp)
      have az2 : w1.frozen? ⟨w.heap.size + 1, 2, none⟩ = false := (b1.frozen (p := ⟨w.heap.size + 1, 2, none⟩) (by (try simp only [World.heap_size_alloc, World.heap_size_drew, World.heap_size_setCell]); omega)).trans (by simp)
      go_wp2_with fail
      (with_reducible refine (HCP.out _ (h.below hw1 hhi)).mono ?_); rintro _ w2 ⟨A2, c2, rfl, s2, b2⟩
      have y2 := b2.size
      have hz1 : w.heap.size + 1 < w1.heap.size := by omega
      have hw2 : Below w.heap.size w w2 := hw1.trans (b2.mono (by omega))
      have cb0 : (w2.alloc (.cells #[.int .i64 b, .int .i64 t, .slice A2 n c2] 29)).cell? ⟨w.heap.size, 0, none⟩ = some (.int .i64 b) := (World.cell?_alloc_lt _ _ _ (show w.heap.size < w2.heap.size by omega)).trans ((b2.cell (p := ⟨w.heap.size, 0, none⟩) (show w.heap.size < w1.heap.size by omega)).trans ab0)
      have fcb0 := fun d os => cell_regrown cb0 d os
      have cb1 : (w2.alloc (.cells #[.int .i64 b, .int .i64 t, .slice A2 n c2] 29)).cell? ⟨w.heap.size, 1, none⟩ = some (.int .i64 t) := (World.cell?_alloc_lt _ _ _ (show w.heap.size < w2.heap.size by omega)).trans ((b2.cell (p := ⟨w.heap.size, 1, none⟩) (show w.heap.size < w1.heap.size by omega)).trans ab1)
      have fcb1 := fun d os => cell_regrown cb1 d os
      have cb2 : (w2.alloc (.cells #[.int .i64 b, .int .i64 t, .slice A2 n c2] 29)).cell? ⟨w.heap.size, 2, none⟩ = some (.slice A n c) := (World.cell?_alloc_lt _ _ _ (show w.heap.size < w2.heap.size by omega)).trans ((b2.cell (p := ⟨w.heap.size, 2, none⟩) (show w.heap.size < w1.heap.size by omega)).trans ab2)
      have fcb2 := fun d os => cell_regrown cb2 d os
      have S2 := Lib.hid s2
      clear s2
      go_wp2_with fail
      refine wp_region_quiet_below (by kernel_rfl) (by kernel_rfl) ?_; (repeat (first | go_big_quiet_step ((first | (go_at_call 63; exact Calls.regrown_of (HLA.out _)) | (go_at_call 59; exact Calls.regrown_of (HBT.out _)))) | quiet_step ((first | (go_at_call 63; exact Calls.regrown_of (HLA.out _)) | (go_at_call 59; exact Calls.regrown_of (HBT.out _)))))); refine wpQuiet_nil ?_; intro _ hw'; obtain ⟨⟨nq, osq⟩, hw''⟩ := hw'; subst hw''; have hq := below_regrown (w2.alloc (.cells #[.int .i64 b, .int .i64 t, .slice A2 n c2] 29)) nq osq; generalize Sort.grow (redrawn (w2.alloc (.cells #[.int .i64 b, .int .i64 t, .slice A2 n c2] 29)) nq) osq = w3 at *
      have y3 := hq.size
      simp only [World.heap_size_alloc] at y3
      have hw3 : Below w.heap.size w w3 := hw2.trans (((Below.refl _ _).alloc (by omega) _).trans (hq.mono (by (try simp only [World.heap_size_alloc, World.heap_size_drew, World.heap_size_setCell]); omega)))
      have db0 : w3.cell? ⟨w.heap.size, 0, none⟩ = some (.int .i64 b) := (hq.cell (p := ⟨w.heap.size, 0, none⟩) (by (try simp only [World.heap_size_alloc, World.heap_size_drew, World.heap_size_setCell]); omega)).trans cb0
      have db1 : w3.cell? ⟨w.heap.size, 1, none⟩ = some (.int .i64 t) := (hq.cell (p := ⟨w.heap.size, 1, none⟩) (by (try simp only [World.heap_size_alloc, World.heap_size_drew, World.heap_size_setCell]); omega)).trans cb1
      have db2 : w3.cell? ⟨w.heap.size, 2, none⟩ = some (.slice A n c) := (hq.cell (p := ⟨w.heap.size, 2, none⟩) (by (try simp only [World.heap_size_alloc, World.heap_size_drew, World.heap_size_setCell]); omega)).trans cb2
      have dm0 : w3.cell? ⟨w.heap.size + 1, 0, none⟩ = some (.int .i64 0) := (hq.cell (p := ⟨w.heap.size + 1, 0, none⟩) (by (try simp only [World.heap_size_alloc, World.heap_size_drew, World.heap_size_setCell]); omega)).trans ((World.cell?_alloc_lt _ _ _ (show w.heap.size + 1 < w2.heap.size by omega)).trans ((b2.cell (p := ⟨w.heap.size + 1, 0, none⟩) (show w.heap.size + 1 < w1.heap.size by omega)).trans am0))
      have dm1 : w3.cell? ⟨w.heap.size + 1, 1, none⟩ = some (.int .i64 0) := (hq.cell (p := ⟨w.heap.size + 1, 1, none⟩) (by (try simp only [World.heap_size_alloc, World.heap_size_drew, World.heap_size_setCell]); omega)).trans ((World.cell?_alloc_lt _ _ _ (show w.heap.size + 1 < w2.heap.size by omega)).trans ((b2.cell (p := ⟨w.heap.size + 1, 1, none⟩) (show w.heap.size + 1 < w1.heap.size by omega)).trans am1))
      have dm2 : w3.cell? ⟨w.heap.size + 1, 2, none⟩ = some (.slice none 0 0) := (hq.cell (p := ⟨w.heap.size + 1, 2, none⟩) (by (try simp only [World.heap_size_alloc, World.heap_size_drew, World.heap_size_setCell]); omega)).trans ((World.cell?_alloc_lt _ _ _ (show w.heap.size + 1 < w2.heap.size by omega)).trans ((b2.cell (p := ⟨w.heap.size + 1, 2, none⟩) (show w.heap.size + 1 < w1.heap.size by omega)).trans am2))
      have dz0 : w3.frozen? ⟨w.heap.size + 1, 0, none⟩ = false := (hq.frozen (p := ⟨w.heap.size + 1, 0, none⟩) (by (try simp only [World.heap_size_alloc, World.heap_size_drew, World.heap_size_setCell]); omega)).trans ((frozen_alloc_lt _ _ (p := ⟨w.heap.size + 1, 0, none⟩) (show w.heap.size + 1 < w2.heap.size by omega)).trans ((b2.frozen (p := ⟨w.heap.size + 1, 0, none⟩) (show w.heap.size + 1 < w1.heap.size by omega)).trans az0))
      have dz1 : w3.frozen? ⟨w.heap.size + 1, 1, none⟩ = false := (hq.frozen (p := ⟨w.heap.size + 1, 1, none⟩) (by (try simp only [World.heap_size_alloc, World.heap_size_drew, World.heap_size_setCell]); omega)).trans ((frozen_alloc_lt _ _ (p := ⟨w.heap.size + 1, 1, none⟩) (show w.heap.size + 1 < w2.heap.size by omega)).trans ((b2.frozen (p := ⟨w.heap.size + 1, 1, none⟩) (show w.heap.size + 1 < w1.heap.size by omega)).trans az1))
      have dz2 : w3.frozen? ⟨w.heap.size + 1, 2, none⟩ = false := (hq.frozen (p := ⟨w.heap.size + 1, 2, none⟩) (by (try simp only [World.heap_size_alloc, World.heap_size_drew, World.heap_size_setCell]); omega)).trans ((frozen_alloc_lt _ _ (p := ⟨w.heap.size + 1, 2, none⟩) (show w.heap.size + 1 < w2.heap.size by omega)).trans ((b2.frozen (p := ⟨w.heap.size + 1, 2, none⟩) (show w.heap.size + 1 < w1.heap.size by omega)).trans az2))
      have e0 : w3.cell? ⟨w2.heap.size, 0, none⟩ = some (.int .i64 b) := (hq.cell (p := ⟨w2.heap.size, 0, none⟩) (by (try simp only [World.heap_size_alloc, World.heap_size_drew, World.heap_size_setCell]); omega)).trans (by simp)
      have ez0 : w3.frozen? ⟨w2.heap.size, 0, none⟩ = false := (hq.frozen (p := ⟨w2.heap.size, 0, none⟩) (by (try simp only [World.heap_size_alloc, World.heap_size_drew, World.heap_size_setCell]); omega)).trans (by simp)
      have e1 : w3.cell? ⟨w2.heap.size, 1, none⟩ = some (.int .i64 t) := (hq.cell (p := ⟨w2.heap.size, 1, none⟩) (by (try simp only [World.heap_size_alloc, World.heap_size_drew, World.heap_size_setCell]); omega)).trans (by simp)
      have ez1 : w3.frozen? ⟨w2.heap.size, 1, none⟩ = false := (hq.frozen (p := ⟨w2.heap.size, 1, none⟩) (by (try simp only [World.heap_size_alloc, World.heap_size_drew, World.heap_size_setCell]); omega)).trans (by simp)
      have e2 : w3.cell? ⟨w2.heap.size, 2, none⟩ = some (.slice A2 n c2) := (hq.cell (p := ⟨w2.heap.size, 2, none⟩) (by (try simp only [World.heap_size_alloc, World.heap_size_drew, World.heap_size_setCell]); omega)).trans (by simp)
      have ez2 : w3.frozen? ⟨w2.heap.size, 2, none⟩ = false := (hq.frozen (p := ⟨w2.heap.size, 2, none⟩) (by (try simp only [World.heap_size_alloc, World.heap_size_drew, World.heap_size_setCell]); omega)).trans (by simp)
      clear ab0 ab1 ab2 am0 am1 am2 az0 az1 az2 cb0 fcb0 cb1 fcb1 cb2 fcb2
      go_wp2
      have S3 := S2.out.below (B := w2.heap.size) (w' := w3) (((Below.refl _ _).alloc (Nat.le_refl _) _).trans (hq.mono (by (try simp only [World.heap_size_alloc, World.heap_size_drew, World.heap_size_setCell]); omega))) (Nat.le_refl _)
      refine bodyPost_ret (v := .tuple #[.agg #[.int .i64 b, .int .i64 t, .slice A2 n c2], .bool false]) (by simp [results, Try.results37, go_sem, dm0, dm1, dm2, e0, e1, e2]) rfl ⟨A2, c2, rfl, ?_, ?_⟩
      · refine Sl.mono (Sl.upd (lo' := w.heap.size + 1) (hi' := w.heap.size + 2) S3 ?_ (.inr (by omega))) (by omega) (by (try simp only [World.heap_size_alloc, World.heap_size_drew, World.heap_size_setCell]); omega)
        (repeat' (first | with_reducible exact Upd.refl _ _ _ | with_reducible assumption | with_reducible refine Upd.drew ?_ | with_reducible refine Upd.alloc ?_ _ | with_reducible refine Upd.setCell ?_ ?_ ?_ _ | (simp only []; omega) | omega))
      · have c9 := hw3
        (repeat' (first | with_reducible exact Below.refl _ _ | with_reducible assumption | with_reducible refine Below.drew ?_ | with_reducible refine Below.alloc ?_ ?_ _ | with_reducible refine Below.setCell ?_ ?_ _ | with_reducible refine Below.trans ?_ (Below.mono (by assumption) ?_) | ((try simp only [World.heap_size_alloc, World.heap_size_drew, World.heap_size_setCell]); omega)))
    | true =>
      obtain ⟨xb0, xb1⟩ := btw_iff.1 hbt
      obtain ⟨j, hj⟩ := Int.eq_ofNat_of_zero_le (show 0 ≤ x - b by omega)
      have hjn : j ≤ n := by omega
      have hlj : (l.take j).length = j := by rw [List.length_take, HL.out]; omega
      have e0 : backTo b t l x = (b, t, l.take j, true) := by
        have : (x - b).toNat = j := by omega
        simp [backTo, hok, HL.out, hbt, this]
      rw [e0]
      clear e0
      show Calls _ _ _ _ (BookBRes w b t (l.take j).length ((l.take j).flatMap EntryD.ints) true)
      rw [hlj]
      obtain ⟨q0, q1, q2, q3, q4, _⟩ := bookOk_facts hok
      rw [HL.out] at q4
      have HLA := Lib.hid (fun W => lastOf_any b t A n c W q0 q1 q4)
      have CO : ∀ W, Sl W lo hi 9 A n c (l.flatMap EntryD.ints) → Calls Try.prog 22 #[.agg #[.int .i64 b, .int .i64 t, .slice A n c]] W fun x w' => x = .returned (.bool true) ∧ Below W.heap.size W w' := fun W s => by
        have h7 := bookOk_any b t A n c lo hi l W s
        rw [hok] at h7
        exact h7
      have HO := Lib.hid CO
      clear CO
      have HCP := Lib.hid (fun W s => copyBook_any b t A n c lo hi l W s (by omega))
      have CB : ∀ W, Calls Try.prog 59 #[.int .i64 x, .int .i64 b, .int .i64 (b + (n : Int))] W fun y w' => y = .returned (.bool true) ∧ Below W.heap.size W w' := fun W => (between_any x b (b + (n : Int)) W).mono fun y w' ⟨h1, h2⟩ => ⟨by rw [h1, hbt], by rw [← h2]; exact Below.refl _ _⟩
      have HBT := Lib.hid CB
      clear CB
      clear hok hbt
      go_enter Try.func37, Try.ntmps37
      go_wp2_with fail
      (with_reducible refine (HO.out _ (h.below (B := w.heap.size) (by (repeat' (first | with_reducible exact Below.refl _ _ | with_reducible assumption | with_reducible refine Below.drew ?_ | with_reducible refine Below.alloc ?_ ?_ _ | with_reducible refine Below.setCell ?_ ?_ _ | with_reducible refine Below.trans ?_ (Below.mono (by assumption) ?_) | ((try simp only [World.heap_size_alloc, World.heap_size_drew, World.heap_size_setCell]); omega)))) hhi)).mono ?_); rintro _ w1 ⟨rfl, b1⟩
      have y1 := b1.size
      (try simp only [World.heap_size_alloc] at y1)
      have hw1 : Below w.heap.size w w1 := by (repeat' (first | with_reducible exact Below.refl _ _ | with_reducible assumption | with_reducible refine Below.drew ?_ | with_reducible refine Below.alloc ?_ ?_ _ | with_reducible refine Below.setCell ?_ ?_ _ | with_reducible refine Below.trans ?_ (Below.mono (by assumption) ?_) | ((try simp only [World.heap_size_alloc, World.heap_size_drew, World.heap_size_setCell]); omega)))
      have ab0 : w1.cell? ⟨w.heap.size, 0, none⟩ = some (.int .i64 b) := (b1.cell (p := ⟨w.heap.size, 0, none⟩) (by (try simp only [World.heap_size_alloc, World.heap_size_drew, World.heap_size_setCell]); omega)).trans (by simp)
      have ab1 : w1.cell? ⟨w.heap.size, 1, none⟩ = some (.int .i64 t) := (b1.cell (p := ⟨w.heap.size, 1, none⟩) (by (try simp only [World.heap_size_alloc, World.heap_size_drew, World.heap_size_setCell]); omega)).trans (by simp)
      have ab2 : w1.cell? ⟨w.heap.size, 2, none⟩ = some (.slice A n c) := (b1.cell (p := ⟨w.heap.size, 2, none⟩) (by (try simp only [World.heap_size_alloc, World.heap_size_drew, World.heap_size_setCell]); omega)).trans (by simp)
      have am0 : w1.cell? ⟨w.heap.size + 1, 0, none⟩ = some (.int .i64 0) := (b1.cell (p := ⟨w.heap.size + 1, 0, none⟩) (by (try simp only [World.heap_size_alloc, World.heap_size_drew, World.heap_size_setCell]); omega)).trans (by simp)
      have am1 : w1.cell? ⟨w.heap.size + 1, 1, none⟩ = some (.int .i64 0) := (b1.cell (p := ⟨w.heap.size + 1, 1, none⟩) (by (try simp only [World.heap_size_alloc, World.heap_size_drew, World.heap_size_setCell]); omega)).trans (by simp)
      have am2 : w1.cell? ⟨w.heap.size + 1, 2, none⟩ = some (.slice none 0 0) := (b1.cell (p := ⟨w.heap.size + 1, 2, none⟩) (by (try simp only [World.heap_size_alloc, World.heap_size_drew, World.heap_size_setCell]); omega)).trans (by simp)
      have az0 : w1.frozen? ⟨w.heap.size + 1, 0, none⟩ = false := (b1.frozen (p := ⟨w.heap.size + 1, 0, none⟩) (by (try simp only [World.heap_size_alloc, World.heap_size_drew, World.heap_size_setCell]); omega)).trans (by simp)
      have az1 : w1.frozen? ⟨w.heap.size + 1, 1, none⟩ = false := (b1.frozen (p := ⟨w.heap.size + 1, 1, none⟩) (by (try simp only [World.heap_size_alloc, World.heap_size_drew, World.heap_size_setCell]); omega)).trans (by simp)
      have az2 : w1.frozen? ⟨w.heap.size + 1, 2, none⟩ = false := (b1.frozen (p := ⟨w.heap.size + 1, 2, none⟩) (by (try simp only [World.heap_size_alloc, World.heap_size_drew, World.heap_size_setCell]); omega)).trans (by simp)
      go_wp2_with fail
      (with_reducible refine (HCP.out _ (h.below hw1 hhi)).mono ?_); rintro _ w2 ⟨A2, c2, rfl, s2, b2⟩
      have y2 := b2.size
      have hz1 : w.heap.size + 1 < w1.heap.size := by omega
      have hw2 : Below w.heap.size w w2 := hw1.trans (b2.mono (by omega))
      have cb0 : (w2.alloc (.cells #[.int .i64 b, .int .i64 t, .slice A2 n c2] 29)).cell? ⟨w.heap.size, 0, none⟩ = some (.int .i64 b) := (World.cell?_alloc_lt _ _ _ (show w.heap.size < w2.heap.size by omega)).trans ((b2.cell (p := ⟨w.heap.size, 0, none⟩) (show w.heap.size < w1.heap.size by omega)).trans ab0)
      have fcb0 := fun d os => cell_regrown cb0 d os
      have cb1 : (w2.alloc (.cells #[.int .i64 b, .int .i64 t, .slice A2 n c2] 29)).cell? ⟨w.heap.size, 1, none⟩ = some (.int .i64 t) := (World.cell?_alloc_lt _ _ _ (show w.heap.size < w2.heap.size by omega)).trans ((b2.cell (p := ⟨w.heap.size, 1, none⟩) (show w.heap.size < w1.heap.size by omega)).trans ab1)
      have fcb1 := fun d os => cell_regrown cb1 d os
      have cb2 : (w2.alloc (.cells #[.int .i64 b, .int .i64 t, .slice A2 n c2] 29)).cell? ⟨w.heap.size, 2, none⟩ = some (.slice A n c) := (World.cell?_alloc_lt _ _ _ (show w.heap.size < w2.heap.size by omega)).trans ((b2.cell (p := ⟨w.heap.size, 2, none⟩) (show w.heap.size < w1.heap.size by omega)).trans ab2)
      have fcb2 := fun d os => cell_regrown cb2 d os
      have S2 := Lib.hid s2
      clear s2
      go_wp2_with fail
      refine wp_region_quiet_below (by kernel_rfl) (by kernel_rfl) ?_; (repeat (first | go_big_quiet_step ((first | (go_at_call 63; exact Calls.regrown_of (HLA.out _)) | (go_at_call 59; exact Calls.regrown_of (HBT.out _)))) | quiet_step ((first | (go_at_call 63; exact Calls.regrown_of (HLA.out _)) | (go_at_call 59; exact Calls.regrown_of (HBT.out _)))))); refine wpQuiet_nil ?_; intro _ hw'; obtain ⟨⟨nq, osq⟩, hw''⟩ := hw'; subst hw''; have hq := below_regrown (w2.alloc (.cells #[.int .i64 b, .int .i64 t, .slice A2 n c2] 29)) nq osq; generalize Sort.grow (redrawn (w2.alloc (.cells #[.int .i64 b, .int .i64 t, .slice A2 n c2] 29)) nq) osq = w3 at *
      have y3 := hq.size
      simp only [World.heap_size_alloc] at y3
      have hw3 : Below w.heap.size w w3 := hw2.trans (((Below.refl _ _).alloc (by omega) _).trans (hq.mono (by (try simp only [World.heap_size_alloc, World.heap_size_drew, World.heap_size_setCell]); omega)))
      have db0 : w3.cell? ⟨w.heap.size, 0, none⟩ = some (.int .i64 b) := (hq.cell (p := ⟨w.heap.size, 0, none⟩) (by (try simp only [World.heap_size_alloc, World.heap_size_drew, World.heap_size_setCell]); omega)).trans cb0
      have db1 : w3.cell? ⟨w.heap.size, 1, none⟩ = some (.int .i64 t) := (hq.cell (p := ⟨w.heap.size, 1, none⟩) (by (try simp only [World.heap_size_alloc, World.heap_size_drew, World.heap_size_setCell]); omega)).trans cb1
      have db2 : w3.cell? ⟨w.heap.size, 2, none⟩ = some (.slice A n c) := (hq.cell (p := ⟨w.heap.size, 2, none⟩) (by (try simp only [World.heap_size_alloc, World.heap_size_drew, World.heap_size_setCell]); omega)).trans cb2
      have dm0 : w3.cell? ⟨w.heap.size + 1, 0, none⟩ = some (.int .i64 0) := (hq.cell (p := ⟨w.heap.size + 1, 0, none⟩) (by (try simp only [World.heap_size_alloc, World.heap_size_drew, World.heap_size_setCell]); omega)).trans ((World.cell?_alloc_lt _ _ _ (show w.heap.size + 1 < w2.heap.size by omega)).trans ((b2.cell (p := ⟨w.heap.size + 1, 0, none⟩) (show w.heap.size + 1 < w1.heap.size by omega)).trans am0))
      have dm1 : w3.cell? ⟨w.heap.size + 1, 1, none⟩ = some (.int .i64 0) := (hq.cell (p := ⟨w.heap.size + 1, 1, none⟩) (by (try simp only [World.heap_size_alloc, World.heap_size_drew, World.heap_size_setCell]); omega)).trans ((World.cell?_alloc_lt _ _ _ (show w.heap.size + 1 < w2.heap.size by omega)).trans ((b2.cell (p := ⟨w.heap.size + 1, 1, none⟩) (show w.heap.size + 1 < w1.heap.size by omega)).trans am1))
      have dm2 : w3.cell? ⟨w.heap.size + 1, 2, none⟩ = some (.slice none 0 0) := (hq.cell (p := ⟨w.heap.size + 1, 2, none⟩) (by (try simp only [World.heap_size_alloc, World.heap_size_drew, World.heap_size_setCell]); omega)).trans ((World.cell?_alloc_lt _ _ _ (show w.heap.size + 1 < w2.heap.size by omega)).trans ((b2.cell (p := ⟨w.heap.size + 1, 2, none⟩) (show w.heap.size + 1 < w1.heap.size by omega)).trans am2))
      have dz0 : w3.frozen? ⟨w.heap.size + 1, 0, none⟩ = false := (hq.frozen (p := ⟨w.heap.size + 1, 0, none⟩) (by (try simp only [World.heap_size_alloc, World.heap_size_drew, World.heap_size_setCell]); omega)).trans ((frozen_alloc_lt _ _ (p := ⟨w.heap.size + 1, 0, none⟩) (show w.heap.size + 1 < w2.heap.size by omega)).trans ((b2.frozen (p := ⟨w.heap.size + 1, 0, none⟩) (show w.heap.size + 1 < w1.heap.size by omega)).trans az0))
      have dz1 : w3.frozen? ⟨w.heap.size + 1, 1, none⟩ = false := (hq.frozen (p := ⟨w.heap.size + 1, 1, none⟩) (by (try simp only [World.heap_size_alloc, World.heap_size_drew, World.heap_size_setCell]); omega)).trans ((frozen_alloc_lt _ _ (p := ⟨w.heap.size + 1, 1, none⟩) (show w.heap.size + 1 < w2.heap.size by omega)).trans ((b2.frozen (p := ⟨w.heap.size + 1, 1, none⟩) (show w.heap.size + 1 < w1.heap.size by omega)).trans az1))
      have dz2 : w3.frozen? ⟨w.heap.size + 1, 2, none⟩ = false := (hq.frozen (p := ⟨w.heap.size + 1, 2, none⟩) (by (try simp only [World.heap_size_alloc, World.heap_size_drew, World.heap_size_setCell]); omega)).trans ((frozen_alloc_lt _ _ (p := ⟨w.heap.size + 1, 2, none⟩) (show w.heap.size + 1 < w2.heap.size by omega)).trans ((b2.frozen (p := ⟨w.heap.size + 1, 2, none⟩) (show w.heap.size + 1 < w1.heap.size by omega)).trans az2))
      have e0 : w3.cell? ⟨w2.heap.size, 0, none⟩ = some (.int .i64 b) := (hq.cell (p := ⟨w2.heap.size, 0, none⟩) (by (try simp only [World.heap_size_alloc, World.heap_size_drew, World.heap_size_setCell]); omega)).trans (by simp)
      have ez0 : w3.frozen? ⟨w2.heap.size, 0, none⟩ = false := (hq.frozen (p := ⟨w2.heap.size, 0, none⟩) (by (try simp only [World.heap_size_alloc, World.heap_size_drew, World.heap_size_setCell]); omega)).trans (by simp)
      have e1 : w3.cell? ⟨w2.heap.size, 1, none⟩ = some (.int .i64 t) := (hq.cell (p := ⟨w2.heap.size, 1, none⟩) (by (try simp only [World.heap_size_alloc, World.heap_size_drew, World.heap_size_setCell]); omega)).trans (by simp)
      have ez1 : w3.frozen? ⟨w2.heap.size, 1, none⟩ = false := (hq.frozen (p := ⟨w2.heap.size, 1, none⟩) (by (try simp only [World.heap_size_alloc, World.heap_size_drew, World.heap_size_setCell]); omega)).trans (by simp)
      have e2 : w3.cell? ⟨w2.heap.size, 2, none⟩ = some (.slice A2 n c2) := (hq.cell (p := ⟨w2.heap.size, 2, none⟩) (by (try simp only [World.heap_size_alloc, World.heap_size_drew, World.heap_size_setCell]); omega)).trans (by simp)
      have ez2 : w3.frozen? ⟨w2.heap.size, 2, none⟩ = false := (hq.frozen (p := ⟨w2.heap.size, 2, none⟩) (by (try simp only [World.heap_size_alloc, World.heap_size_drew, World.heap_size_setCell]); omega)).trans (by simp)
      clear ab0 ab1 ab2 am0 am1 am2 az0 az1 az2 cb0 fcb0 cb1 fcb1 cb2 fcb2
      have S3 := S2.out.below (B := w2.heap.size) (w' := w3) (((Below.refl _ _).alloc (Nat.le_refl _) _).trans (hq.mono (by (try simp only [World.heap_size_alloc, World.heap_size_drew, World.heap_size_setCell]); omega))) (Nat.le_refl _)
      have S4 : Hid (Sl w3 w1.heap.size w2.heap.size 9 A2 j c2 ((l.take j).flatMap EntryD.ints)) := Lib.hid (S3.front EntryD.ints_len hjn)
      have hc2 : n ≤ c2 := S3.cap
      have hc3 : c2 ≤ 9223372036854775807 := S3.big
      have hx1 : x = b + (j : Int) := by omega
      clear hj hlj S3 hq
      subst hx1
      have hx2 : b + (j : Int) - b = (j : Int) := by omega
      have hx3 : (j : Int) ≤ (c2 : Int) := by omega
      have hx4 : (0 : Int) ≤ (j : Int) := by omega
      go_wp2
      refine bodyPost_ret (v := .tuple #[.agg #[.int .i64 b, .int .i64 t, .slice A2 j c2], .bool true]) (by simp [results, Try.results37, go_sem, dm0, dm1, dm2, e0, e1, e2]) rfl ⟨A2, c2, rfl, ?_, ?_⟩
      · have S5 := Sl.upd (w' := w3.setCell ⟨w2.heap.size, 2, none⟩ (.slice A2 j c2)) (lo' := w2.heap.size) (hi' := w2.heap.size + 1) S4.out (by (repeat' (first | with_reducible exact Upd.refl _ _ _ | with_reducible assumption | with_reducible refine Upd.drew ?_ | with_reducible refine Upd.alloc ?_ _ | with_reducible refine Upd.setCell ?_ ?_ ?_ _ | (simp only []; omega) | omega))) (.inl (Nat.le_refl _))
        refine Sl.mono (Sl.upd (lo' := w.heap.size + 1) (hi' := w.heap.size + 2) S5 ?_ (.inr (by omega))) (by omega) (by (try simp only [World.heap_size_alloc, World.heap_size_drew, World.heap_size_setCell]); omega)
        (repeat' (first | with_reducible exact Upd.refl _ _ _ | with_reducible assumption | with_reducible refine Upd.drew ?_ | with_reducible refine Upd.alloc ?_ _ | with_reducible refine Upd.setCell ?_ ?_ ?_ _ | (simp only []; omega) | omega))
      · have c9 := hw3
        (repeat' (first | with_reducible exact Below.refl _ _ | with_reducible assumption | with_reducible refine Below.drew ?_ | with_reducible refine Below.alloc ?_ ?_ _ | with_reducible refine Below.setCell ?_ ?_ _ | with_reducible refine Below.trans ?_ (Below.mono (by assumption) ?_) | ((try simp only [World.heap_size_alloc, World.heap_size_drew, World.heap_size_setCell]); omega)))

end Go.Proofs.Ytijefbmnhcecmaa
