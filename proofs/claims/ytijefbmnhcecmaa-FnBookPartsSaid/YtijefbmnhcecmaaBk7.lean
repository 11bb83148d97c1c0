/- Books: trimmed to an index. No conditions. -/
import Derived.Test.YtijefbmnhcecmaaBk6
set_option linter.unusedSimpArgs false
set_option linter.unusedVariables false
namespace Go.Proofs.Ytijefbmnhcecmaa
open Go.RowKit

theorem Sl.tail {α : Type} {f : α → List Int} {k : Nat} {w : World} {lo hi : Nat} {A : Option Addr} {n c j : Nat} {l : List α} (h : Sl w lo hi k A n c (l.flatMap f)) (hk : ∀ x, (f x).length = k) (hj : j ≤ n) : Sl w lo hi k (if c = j then A else A.map (·.add (j * k))) (n - j) (c - j) ((l.drop j).flatMap f) := by
  have hl := h.len
  have hc := h.cap
  have hb := h.big
  refine ⟨?_, by omega, by omega, fun hj0 => ?_⟩
  · rw [flat_drop hk, List.length_drop, hl, Nat.sub_mul]
  · obtain ⟨g, off, e, h1, h2, h3⟩ := h.lie (by omega)
    have hcj : ¬ c = j := by omega
    refine ⟨g, off + j * k, ?_, h1, h2, ?_⟩
    · rw [if_neg hcj, e]; simp [Addr.add]
    · rw [flat_drop hk]
      intro i z hz
      rw [List.getElem?_drop] at hz
      have := h3 (j * k + i) z hz
      rw [← Nat.add_assoc] at this
      exact this
set_option maxRecDepth 100000 in
set_option maxHeartbeats 2000000 in
theorem sTrimmedTo_any (b t : Int) (A : Option Addr) (n c lo hi : Nat) (l : List EntryD) (x : Int) (w : World) (h : Sl w lo hi 9 A n c (l.flatMap EntryD.ints)) :
    Calls Try.prog 39 #[.agg #[.int .i64 b, .int .i64 t, .slice A n c], .int .i64 x] w (BookBRes w (trimmedTo b t l x).1 (trimmedTo b t l x).2.1 (trimmedTo b t l x).2.2.1.length ((trimmedTo b t l x).2.2.1.flatMap EntryD.ints) (trimmedTo b t l x).2.2.2) := by
  have HL := Lib.hid (h.count EntryD.ints_len (by omega) : l.length = n)
  replace h := h.fit (by omega)
  have hhi : min hi w.heap.size ≤ w.heap.size := Nat.min_le_right _ _
  generalize min hi w.heap.size = hi at h hhi
  cases hok : bookOk b t l with
  | false =>
    have e0 : trimmedTo b t l x = (0, 0, [], false) := by simp [backTo, trimmedTo, hok]
    rw [e0]
    clear e0
    have CO : ∀ W, Sl W lo hi 9 A n c (l.flatMap EntryD.ints) → Calls Try.prog 21 #[.agg #[.int .i64 b, .int .i64 t, .slice A n c]] W fun x w' => x = .returned (.bool false) ∧ Below W.heap.size W w' := fun W s => by
      have h7 := sBookOk_any b t A n c lo hi l W s
      rw [hok] at h7
      exact h7
    have HO := Lib.hid CO
    clear CO
    clear hok
    go_enter Try.func39, Try.ntmps39
    go_wp2_with fail
    (with_reducible refine (HO.out _ (h.below (B := w.heap.size) (by (repeat' (first | with_reducible exact Below.refl _ _ | with_reducible assumption | with_reducible refine Below.drew ?_ | with_reducible refine Below.alloc ?_ ?_ _ | with_reducible refine Below.setCell ?_ ?_ _ | with_reducible refine Below.trans ?_ (Below.mono (by assumption) ?_) | ((try simp only [World.heap_size_alloc, World.heap_size_drew, World.heap_size_setCell]); omega)))) hhi)).mono ?_); rintro _ w1 ⟨rfl, b1⟩
    have y1 := b1.size
    (try simp only [World.heap_size_alloc] at y1)
    have hw1 : Below w.heap.size w w1 := by (repeat' (first | with_reducible exact Below.refl _ _ | with_reducible assumption | with_reducible refine Below.drew ?_ | with_reducible refine Below.alloc ?_ ?_ _ | with_reducible refine Below.setCell ?_ ?_ _ | with_reducible refine Below.trans ?_ (Below.mono (by assumption) ?_) | ((try simp only [World.heap_size_alloc, World.heap_size_drew, World.heap_size_setCell]); omega)))
    have m0 : w1.cell? ⟨w.heap.size + 1, 0, none⟩ = some (.int .i64 0) := (b1.cell (p := ⟨w.heap.size + 1, 0, none⟩) (by (try simp only [World.heap_size_alloc, World.heap_size_drew, World.heap_size_setCell]); omega)).trans (by simp)
    have f0 : w1.frozen? ⟨w.heap.size + 1, 0, none⟩ = false := (b1.frozen (p := ⟨w.heap.size + 1, 0, none⟩) (by (try simp only [World.heap_size_alloc, World.heap_size_drew, World.heap_size_setCell]); omega)).trans (by simp)
    have m1 : w1.cell? ⟨w.heap.size + 1, 1, none⟩ = some (.int .i64 0) := (b1.cell (p := ⟨w.heap.size + 1, 1, none⟩) (by (try simp only [World.heap_size_alloc, World.heap_size_drew, World.heap_size_setCell]); omega)).trans (by simp)
    have f1 : w1.frozen? ⟨w.heap.size + 1, 1, none⟩ = false := (b1.frozen (p := ⟨w.heap.size + 1, 1, none⟩) (by (try simp only [World.heap_size_alloc, World.heap_size_drew, World.heap_size_setCell]); omega)).trans (by simp)
    have m2 : w1.cell? ⟨w.heap.size + 1, 2, none⟩ = some (.slice none 0 0) := (b1.cell (p := ⟨w.heap.size + 1, 2, none⟩) (by (try simp only [World.heap_size_alloc, World.heap_size_drew, World.heap_size_setCell]); omega)).trans (by simp)
    have f2 : w1.frozen? ⟨w.heap.size + 1, 2, none⟩ = false := (b1.frozen (p := ⟨w.heap.size + 1, 2, none⟩) (by (try simp only [World.heap_size_alloc, World.heap_size_drew, World.heap_size_setCell]); omega)).trans (by simp)
    go_wp2_with fail
    refine bodyPost_ret (v := .tuple #[.agg #[.int .i64 0, .int .i64 0, .slice none 0 0], .bool false]) (by simp [results, Try.results39, go_sem, m0, m1, m2]) rfl ⟨none, 0, rfl, Sl.nil _ _ _ _ _ _ (by omega), ?_⟩
    exact hw1.trans (by (repeat' (first | with_reducible exact Below.refl _ _ | with_reducible assumption | with_reducible refine Below.drew ?_ | with_reducible refine Below.alloc ?_ ?_ _ | with_reducible refine Below.setCell ?_ ?_ _ | with_reducible refine Below.trans ?_ (Below.mono (by assumption) ?_) | ((try simp only [World.heap_size_alloc, World.heap_size_drew, World.heap_size_setCell]); omega))))
  | true =>
    cases hbt : btw x b (b + (n : Int)) with
    | false =>
      have e0 : trimmedTo b t l x = (b, t, l, false) := by simp [trimmedTo, hok, HL.out, hbt]
      rw [e0]
      clear e0
      show Calls _ _ _ _ (BookBRes w b t l.length (l.flatMap EntryD.ints) false)
      rw [HL.out]
      obtain ⟨q0, q1, q2, q3, q4, _⟩ := bookOk_facts hok
      rw [HL.out] at q4
      have HLA := Lib.hid (fun W => l8Last_any b t A n c W q0 q1 q4)
      have CO : ∀ W, Sl W lo hi 9 A n c (l.flatMap EntryD.ints) → Calls Try.prog 21 #[.agg #[.int .i64 b, .int .i64 t, .slice A n c]] W fun x w' => x = .returned (.bool true) ∧ Below W.heap.size W w' := fun W s => by
        have h7 := sBookOk_any b t A n c lo hi l W s
        rw [hok] at h7
        exact h7
      have HO := Lib.hid CO
      clear CO
      have HCP := Lib.hid (fun W s => l8Copy_any b t A n c lo hi l W s (by omega))
      have CB : ∀ W, Calls Try.prog 56 #[.int .i64 x, .int .i64 b, .int .i64 (b + (n : Int))] W fun y w' => y = .returned (.bool false) ∧ Below W.heap.size W w' := fun W => (l1In_any x b (b + (n : Int)) W).mono fun y w' ⟨h1, h2⟩ => ⟨by rw [h1, hbt], by rw [← h2]; exact Below.refl _ _⟩
      have HBT := Lib.hid CB
      clear CB
      clear hok hbt
      go_enter Try.func39, Try.ntmps39
      go_wp2_with fail
      (with_reducible refine (HO.out _ (h.below (B := w.heap.size) (by (repeat' (first | with_reducible exact Below.refl _ _ | with_reducible assumption | with_reducible refine Below.drew ?_ | with_reducible refine Below.alloc ?_ ?_ _ | with_reducible refine Below.setCell ?_ ?_ _ | with_reducible refine Below.trans ?_ (Below.mono (by assumption) ?_) | ((try simp only [World.heap_size_alloc, World.heap_size_drew, World.heap_size_setCell]); omega)))) hhi)).mono ?_); rintro _ w1 ⟨rfl, b1⟩
      have y1 := b1.size
      (try simp only [World.heap_size_alloc] at y1)
      have hw1 : Below w.heap.size w w1 := by (repeat' (first | with_reducible exact Below.refl _ _ | with_reducible assumption | with_reducible refine Below.drew ?_ | with_reducible refine Below.alloc ?_ ?_ _ | with_reducible refine Below.setCell ?_ ?_ _ | with_reducible refine Below.trans ?_ (Below.mono (by assumption) ?_) | ((try simp only [World.heap_size_alloc, World.heap_size_drew, World.heap_size_setCell]); omega)))
      have ab0 : w1.cell? ⟨w.heap.size, 0, none⟩ = some (.int .i64 b) := (b1.cell (p := ⟨w.heap.size, 0, none⟩) (by (try simp only [World.heap_size_alloc, World.heap_size_drew, World.heap_size_setCell]); omega)).trans (by simp)
      have ab1 : w1.cell? ⟨w.heap.size, 1, none⟩ = some (.int .i64 t) := (b1.cell (p := ⟨w.heap.size, 1, none⟩) (by (try simp only [World.heap_size_alloc, World.heap_size_drew, World.heap_size_setCell]); omega)).trans (by simp)
      have ab2 : w1.cell? ⟨w.heap.size, 2, none⟩ = some (.slice A n c) := (b1.cell (p := ⟨w.heap.size, 2, none⟩) (by (try simp only [World.heap_size_alloc, World.heap_size_drew, World.heap_size_setCell]); omega)).trans (by simp)
      have am0 : w1.cell? ⟨w.heap.size + 1, 0, none⟩ = some (.int .i64 0) := (b1.cell (p := ⟨w.heap.size + 1, 0, none⟩) (by (try simp only [World.heap_size_alloc, World.heap_size_drew, World.heap_size_setCell]); omega)).trans (by simp)
      have am1 : w1.cell? ⟨w.heap.size + 1, 1, none⟩ = some (.int .i64 0) := (b1.cell (p := ⟨w.heap.size + 1, 1, none⟩) (by (try simp only [World.heap_size_alloc, World.heap_size_drew, World.heap_size_setCell]); omega)).trans (by simp)
      have am2 : w1.cell? ⟨w.heap.size + 1, 2, none⟩ = some (.slice none 0 0) := (b1.cell (p := ⟨w.heap.size + 1, 2, none⟩) (by (try simp only [World.heap_size_alloc, World.heap_size_drew, World.heap_size_setCell]); omega)).trans (by simp)
      have fab0 := fun d os => cell_regrown ab0 d os
      have fab1 := fun d os => cell_regrown ab1 d os
      have fab2 := fun d os => cell_regrown ab2 d os
      have az0 : w1.frozen? ⟨w.heap.size + 1, 0, none⟩ = false := (b1.frozen (p := ⟨w.heap.size + 1, 0, none⟩) (by (try simp only [World.heap_size_alloc, World.heap_size_drew, World.heap_size_setCell]); omega)).trans (by simp)
      have az1 : w1.frozen? ⟨w.heap.size + 1, 1, none⟩ = false := (b1.frozen (p := ⟨w.heap.size + 1, 1, none⟩) (by (try simp only [World.heap_size_alloc, World.heap_size_drew, World.heap_size_setCell]); omega)).trans (by simp)
      have az2 : w1.frozen? ⟨w.heap.size + 1, 2, none⟩ = false := (b1.frozen (p := ⟨w.heap.size + 1, 2, none⟩) (by (try simp only [World.heap_size_alloc, World.heap_size_drew, World.heap_size_setCell]); omega)).trans (by simp)
      have hz1 : w.heap.size + 1 < w1.heap.size := by omega
      have hz1a : w.heap.size < w1.heap.size := by omega
      go_wp2_with fail
      refine wp_region_quiet_below (by kernel_rfl) (by kernel_rfl) ?_; (repeat (first | go_big_quiet_step ((first | (go_at_call 62; with_reducible exact Calls.regrown_of (HLA.out _)) | (go_at_call 56; with_reducible exact Calls.regrown_of (HBT.out _)))) | quiet_step ((first | (go_at_call 62; with_reducible exact Calls.regrown_of (HLA.out _)) | (go_at_call 56; with_reducible exact Calls.regrown_of (HBT.out _)))))); refine wpQuiet_nil ?_; intro _ hw'; obtain ⟨⟨nq, osq⟩, hw''⟩ := hw'; subst hw''; have hq := below_regrown w1 nq osq; generalize Sort.grow (redrawn w1 nq) osq = w3 at *
      have y3 := hq.size
      have hz3 : w.heap.size + 1 < w3.heap.size := by omega
      have hz3a : w.heap.size < w3.heap.size := by omega
      have hw3 : Below w.heap.size w w3 := hw1.trans (hq.mono (by omega))
      have db0 : w3.cell? ⟨w.heap.size, 0, none⟩ = some (.int .i64 b) := (hq.cell (p := ⟨w.heap.size, 0, none⟩) (show w.heap.size < w1.heap.size by omega)).trans ab0
      have db1 : w3.cell? ⟨w.heap.size, 1, none⟩ = some (.int .i64 t) := (hq.cell (p := ⟨w.heap.size, 1, none⟩) (show w.heap.size < w1.heap.size by omega)).trans ab1
      have db2 : w3.cell? ⟨w.heap.size, 2, none⟩ = some (.slice A n c) := (hq.cell (p := ⟨w.heap.size, 2, none⟩) (show w.heap.size < w1.heap.size by omega)).trans ab2
      have dm0 : w3.cell? ⟨w.heap.size + 1, 0, none⟩ = some (.int .i64 0) := (hq.cell (p := ⟨w.heap.size + 1, 0, none⟩) (show w.heap.size + 1 < w1.heap.size by omega)).trans am0
      have dm1 : w3.cell? ⟨w.heap.size + 1, 1, none⟩ = some (.int .i64 0) := (hq.cell (p := ⟨w.heap.size + 1, 1, none⟩) (show w.heap.size + 1 < w1.heap.size by omega)).trans am1
      have dm2 : w3.cell? ⟨w.heap.size + 1, 2, none⟩ = some (.slice none 0 0) := (hq.cell (p := ⟨w.heap.size + 1, 2, none⟩) (show w.heap.size + 1 < w1.heap.size by omega)).trans am2
      have dz0 : w3.frozen? ⟨w.heap.size + 1, 0, none⟩ = false := (hq.frozen (p := ⟨w.heap.size + 1, 0, none⟩) hz1).trans az0
      have dz1 : w3.frozen? ⟨w.heap.size + 1, 1, none⟩ = false := (hq.frozen (p := ⟨w.heap.size + 1, 1, none⟩) hz1).trans az1
      have dz2 : w3.frozen? ⟨w.heap.size + 1, 2, none⟩ = false := (hq.frozen (p := ⟨w.heap.size + 1, 2, none⟩) hz1).trans az2
      clear ab0 ab1 ab2 am0 am1 am2 az0 az1 az2 fab0 fab1 fab2 hq b1
      go_wp2_with fail
      (with_reducible refine (HCP.out _ (h.below hw3 hhi)).mono ?_); rintro _ w2 ⟨A2, c2, rfl, s2, b2⟩
      have y2 := b2.size
      have g0 : w2.cell? ⟨w.heap.size + 1, 0, none⟩ = some (.int .i64 0) := (b2.cell (p := ⟨w.heap.size + 1, 0, none⟩) hz3).trans dm0
      have gz0 : w2.frozen? ⟨w.heap.size + 1, 0, none⟩ = false := (b2.frozen (p := ⟨w.heap.size + 1, 0, none⟩) hz3).trans dz0
      have g1 : w2.cell? ⟨w.heap.size + 1, 1, none⟩ = some (.int .i64 0) := (b2.cell (p := ⟨w.heap.size + 1, 1, none⟩) hz3).trans dm1
      have gz1 : w2.frozen? ⟨w.heap.size + 1, 1, none⟩ = false := (b2.frozen (p := ⟨w.heap.size + 1, 1, none⟩) hz3).trans dz1
      have g2 : w2.cell? ⟨w.heap.size + 1, 2, none⟩ = some (.slice none 0 0) := (b2.cell (p := ⟨w.heap.size + 1, 2, none⟩) hz3).trans dm2
      have gz2 : w2.frozen? ⟨w.heap.size + 1, 2, none⟩ = false := (b2.frozen (p := ⟨w.heap.size + 1, 2, none⟩) hz3).trans dz2
      go_wp2_with fail
      refine bodyPost_ret (v := .tuple #[.agg #[.int .i64 b, .int .i64 t, .slice A2 n c2], .bool false]) (by simp [results, Try.results39, go_sem, g0, g1, g2]) rfl ⟨A2, c2, rfl, ?_, ?_⟩
      · refine Sl.mono (Sl.upd (lo' := w.heap.size + 1) (hi' := w.heap.size + 2) s2 ?_ (.inr (by omega))) (by omega) (by (try simp only [World.heap_size_alloc, World.heap_size_drew, World.heap_size_setCell]); omega)
        (repeat' (first | with_reducible exact Upd.refl _ _ _ | with_reducible assumption | with_reducible refine Upd.drew ?_ | with_reducible refine Upd.alloc ?_ _ | with_reducible refine Upd.setCell ?_ ?_ ?_ _ | (simp only []; omega) | omega))
      · have c9 : Below w.heap.size w w2 := hw3.trans (b2.mono (by omega))
        (repeat' (first | with_reducible exact Below.refl _ _ | with_reducible assumption | with_reducible refine Below.drew ?_ | with_reducible refine Below.alloc ?_ ?_ _ | with_reducible refine Below.setCell ?_ ?_ _ | with_reducible refine Below.trans ?_ (Below.mono (by assumption) ?_) | ((try simp only [World.heap_size_alloc, World.heap_size_drew, World.heap_size_setCell]); omega)))
    | true =>
      obtain ⟨xb0, xb1⟩ := btw_iff.1 hbt
      obtain ⟨j, hj⟩ := Int.eq_ofNat_of_zero_le (show 0 ≤ x - b by omega)
      have hjn : j ≤ n := by omega
      have hlj : (l.drop j).length = n - j := by rw [List.length_drop, HL.out]
      have e0 : trimmedTo b t l x = (x, timeAt b t l x, l.drop j, true) := by
        have : (x - b).toNat = j := by omega
        simp [trimmedTo, hok, HL.out, hbt, this]
      rw [e0]
      clear e0
      show Calls _ _ _ _ (BookBRes w x (timeAt b t l x) (l.drop j).length ((l.drop j).flatMap EntryD.ints) true)
      rw [hlj]
      obtain ⟨q0, q1, q2, q3, q4, _⟩ := bookOk_facts hok
      rw [HL.out] at q4
      have HLA := Lib.hid (fun W => l8Last_any b t A n c W q0 q1 q4)
      have CO : ∀ W, Sl W lo hi 9 A n c (l.flatMap EntryD.ints) → Calls Try.prog 21 #[.agg #[.int .i64 b, .int .i64 t, .slice A n c]] W fun x w' => x = .returned (.bool true) ∧ Below W.heap.size W w' := fun W s => by
        have h7 := sBookOk_any b t A n c lo hi l W s
        rw [hok] at h7
        exact h7
      have HO := Lib.hid CO
      clear CO
      have CB : ∀ W, Calls Try.prog 56 #[.int .i64 x, .int .i64 b, .int .i64 (b + (n : Int))] W fun y w' => y = .returned (.bool true) ∧ Below W.heap.size W w' := fun W => (l1In_any x b (b + (n : Int)) W).mono fun y w' ⟨h1, h2⟩ => ⟨by rw [h1, hbt], by rw [← h2]; exact Below.refl _ _⟩
      have HBT := Lib.hid CB
      clear CB
      have HTA := Lib.hid (fun W s => l8TimeAt_any b t A n c lo hi l x W s q0 q1 q4 xb0 xb1)
      generalize timeAt b t l x = tv at HTA ⊢
      clear hok hbt hlj
      have hcb : c ≤ 9223372036854775807 := h.big
      have hnc : n ≤ c := h.cap
      by_cases hje : j = n
      · subst hje
        rw [show l.drop j = [] from List.drop_of_length_le (by rw [HL.out]; omega), show j - j = 0 by omega]
        simp only [List.flatMap_nil]
        have HEN := Lib.hid (fun W A' c' (hc' : c' ≤ 9223372036854775807) => l8Entries_any A' 0 c' 0 0 [] W (Sl.nil _ _ _ _ _ _ hc') (by omega))
        have hx1 : x = b + (j : Int) := by omega
        clear hj
        subst hx1
        have hx2 : b + (j : Int) - b = (j : Int) := by omega
        have hx3 : (j : Int) ≤ (j : Int) := by omega
        have hx4 : (0 : Int) ≤ (j : Int) := by omega
        have hx5 : IntKind.i64.wrap (j : Int) = (j : Int) := IntWalk.i64_in _ (by omega)
        by_cases hcj : c = j
        · subst hcj
          go_enter Try.func39, Try.ntmps39
          go_wp2_with fail
          (with_reducible refine (HO.out _ (h.below (B := w.heap.size) (by (repeat' (first | with_reducible exact Below.refl _ _ | with_reducible assumption | with_reducible refine Below.drew ?_ | with_reducible refine Below.alloc ?_ ?_ _ | with_reducible refine Below.setCell ?_ ?_ _ | with_reducible refine Below.trans ?_ (Below.mono (by assumption) ?_) | ((try simp only [World.heap_size_alloc, World.heap_size_drew, World.heap_size_setCell]); omega)))) hhi)).mono ?_); rintro _ w1 ⟨rfl, b1⟩
          have y1 := b1.size
          (try simp only [World.heap_size_alloc] at y1)
          have hw1 : Below w.heap.size w w1 := by (repeat' (first | with_reducible exact Below.refl _ _ | with_reducible assumption | with_reducible refine Below.drew ?_ | with_reducible refine Below.alloc ?_ ?_ _ | with_reducible refine Below.setCell ?_ ?_ _ | with_reducible refine Below.trans ?_ (Below.mono (by assumption) ?_) | ((try simp only [World.heap_size_alloc, World.heap_size_drew, World.heap_size_setCell]); omega)))
          have ab0 : w1.cell? ⟨w.heap.size, 0, none⟩ = some (.int .i64 b) := (b1.cell (p := ⟨w.heap.size, 0, none⟩) (by (try simp only [World.heap_size_alloc, World.heap_size_drew, World.heap_size_setCell]); omega)).trans (by simp)
          have ab1 : w1.cell? ⟨w.heap.size, 1, none⟩ = some (.int .i64 t) := (b1.cell (p := ⟨w.heap.size, 1, none⟩) (by (try simp only [World.heap_size_alloc, World.heap_size_drew, World.heap_size_setCell]); omega)).trans (by simp)
          have ab2 : w1.cell? ⟨w.heap.size, 2, none⟩ = some (.slice A c c) := (b1.cell (p := ⟨w.heap.size, 2, none⟩) (by (try simp only [World.heap_size_alloc, World.heap_size_drew, World.heap_size_setCell]); omega)).trans (by simp)
          have am0 : w1.cell? ⟨w.heap.size + 1, 0, none⟩ = some (.int .i64 0) := (b1.cell (p := ⟨w.heap.size + 1, 0, none⟩) (by (try simp only [World.heap_size_alloc, World.heap_size_drew, World.heap_size_setCell]); omega)).trans (by simp)
          have am1 : w1.cell? ⟨w.heap.size + 1, 1, none⟩ = some (.int .i64 0) := (b1.cell (p := ⟨w.heap.size + 1, 1, none⟩) (by (try simp only [World.heap_size_alloc, World.heap_size_drew, World.heap_size_setCell]); omega)).trans (by simp)
          have am2 : w1.cell? ⟨w.heap.size + 1, 2, none⟩ = some (.slice none 0 0) := (b1.cell (p := ⟨w.heap.size + 1, 2, none⟩) (by (try simp only [World.heap_size_alloc, World.heap_size_drew, World.heap_size_setCell]); omega)).trans (by simp)
          have fab0 := fun d os => cell_regrown ab0 d os
          have fab1 := fun d os => cell_regrown ab1 d os
          have fab2 := fun d os => cell_regrown ab2 d os
          have az0 : w1.frozen? ⟨w.heap.size + 1, 0, none⟩ = false := (b1.frozen (p := ⟨w.heap.size + 1, 0, none⟩) (by (try simp only [World.heap_size_alloc, World.heap_size_drew, World.heap_size_setCell]); omega)).trans (by simp)
          have az1 : w1.frozen? ⟨w.heap.size + 1, 1, none⟩ = false := (b1.frozen (p := ⟨w.heap.size + 1, 1, none⟩) (by (try simp only [World.heap_size_alloc, World.heap_size_drew, World.heap_size_setCell]); omega)).trans (by simp)
          have az2 : w1.frozen? ⟨w.heap.size + 1, 2, none⟩ = false := (b1.frozen (p := ⟨w.heap.size + 1, 2, none⟩) (by (try simp only [World.heap_size_alloc, World.heap_size_drew, World.heap_size_setCell]); omega)).trans (by simp)
          have hz1 : w.heap.size + 1 < w1.heap.size := by omega
          have hz1a : w.heap.size < w1.heap.size := by omega
          go_wp2_with fail
          refine wp_region_quiet_below (by kernel_rfl) (by kernel_rfl) ?_; (repeat (first | go_big_quiet_step ((first | (go_at_call 62; with_reducible exact Calls.regrown_of (HLA.out _)) | (go_at_call 56; with_reducible exact Calls.regrown_of (HBT.out _)))) | quiet_step ((first | (go_at_call 62; with_reducible exact Calls.regrown_of (HLA.out _)) | (go_at_call 56; with_reducible exact Calls.regrown_of (HBT.out _)))))); refine wpQuiet_nil ?_; intro _ hw'; obtain ⟨⟨nq, osq⟩, hw''⟩ := hw'; subst hw''; have hq := below_regrown w1 nq osq; generalize Sort.grow (redrawn w1 nq) osq = w3 at *
          have y3 := hq.size
          have hz3 : w.heap.size + 1 < w3.heap.size := by omega
          have hz3a : w.heap.size < w3.heap.size := by omega
          have hw3 : Below w.heap.size w w3 := hw1.trans (hq.mono (by omega))
          have db0 : w3.cell? ⟨w.heap.size, 0, none⟩ = some (.int .i64 b) := (hq.cell (p := ⟨w.heap.size, 0, none⟩) (show w.heap.size < w1.heap.size by omega)).trans ab0
          have db1 : w3.cell? ⟨w.heap.size, 1, none⟩ = some (.int .i64 t) := (hq.cell (p := ⟨w.heap.size, 1, none⟩) (show w.heap.size < w1.heap.size by omega)).trans ab1
          have db2 : w3.cell? ⟨w.heap.size, 2, none⟩ = some (.slice A c c) := (hq.cell (p := ⟨w.heap.size, 2, none⟩) (show w.heap.size < w1.heap.size by omega)).trans ab2
          have dm0 : w3.cell? ⟨w.heap.size + 1, 0, none⟩ = some (.int .i64 0) := (hq.cell (p := ⟨w.heap.size + 1, 0, none⟩) (show w.heap.size + 1 < w1.heap.size by omega)).trans am0
          have dm1 : w3.cell? ⟨w.heap.size + 1, 1, none⟩ = some (.int .i64 0) := (hq.cell (p := ⟨w.heap.size + 1, 1, none⟩) (show w.heap.size + 1 < w1.heap.size by omega)).trans am1
          have dm2 : w3.cell? ⟨w.heap.size + 1, 2, none⟩ = some (.slice none 0 0) := (hq.cell (p := ⟨w.heap.size + 1, 2, none⟩) (show w.heap.size + 1 < w1.heap.size by omega)).trans am2
          have dz0 : w3.frozen? ⟨w.heap.size + 1, 0, none⟩ = false := (hq.frozen (p := ⟨w.heap.size + 1, 0, none⟩) hz1).trans az0
          have dz1 : w3.frozen? ⟨w.heap.size + 1, 1, none⟩ = false := (hq.frozen (p := ⟨w.heap.size + 1, 1, none⟩) hz1).trans az1
          have dz2 : w3.frozen? ⟨w.heap.size + 1, 2, none⟩ = false := (hq.frozen (p := ⟨w.heap.size + 1, 2, none⟩) hz1).trans az2
          clear ab0 ab1 ab2 am0 am1 am2 az0 az1 az2 fab0 fab1 fab2 hq b1
          have HS3 := Lib.hid (h.below hw3 hhi)
          have SK : ∀ W, Upd (w.heap.size + 1) (w.heap.size + 2) w3 W → (W.cell? ⟨w.heap.size, 0, none⟩ = some (.int .i64 b) ∧ W.cell? ⟨w.heap.size, 1, none⟩ = some (.int .i64 t) ∧ W.cell? ⟨w.heap.size, 2, none⟩ = some (.slice A c c) ∧ Upd (w.heap.size + 1) (w.heap.size + 2) w3 W) := fun W hu => ⟨((ucell hu (b := w.heap.size) hz3a (.inl (by omega))).1 0).trans db0, ((ucell hu (b := w.heap.size) hz3a (.inl (by omega))).1 1).trans db1, ((ucell hu (b := w.heap.size) hz3a (.inl (by omega))).1 2).trans db2, hu⟩
          have HSK := Lib.hid SK
          have GK : ∀ W, Below w3.heap.size w3 W → (W.cell? ⟨w.heap.size + 1, 0, none⟩ = some (.int .i64 0) ∧ W.frozen? ⟨w.heap.size + 1, 0, none⟩ = false ∧ W.cell? ⟨w.heap.size + 1, 1, none⟩ = some (.int .i64 0) ∧ W.frozen? ⟨w.heap.size + 1, 1, none⟩ = false ∧ W.cell? ⟨w.heap.size + 1, 2, none⟩ = some (.slice none 0 0) ∧ W.frozen? ⟨w.heap.size + 1, 2, none⟩ = false) := fun W hb => ⟨(hb.cell (p := ⟨w.heap.size + 1, 0, none⟩) hz3).trans dm0, (hb.frozen (p := ⟨w.heap.size + 1, 0, none⟩) hz3).trans dz0, (hb.cell (p := ⟨w.heap.size + 1, 1, none⟩) hz3).trans dm1, (hb.frozen (p := ⟨w.heap.size + 1, 1, none⟩) hz3).trans dz1, (hb.cell (p := ⟨w.heap.size + 1, 2, none⟩) hz3).trans dm2, (hb.frozen (p := ⟨w.heap.size + 1, 2, none⟩) hz3).trans dz2⟩
          have HG := Lib.hid GK
          clear SK GK h
          go_wp2_with fail
          go_region_held3 (fun w' => w'.cell? ⟨w.heap.size, 0, none⟩ = some (.int .i64 b) ∧ w'.cell? ⟨w.heap.size, 1, none⟩ = some (.int .i64 t) ∧ w'.cell? ⟨w.heap.size, 2, none⟩ = some (.slice A c c) ∧ Upd (w.heap.size + 1) (w.heap.size + 2) w3 w')
            (first | (refine HSK.out _ ?_; (repeat' (first | with_reducible exact Upd.refl _ _ _ | with_reducible assumption | with_reducible refine Upd.drew ?_ | with_reducible refine Upd.alloc ?_ _ | with_reducible refine Upd.setCell ?_ ?_ ?_ _ | (simp only []; omega) | omega))) | (go_split_ands; refine HSK.out _ ?_; (repeat' (first | with_reducible exact Upd.refl _ _ _ | with_reducible assumption | with_reducible refine Upd.drew ?_ | with_reducible refine Upd.alloc ?_ _ | with_reducible refine Upd.setCell ?_ ?_ ?_ _ | (simp only []; omega) | omega))))
            (first
              | (go_at_call 65; (with_reducible refine (HTA.out _ (HS3.out.below (B := w3.heap.size) (by (repeat' (first | with_reducible exact Below.refl _ _ | with_reducible assumption | with_reducible refine Below.drew ?_ | with_reducible refine Below.alloc ?_ ?_ _ | with_reducible refine Below.setCell ?_ ?_ _ | with_reducible refine Below.trans ?_ (Below.mono (by assumption) ?_) | ((try simp only [World.heap_size_alloc, World.heap_size_drew, World.heap_size_setCell]); omega)))) (by omega))).mono ?_); rintro _ w4 ⟨rfl, b4⟩; have c4 : Below w3.heap.size w3 w4 := (by (repeat' (first | with_reducible exact Below.refl _ _ | with_reducible assumption | with_reducible refine Below.drew ?_ | with_reducible refine Below.alloc ?_ ?_ _ | with_reducible refine Below.setCell ?_ ?_ _ | with_reducible refine Below.trans ?_ (Below.mono (by assumption) ?_) | ((try simp only [World.heap_size_alloc, World.heap_size_drew, World.heap_size_setCell]); omega)))); have y4 := c4.size; have u4 : Upd (w.heap.size + 1) (w.heap.size + 2) w3 w4 := Upd.of_below c4; (try have s6 := s5.below (B := w5.heap.size) (w' := w4) (by (repeat' (first | with_reducible exact Below.refl _ _ | with_reducible assumption | with_reducible refine Below.drew ?_ | with_reducible refine Below.alloc ?_ ?_ _ | with_reducible refine Below.setCell ?_ ?_ _ | with_reducible refine Below.trans ?_ (Below.mono (by assumption) ?_) | ((try simp only [World.heap_size_alloc, World.heap_size_drew, World.heap_size_setCell]); omega)))) (Nat.le_refl _)); obtain ⟨g0, gz0, g1, gz1, g2, gz2⟩ := HG.out w4 c4)
              | (go_at_call 70; (with_reducible refine ((HEN.out _ _ _ (by omega))).mono ?_); rintro _ w5 ⟨A2, c2, rfl, s5, b5⟩; have c5 : Below w3.heap.size w3 w5 := (by (repeat' (first | with_reducible exact Below.refl _ _ | with_reducible assumption | with_reducible refine Below.drew ?_ | with_reducible refine Below.alloc ?_ ?_ _ | with_reducible refine Below.setCell ?_ ?_ _ | with_reducible refine Below.trans ?_ (Below.mono (by assumption) ?_) | ((try simp only [World.heap_size_alloc, World.heap_size_drew, World.heap_size_setCell]); omega)))); have y5 := c5.size; have u5 : Upd (w.heap.size + 1) (w.heap.size + 2) w3 w5 := Upd.of_below c5; obtain ⟨g0, gz0, g1, gz1, g2, gz2⟩ := HG.out w5 c5))
          all_goals
            go_wp2_with fail
            first
            | (refine bodyPost_ret (v := .tuple #[.agg #[.int .i64 (b + (c : Int)), .int .i64 tv, .slice A2 0 c2], .bool true]) (by simp [results, Try.results39, go_sem, g0, g1, g2]) rfl ⟨A2, c2, rfl, Sl.mono (Sl.upd (lo' := w.heap.size + 1) (hi' := w.heap.size + 2) s6 (by (repeat' (first | with_reducible exact Upd.refl _ _ _ | with_reducible assumption | with_reducible refine Upd.drew ?_ | with_reducible refine Upd.alloc ?_ _ | with_reducible refine Upd.setCell ?_ ?_ ?_ _ | (simp only []; omega) | omega))) (.inr (by omega))) (by omega) (by (try simp only [World.heap_size_alloc, World.heap_size_drew, World.heap_size_setCell]); omega), (by have c9 : Below w.heap.size w w4 := hw3.trans (c4.mono (by omega)); (repeat' (first | with_reducible exact Below.refl _ _ | with_reducible assumption | with_reducible refine Below.drew ?_ | with_reducible refine Below.alloc ?_ ?_ _ | with_reducible refine Below.setCell ?_ ?_ _ | with_reducible refine Below.trans ?_ (Below.mono (by assumption) ?_) | ((try simp only [World.heap_size_alloc, World.heap_size_drew, World.heap_size_setCell]); omega))))⟩)
            | (refine bodyPost_ret (v := .tuple #[.agg #[.int .i64 (b + (c : Int)), .int .i64 tv, .slice A2 0 c2], .bool true]) (by simp [results, Try.results39, go_sem, g0, g1, g2]) rfl ⟨A2, c2, rfl, Sl.mono (Sl.upd (lo' := w.heap.size + 1) (hi' := w.heap.size + 2) s5 (by (repeat' (first | with_reducible exact Upd.refl _ _ _ | with_reducible assumption | with_reducible refine Upd.drew ?_ | with_reducible refine Upd.alloc ?_ _ | with_reducible refine Upd.setCell ?_ ?_ ?_ _ | (simp only []; omega) | omega))) (.inr (by omega))) (by omega) (by (try simp only [World.heap_size_alloc, World.heap_size_drew, World.heap_size_setCell]); omega), (by have c9 : Below w.heap.size w w5 := hw3.trans (c5.mono (by omega)); (repeat' (first | with_reducible exact Below.refl _ _ | with_reducible assumption | with_reducible refine Below.drew ?_ | with_reducible refine Below.alloc ?_ ?_ _ | with_reducible refine Below.setCell ?_ ?_ _ | with_reducible refine Below.trans ?_ (Below.mono (by assumption) ?_) | ((try simp only [World.heap_size_alloc, World.heap_size_drew, World.heap_size_setCell]); omega))))⟩)
        · cases A with
          | none =>
            go_enter Try.func39, Try.ntmps39
            go_wp2_with fail
            (with_reducible refine (HO.out _ (h.below (B := w.heap.size) (by (repeat' (first | with_reducible exact Below.refl _ _ | with_reducible assumption | with_reducible refine Below.drew ?_ | with_reducible refine Below.alloc ?_ ?_ _ | with_reducible refine Below.setCell ?_ ?_ _ | with_reducible refine Below.trans ?_ (Below.mono (by assumption) ?_) | ((try simp only [World.heap_size_alloc, World.heap_size_drew, World.heap_size_setCell]); omega)))) hhi)).mono ?_); rintro _ w1 ⟨rfl, b1⟩
            have y1 := b1.size
            (try simp only [World.heap_size_alloc] at y1)
            have hw1 : Below w.heap.size w w1 := by (repeat' (first | with_reducible exact Below.refl _ _ | with_reducible assumption | with_reducible refine Below.drew ?_ | with_reducible refine Below.alloc ?_ ?_ _ | with_reducible refine Below.setCell ?_ ?_ _ | with_reducible refine Below.trans ?_ (Below.mono (by assumption) ?_) | ((try simp only [World.heap_size_alloc, World.heap_size_drew, World.heap_size_setCell]); omega)))
            have ab0 : w1.cell? ⟨w.heap.size, 0, none⟩ = some (.int .i64 b) := (b1.cell (p := ⟨w.heap.size, 0, none⟩) (by (try simp only [World.heap_size_alloc, World.heap_size_drew, World.heap_size_setCell]); omega)).trans (by simp)
            have ab1 : w1.cell? ⟨w.heap.size, 1, none⟩ = some (.int .i64 t) := (b1.cell (p := ⟨w.heap.size, 1, none⟩) (by (try simp only [World.heap_size_alloc, World.heap_size_drew, World.heap_size_setCell]); omega)).trans (by simp)
            have ab2 : w1.cell? ⟨w.heap.size, 2, none⟩ = some (.slice none j c) := (b1.cell (p := ⟨w.heap.size, 2, none⟩) (by (try simp only [World.heap_size_alloc, World.heap_size_drew, World.heap_size_setCell]); omega)).trans (by simp)
            have am0 : w1.cell? ⟨w.heap.size + 1, 0, none⟩ = some (.int .i64 0) := (b1.cell (p := ⟨w.heap.size + 1, 0, none⟩) (by (try simp only [World.heap_size_alloc, World.heap_size_drew, World.heap_size_setCell]); omega)).trans (by simp)
            have am1 : w1.cell? ⟨w.heap.size + 1, 1, none⟩ = some (.int .i64 0) := (b1.cell (p := ⟨w.heap.size + 1, 1, none⟩) (by (try simp only [World.heap_size_alloc, World.heap_size_drew, World.heap_size_setCell]); omega)).trans (by simp)
            have am2 : w1.cell? ⟨w.heap.size + 1, 2, none⟩ = some (.slice none 0 0) := (b1.cell (p := ⟨w.heap.size + 1, 2, none⟩) (by (try simp only [World.heap_size_alloc, World.heap_size_drew, World.heap_size_setCell]); omega)).trans (by simp)
            have fab0 := fun d os => cell_regrown ab0 d os
            have fab1 := fun d os => cell_regrown ab1 d os
            have fab2 := fun d os => cell_regrown ab2 d os
            have az0 : w1.frozen? ⟨w.heap.size + 1, 0, none⟩ = false := (b1.frozen (p := ⟨w.heap.size + 1, 0, none⟩) (by (try simp only [World.heap_size_alloc, World.heap_size_drew, World.heap_size_setCell]); omega)).trans (by simp)
            have az1 : w1.frozen? ⟨w.heap.size + 1, 1, none⟩ = false := (b1.frozen (p := ⟨w.heap.size + 1, 1, none⟩) (by (try simp only [World.heap_size_alloc, World.heap_size_drew, World.heap_size_setCell]); omega)).trans (by simp)
            have az2 : w1.frozen? ⟨w.heap.size + 1, 2, none⟩ = false := (b1.frozen (p := ⟨w.heap.size + 1, 2, none⟩) (by (try simp only [World.heap_size_alloc, World.heap_size_drew, World.heap_size_setCell]); omega)).trans (by simp)
            have hz1 : w.heap.size + 1 < w1.heap.size := by omega
            have hz1a : w.heap.size < w1.heap.size := by omega
            go_wp2_with fail
            refine wp_region_quiet_below (by kernel_rfl) (by kernel_rfl) ?_; (repeat (first | go_big_quiet_step ((first | (go_at_call 62; with_reducible exact Calls.regrown_of (HLA.out _)) | (go_at_call 56; with_reducible exact Calls.regrown_of (HBT.out _)))) | quiet_step ((first | (go_at_call 62; with_reducible exact Calls.regrown_of (HLA.out _)) | (go_at_call 56; with_reducible exact Calls.regrown_of (HBT.out _)))))); refine wpQuiet_nil ?_; intro _ hw'; obtain ⟨⟨nq, osq⟩, hw''⟩ := hw'; subst hw''; have hq := below_regrown w1 nq osq; generalize Sort.grow (redrawn w1 nq) osq = w3 at *
            have y3 := hq.size
            have hz3 : w.heap.size + 1 < w3.heap.size := by omega
            have hz3a : w.heap.size < w3.heap.size := by omega
            have hw3 : Below w.heap.size w w3 := hw1.trans (hq.mono (by omega))
            have db0 : w3.cell? ⟨w.heap.size, 0, none⟩ = some (.int .i64 b) := (hq.cell (p := ⟨w.heap.size, 0, none⟩) (show w.heap.size < w1.heap.size by omega)).trans ab0
            have db1 : w3.cell? ⟨w.heap.size, 1, none⟩ = some (.int .i64 t) := (hq.cell (p := ⟨w.heap.size, 1, none⟩) (show w.heap.size < w1.heap.size by omega)).trans ab1
            have db2 : w3.cell? ⟨w.heap.size, 2, none⟩ = some (.slice none j c) := (hq.cell (p := ⟨w.heap.size, 2, none⟩) (show w.heap.size < w1.heap.size by omega)).trans ab2
            have dm0 : w3.cell? ⟨w.heap.size + 1, 0, none⟩ = some (.int .i64 0) := (hq.cell (p := ⟨w.heap.size + 1, 0, none⟩) (show w.heap.size + 1 < w1.heap.size by omega)).trans am0
            have dm1 : w3.cell? ⟨w.heap.size + 1, 1, none⟩ = some (.int .i64 0) := (hq.cell (p := ⟨w.heap.size + 1, 1, none⟩) (show w.heap.size + 1 < w1.heap.size by omega)).trans am1
            have dm2 : w3.cell? ⟨w.heap.size + 1, 2, none⟩ = some (.slice none 0 0) := (hq.cell (p := ⟨w.heap.size + 1, 2, none⟩) (show w.heap.size + 1 < w1.heap.size by omega)).trans am2
            have dz0 : w3.frozen? ⟨w.heap.size + 1, 0, none⟩ = false := (hq.frozen (p := ⟨w.heap.size + 1, 0, none⟩) hz1).trans az0
            have dz1 : w3.frozen? ⟨w.heap.size + 1, 1, none⟩ = false := (hq.frozen (p := ⟨w.heap.size + 1, 1, none⟩) hz1).trans az1
            have dz2 : w3.frozen? ⟨w.heap.size + 1, 2, none⟩ = false := (hq.frozen (p := ⟨w.heap.size + 1, 2, none⟩) hz1).trans az2
            clear ab0 ab1 ab2 am0 am1 am2 az0 az1 az2 fab0 fab1 fab2 hq b1
            have HS3 := Lib.hid (h.below hw3 hhi)
            have SK : ∀ W, Upd (w.heap.size + 1) (w.heap.size + 2) w3 W → (W.cell? ⟨w.heap.size, 0, none⟩ = some (.int .i64 b) ∧ W.cell? ⟨w.heap.size, 1, none⟩ = some (.int .i64 t) ∧ W.cell? ⟨w.heap.size, 2, none⟩ = some (.slice none j c) ∧ Upd (w.heap.size + 1) (w.heap.size + 2) w3 W) := fun W hu => ⟨((ucell hu (b := w.heap.size) hz3a (.inl (by omega))).1 0).trans db0, ((ucell hu (b := w.heap.size) hz3a (.inl (by omega))).1 1).trans db1, ((ucell hu (b := w.heap.size) hz3a (.inl (by omega))).1 2).trans db2, hu⟩
            have HSK := Lib.hid SK
            have GK : ∀ W, Below w3.heap.size w3 W → (W.cell? ⟨w.heap.size + 1, 0, none⟩ = some (.int .i64 0) ∧ W.frozen? ⟨w.heap.size + 1, 0, none⟩ = false ∧ W.cell? ⟨w.heap.size + 1, 1, none⟩ = some (.int .i64 0) ∧ W.frozen? ⟨w.heap.size + 1, 1, none⟩ = false ∧ W.cell? ⟨w.heap.size + 1, 2, none⟩ = some (.slice none 0 0) ∧ W.frozen? ⟨w.heap.size + 1, 2, none⟩ = false) := fun W hb => ⟨(hb.cell (p := ⟨w.heap.size + 1, 0, none⟩) hz3).trans dm0, (hb.frozen (p := ⟨w.heap.size + 1, 0, none⟩) hz3).trans dz0, (hb.cell (p := ⟨w.heap.size + 1, 1, none⟩) hz3).trans dm1, (hb.frozen (p := ⟨w.heap.size + 1, 1, none⟩) hz3).trans dz1, (hb.cell (p := ⟨w.heap.size + 1, 2, none⟩) hz3).trans dm2, (hb.frozen (p := ⟨w.heap.size + 1, 2, none⟩) hz3).trans dz2⟩
            have HG := Lib.hid GK
            clear SK GK h
            go_wp2_with fail
            go_region_held3 (fun w' => w'.cell? ⟨w.heap.size, 0, none⟩ = some (.int .i64 b) ∧ w'.cell? ⟨w.heap.size, 1, none⟩ = some (.int .i64 t) ∧ w'.cell? ⟨w.heap.size, 2, none⟩ = some (.slice none j c) ∧ Upd (w.heap.size + 1) (w.heap.size + 2) w3 w')
              (first | (refine HSK.out _ ?_; (repeat' (first | with_reducible exact Upd.refl _ _ _ | with_reducible assumption | with_reducible refine Upd.drew ?_ | with_reducible refine Upd.alloc ?_ _ | with_reducible refine Upd.setCell ?_ ?_ ?_ _ | (simp only []; omega) | omega))) | (go_split_ands; refine HSK.out _ ?_; (repeat' (first | with_reducible exact Upd.refl _ _ _ | with_reducible assumption | with_reducible refine Upd.drew ?_ | with_reducible refine Upd.alloc ?_ _ | with_reducible refine Upd.setCell ?_ ?_ ?_ _ | (simp only []; omega) | omega))))
              (first
                | (go_at_call 65; (with_reducible refine (HTA.out _ (HS3.out.below (B := w3.heap.size) (by (repeat' (first | with_reducible exact Below.refl _ _ | with_reducible assumption | with_reducible refine Below.drew ?_ | with_reducible refine Below.alloc ?_ ?_ _ | with_reducible refine Below.setCell ?_ ?_ _ | with_reducible refine Below.trans ?_ (Below.mono (by assumption) ?_) | ((try simp only [World.heap_size_alloc, World.heap_size_drew, World.heap_size_setCell]); omega)))) (by omega))).mono ?_); rintro _ w4 ⟨rfl, b4⟩; have c4 : Below w3.heap.size w3 w4 := (by (repeat' (first | with_reducible exact Below.refl _ _ | with_reducible assumption | with_reducible refine Below.drew ?_ | with_reducible refine Below.alloc ?_ ?_ _ | with_reducible refine Below.setCell ?_ ?_ _ | with_reducible refine Below.trans ?_ (Below.mono (by assumption) ?_) | ((try simp only [World.heap_size_alloc, World.heap_size_drew, World.heap_size_setCell]); omega)))); have y4 := c4.size; have u4 : Upd (w.heap.size + 1) (w.heap.size + 2) w3 w4 := Upd.of_below c4; (try have s6 := s5.below (B := w5.heap.size) (w' := w4) (by (repeat' (first | with_reducible exact Below.refl _ _ | with_reducible assumption | with_reducible refine Below.drew ?_ | with_reducible refine Below.alloc ?_ ?_ _ | with_reducible refine Below.setCell ?_ ?_ _ | with_reducible refine Below.trans ?_ (Below.mono (by assumption) ?_) | ((try simp only [World.heap_size_alloc, World.heap_size_drew, World.heap_size_setCell]); omega)))) (Nat.le_refl _)); obtain ⟨g0, gz0, g1, gz1, g2, gz2⟩ := HG.out w4 c4)
                | (go_at_call 70; (with_reducible refine ((HEN.out _ _ _ (by omega))).mono ?_); rintro _ w5 ⟨A2, c2, rfl, s5, b5⟩; have c5 : Below w3.heap.size w3 w5 := (by (repeat' (first | with_reducible exact Below.refl _ _ | with_reducible assumption | with_reducible refine Below.drew ?_ | with_reducible refine Below.alloc ?_ ?_ _ | with_reducible refine Below.setCell ?_ ?_ _ | with_reducible refine Below.trans ?_ (Below.mono (by assumption) ?_) | ((try simp only [World.heap_size_alloc, World.heap_size_drew, World.heap_size_setCell]); omega)))); have y5 := c5.size; have u5 : Upd (w.heap.size + 1) (w.heap.size + 2) w3 w5 := Upd.of_below c5; obtain ⟨g0, gz0, g1, gz1, g2, gz2⟩ := HG.out w5 c5))
            all_goals
              go_wp2_with fail
              first
              | (refine bodyPost_ret (v := .tuple #[.agg #[.int .i64 (b + (j : Int)), .int .i64 tv, .slice A2 0 c2], .bool true]) (by simp [results, Try.results39, go_sem, g0, g1, g2]) rfl ⟨A2, c2, rfl, Sl.mono (Sl.upd (lo' := w.heap.size + 1) (hi' := w.heap.size + 2) s6 (by (repeat' (first | with_reducible exact Upd.refl _ _ _ | with_reducible assumption | with_reducible refine Upd.drew ?_ | with_reducible refine Upd.alloc ?_ _ | with_reducible refine Upd.setCell ?_ ?_ ?_ _ | (simp only []; omega) | omega))) (.inr (by omega))) (by omega) (by (try simp only [World.heap_size_alloc, World.heap_size_drew, World.heap_size_setCell]); omega), (by have c9 : Below w.heap.size w w4 := hw3.trans (c4.mono (by omega)); (repeat' (first | with_reducible exact Below.refl _ _ | with_reducible assumption | with_reducible refine Below.drew ?_ | with_reducible refine Below.alloc ?_ ?_ _ | with_reducible refine Below.setCell ?_ ?_ _ | with_reducible refine Below.trans ?_ (Below.mono (by assumption) ?_) | ((try simp only [World.heap_size_alloc, World.heap_size_drew, World.heap_size_setCell]); omega))))⟩)
              | (refine bodyPost_ret (v := .tuple #[.agg #[.int .i64 (b + (j : Int)), .int .i64 tv, .slice A2 0 c2], .bool true]) (by simp [results, Try.results39, go_sem, g0, g1, g2]) rfl ⟨A2, c2, rfl, Sl.mono (Sl.upd (lo' := w.heap.size + 1) (hi' := w.heap.size + 2) s5 (by (repeat' (first | with_reducible exact Upd.refl _ _ _ | with_reducible assumption | with_reducible refine Upd.drew ?_ | with_reducible refine Upd.alloc ?_ _ | with_reducible refine Upd.setCell ?_ ?_ ?_ _ | (simp only []; omega) | omega))) (.inr (by omega))) (by omega) (by (try simp only [World.heap_size_alloc, World.heap_size_drew, World.heap_size_setCell]); omega), (by have c9 : Below w.heap.size w w5 := hw3.trans (c5.mono (by omega)); (repeat' (first | with_reducible exact Below.refl _ _ | with_reducible assumption | with_reducible refine Below.drew ?_ | with_reducible refine Below.alloc ?_ ?_ _ | with_reducible refine Below.setCell ?_ ?_ _ | with_reducible refine Below.trans ?_ (Below.mono (by assumption) ?_) | ((try simp only [World.heap_size_alloc, World.heap_size_drew, World.heap_size_setCell]); omega))))⟩)
          | some a =>
            go_enter Try.func39, Try.ntmps39
            go_wp2_with fail
            (with_reducible refine (HO.out _ (h.below (B := w.heap.size) (by (repeat' (first | with_reducible exact Below.refl _ _ | with_reducible assumption | with_reducible refine Below.drew ?_ | with_reducible refine Below.alloc ?_ ?_ _ | with_reducible refine Below.setCell ?_ ?_ _ | with_reducible refine Below.trans ?_ (Below.mono (by assumption) ?_) | ((try simp only [World.heap_size_alloc, World.heap_size_drew, World.heap_size_setCell]); omega)))) hhi)).mono ?_); rintro _ w1 ⟨rfl, b1⟩
            have y1 := b1.size
            (try simp only [World.heap_size_alloc] at y1)
            have hw1 : Below w.heap.size w w1 := by (repeat' (first | with_reducible exact Below.refl _ _ | with_reducible assumption | with_reducible refine Below.drew ?_ | with_reducible refine Below.alloc ?_ ?_ _ | with_reducible refine Below.setCell ?_ ?_ _ | with_reducible refine Below.trans ?_ (Below.mono (by assumption) ?_) | ((try simp only [World.heap_size_alloc, World.heap_size_drew, World.heap_size_setCell]); omega)))
            have ab0 : w1.cell? ⟨w.heap.size, 0, none⟩ = some (.int .i64 b) := (b1.cell (p := ⟨w.heap.size, 0, none⟩) (by (try simp only [World.heap_size_alloc, World.heap_size_drew, World.heap_size_setCell]); omega)).trans (by simp)
            have ab1 : w1.cell? ⟨w.heap.size, 1, none⟩ = some (.int .i64 t) := (b1.cell (p := ⟨w.heap.size, 1, none⟩) (by (try simp only [World.heap_size_alloc, World.heap_size_drew, World.heap_size_setCell]); omega)).trans (by simp)
            have ab2 : w1.cell? ⟨w.heap.size, 2, none⟩ = some (.slice (some a) j c) := (b1.cell (p := ⟨w.heap.size, 2, none⟩) (by (try simp only [World.heap_size_alloc, World.heap_size_drew, World.heap_size_setCell]); omega)).trans (by simp)
            have am0 : w1.cell? ⟨w.heap.size + 1, 0, none⟩ = some (.int .i64 0) := (b1.cell (p := ⟨w.heap.size + 1, 0, none⟩) (by (try simp only [World.heap_size_alloc, World.heap_size_drew, World.heap_size_setCell]); omega)).trans (by simp)
            have am1 : w1.cell? ⟨w.heap.size + 1, 1, none⟩ = some (.int .i64 0) := (b1.cell (p := ⟨w.heap.size + 1, 1, none⟩) (by (try simp only [World.heap_size_alloc, World.heap_size_drew, World.heap_size_setCell]); omega)).trans (by simp)
            have am2 : w1.cell? ⟨w.heap.size + 1, 2, none⟩ = some (.slice none 0 0) := (b1.cell (p := ⟨w.heap.size + 1, 2, none⟩) (by (try simp only [World.heap_size_alloc, World.heap_size_drew, World.heap_size_setCell]); omega)).trans (by simp)
            have fab0 := fun d os => cell_regrown ab0 d os
            have fab1 := fun d os => cell_regrown ab1 d os
            have fab2 := fun d os => cell_regrown ab2 d os
            have az0 : w1.frozen? ⟨w.heap.size + 1, 0, none⟩ = false := (b1.frozen (p := ⟨w.heap.size + 1, 0, none⟩) (by (try simp only [World.heap_size_alloc, World.heap_size_drew, World.heap_size_setCell]); omega)).trans (by simp)
            have az1 : w1.frozen? ⟨w.heap.size + 1, 1, none⟩ = false := (b1.frozen (p := ⟨w.heap.size + 1, 1, none⟩) (by (try simp only [World.heap_size_alloc, World.heap_size_drew, World.heap_size_setCell]); omega)).trans (by simp)
            have az2 : w1.frozen? ⟨w.heap.size + 1, 2, none⟩ = false := (b1.frozen (p := ⟨w.heap.size + 1, 2, none⟩) (by (try simp only [World.heap_size_alloc, World.heap_size_drew, World.heap_size_setCell]); omega)).trans (by simp)
            have hz1 : w.heap.size + 1 < w1.heap.size := by omega
            have hz1a : w.heap.size < w1.heap.size := by omega
            go_wp2_with fail
            refine wp_region_quiet_below (by kernel_rfl) (by kernel_rfl) ?_; (repeat (first | go_big_quiet_step ((first | (go_at_call 62; with_reducible exact Calls.regrown_of (HLA.out _)) | (go_at_call 56; with_reducible exact Calls.regrown_of (HBT.out _)))) | quiet_step ((first | (go_at_call 62; with_reducible exact Calls.regrown_of (HLA.out _)) | (go_at_call 56; with_reducible exact Calls.regrown_of (HBT.out _)))))); refine wpQuiet_nil ?_; intro _ hw'; obtain ⟨⟨nq, osq⟩, hw''⟩ := hw'; subst hw''; have hq := below_regrown w1 nq osq; generalize Sort.grow (redrawn w1 nq) osq = w3 at *
            have y3 := hq.size
            have hz3 : w.heap.size + 1 < w3.heap.size := by omega
            have hz3a : w.heap.size < w3.heap.size := by omega
            have hw3 : Below w.heap.size w w3 := hw1.trans (hq.mono (by omega))
            have db0 : w3.cell? ⟨w.heap.size, 0, none⟩ = some (.int .i64 b) := (hq.cell (p := ⟨w.heap.size, 0, none⟩) (show w.heap.size < w1.heap.size by omega)).trans ab0
            have db1 : w3.cell? ⟨w.heap.size, 1, none⟩ = some (.int .i64 t) := (hq.cell (p := ⟨w.heap.size, 1, none⟩) (show w.heap.size < w1.heap.size by omega)).trans ab1
            have db2 : w3.cell? ⟨w.heap.size, 2, none⟩ = some (.slice (some a) j c) := (hq.cell (p := ⟨w.heap.size, 2, none⟩) (show w.heap.size < w1.heap.size by omega)).trans ab2
            have dm0 : w3.cell? ⟨w.heap.size + 1, 0, none⟩ = some (.int .i64 0) := (hq.cell (p := ⟨w.heap.size + 1, 0, none⟩) (show w.heap.size + 1 < w1.heap.size by omega)).trans am0
            have dm1 : w3.cell? ⟨w.heap.size + 1, 1, none⟩ = some (.int .i64 0) := (hq.cell (p := ⟨w.heap.size + 1, 1, none⟩) (show w.heap.size + 1 < w1.heap.size by omega)).trans am1
            have dm2 : w3.cell? ⟨w.heap.size + 1, 2, none⟩ = some (.slice none 0 0) := (hq.cell (p := ⟨w.heap.size + 1, 2, none⟩) (show w.heap.size + 1 < w1.heap.size by omega)).trans am2
            have dz0 : w3.frozen? ⟨w.heap.size + 1, 0, none⟩ = false := (hq.frozen (p := ⟨w.heap.size + 1, 0, none⟩) hz1).trans az0
            have dz1 : w3.frozen? ⟨w.heap.size + 1, 1, none⟩ = false := (hq.frozen (p := ⟨w.heap.size + 1, 1, none⟩) hz1).trans az1
            have dz2 : w3.frozen? ⟨w.heap.size + 1, 2, none⟩ = false := (hq.frozen (p := ⟨w.heap.size + 1, 2, none⟩) hz1).trans az2
            clear ab0 ab1 ab2 am0 am1 am2 az0 az1 az2 fab0 fab1 fab2 hq b1
            have HS3 := Lib.hid (h.below hw3 hhi)
            have SK : ∀ W, Upd (w.heap.size + 1) (w.heap.size + 2) w3 W → (W.cell? ⟨w.heap.size, 0, none⟩ = some (.int .i64 b) ∧ W.cell? ⟨w.heap.size, 1, none⟩ = some (.int .i64 t) ∧ W.cell? ⟨w.heap.size, 2, none⟩ = some (.slice (some a) j c) ∧ Upd (w.heap.size + 1) (w.heap.size + 2) w3 W) := fun W hu => ⟨((ucell hu (b := w.heap.size) hz3a (.inl (by omega))).1 0).trans db0, ((ucell hu (b := w.heap.size) hz3a (.inl (by omega))).1 1).trans db1, ((ucell hu (b := w.heap.size) hz3a (.inl (by omega))).1 2).trans db2, hu⟩
            have HSK := Lib.hid SK
            have GK : ∀ W, Below w3.heap.size w3 W → (W.cell? ⟨w.heap.size + 1, 0, none⟩ = some (.int .i64 0) ∧ W.frozen? ⟨w.heap.size + 1, 0, none⟩ = false ∧ W.cell? ⟨w.heap.size + 1, 1, none⟩ = some (.int .i64 0) ∧ W.frozen? ⟨w.heap.size + 1, 1, none⟩ = false ∧ W.cell? ⟨w.heap.size + 1, 2, none⟩ = some (.slice none 0 0) ∧ W.frozen? ⟨w.heap.size + 1, 2, none⟩ = false) := fun W hb => ⟨(hb.cell (p := ⟨w.heap.size + 1, 0, none⟩) hz3).trans dm0, (hb.frozen (p := ⟨w.heap.size + 1, 0, none⟩) hz3).trans dz0, (hb.cell (p := ⟨w.heap.size + 1, 1, none⟩) hz3).trans dm1, (hb.frozen (p := ⟨w.heap.size + 1, 1, none⟩) hz3).trans dz1, (hb.cell (p := ⟨w.heap.size + 1, 2, none⟩) hz3).trans dm2, (hb.frozen (p := ⟨w.heap.size + 1, 2, none⟩) hz3).trans dz2⟩
            have HG := Lib.hid GK
            clear SK GK h
            go_wp2_with fail
            go_region_held3 (fun w' => w'.cell? ⟨w.heap.size, 0, none⟩ = some (.int .i64 b) ∧ w'.cell? ⟨w.heap.size, 1, none⟩ = some (.int .i64 t) ∧ w'.cell? ⟨w.heap.size, 2, none⟩ = some (.slice (some a) j c) ∧ Upd (w.heap.size + 1) (w.heap.size + 2) w3 w')
              (first | (refine HSK.out _ ?_; (repeat' (first | with_reducible exact Upd.refl _ _ _ | with_reducible assumption | with_reducible refine Upd.drew ?_ | with_reducible refine Upd.alloc ?_ _ | with_reducible refine Upd.setCell ?_ ?_ ?_ _ | (simp only []; omega) | omega))) | (go_split_ands; refine HSK.out _ ?_; (repeat' (first | with_reducible exact Upd.refl _ _ _ | with_reducible assumption | with_reducible refine Upd.drew ?_ | with_reducible refine Upd.alloc ?_ _ | with_reducible refine Upd.setCell ?_ ?_ ?_ _ | (simp only []; omega) | omega))))
              (first
                | (go_at_call 65; (with_reducible refine (HTA.out _ (HS3.out.below (B := w3.heap.size) (by (repeat' (first | with_reducible exact Below.refl _ _ | with_reducible assumption | with_reducible refine Below.drew ?_ | with_reducible refine Below.alloc ?_ ?_ _ | with_reducible refine Below.setCell ?_ ?_ _ | with_reducible refine Below.trans ?_ (Below.mono (by assumption) ?_) | ((try simp only [World.heap_size_alloc, World.heap_size_drew, World.heap_size_setCell]); omega)))) (by omega))).mono ?_); rintro _ w4 ⟨rfl, b4⟩; have c4 : Below w3.heap.size w3 w4 := (by (repeat' (first | with_reducible exact Below.refl _ _ | with_reducible assumption | with_reducible refine Below.drew ?_ | with_reducible refine Below.alloc ?_ ?_ _ | with_reducible refine Below.setCell ?_ ?_ _ | with_reducible refine Below.trans ?_ (Below.mono (by assumption) ?_) | ((try simp only [World.heap_size_alloc, World.heap_size_drew, World.heap_size_setCell]); omega)))); have y4 := c4.size; have u4 : Upd (w.heap.size + 1) (w.heap.size + 2) w3 w4 := Upd.of_below c4; (try have s6 := s5.below (B := w5.heap.size) (w' := w4) (by (repeat' (first | with_reducible exact Below.refl _ _ | with_reducible assumption | with_reducible refine Below.drew ?_ | with_reducible refine Below.alloc ?_ ?_ _ | with_reducible refine Below.setCell ?_ ?_ _ | with_reducible refine Below.trans ?_ (Below.mono (by assumption) ?_) | ((try simp only [World.heap_size_alloc, World.heap_size_drew, World.heap_size_setCell]); omega)))) (Nat.le_refl _)); obtain ⟨g0, gz0, g1, gz1, g2, gz2⟩ := HG.out w4 c4)
                | (go_at_call 70; (with_reducible refine ((HEN.out _ _ _ (by omega))).mono ?_); rintro _ w5 ⟨A2, c2, rfl, s5, b5⟩; have c5 : Below w3.heap.size w3 w5 := (by (repeat' (first | with_reducible exact Below.refl _ _ | with_reducible assumption | with_reducible refine Below.drew ?_ | with_reducible refine Below.alloc ?_ ?_ _ | with_reducible refine Below.setCell ?_ ?_ _ | with_reducible refine Below.trans ?_ (Below.mono (by assumption) ?_) | ((try simp only [World.heap_size_alloc, World.heap_size_drew, World.heap_size_setCell]); omega)))); have y5 := c5.size; have u5 : Upd (w.heap.size + 1) (w.heap.size + 2) w3 w5 := Upd.of_below c5; obtain ⟨g0, gz0, g1, gz1, g2, gz2⟩ := HG.out w5 c5))
            all_goals
              go_wp2_with fail
              first
              | (refine bodyPost_ret (v := .tuple #[.agg #[.int .i64 (b + (j : Int)), .int .i64 tv, .slice A2 0 c2], .bool true]) (by simp [results, Try.results39, go_sem, g0, g1, g2]) rfl ⟨A2, c2, rfl, Sl.mono (Sl.upd (lo' := w.heap.size + 1) (hi' := w.heap.size + 2) s6 (by (repeat' (first | with_reducible exact Upd.refl _ _ _ | with_reducible assumption | with_reducible refine Upd.drew ?_ | with_reducible refine Upd.alloc ?_ _ | with_reducible refine Upd.setCell ?_ ?_ ?_ _ | (simp only []; omega) | omega))) (.inr (by omega))) (by omega) (by (try simp only [World.heap_size_alloc, World.heap_size_drew, World.heap_size_setCell]); omega), (by have c9 : Below w.heap.size w w4 := hw3.trans (c4.mono (by omega)); (repeat' (first | with_reducible exact Below.refl _ _ | with_reducible assumption | with_reducible refine Below.drew ?_ | with_reducible refine Below.alloc ?_ ?_ _ | with_reducible refine Below.setCell ?_ ?_ _ | with_reducible refine Below.trans ?_ (Below.mono (by assumption) ?_) | ((try simp only [World.heap_size_alloc, World.heap_size_drew, World.heap_size_setCell]); omega))))⟩)
              | (refine bodyPost_ret (v := .tuple #[.agg #[.int .i64 (b + (j : Int)), .int .i64 tv, .slice A2 0 c2], .bool true]) (by simp [results, Try.results39, go_sem, g0, g1, g2]) rfl ⟨A2, c2, rfl, Sl.mono (Sl.upd (lo' := w.heap.size + 1) (hi' := w.heap.size + 2) s5 (by (repeat' (first | with_reducible exact Upd.refl _ _ _ | with_reducible assumption | with_reducible refine Upd.drew ?_ | with_reducible refine Upd.alloc ?_ _ | with_reducible refine Upd.setCell ?_ ?_ ?_ _ | (simp only []; omega) | omega))) (.inr (by omega))) (by omega) (by (try simp only [World.heap_size_alloc, World.heap_size_drew, World.heap_size_setCell]); omega), (by have c9 : Below w.heap.size w w5 := hw3.trans (c5.mono (by omega)); (repeat' (first | with_reducible exact Below.refl _ _ | with_reducible assumption | with_reducible refine Below.drew ?_ | with_reducible refine Below.alloc ?_ ?_ _ | with_reducible refine Below.setCell ?_ ?_ _ | with_reducible refine Below.trans ?_ (Below.mono (by assumption) ?_) | ((try simp only [World.heap_size_alloc, World.heap_size_drew, World.heap_size_setCell]); omega))))⟩)
      · obtain ⟨g, off, rfl, hg0, hg1, _⟩ := h.lie (by omega)
        have hcj : ¬ c = j := by omega
        have hcj2 : j < c := by omega
        have HT := h.tail EntryD.ints_len hjn
        rw [if_neg hcj, show (some (⟨g, off, none⟩ : Addr)).map (·.add (j * 9)) = some ⟨g, off + j * 9, none⟩ by simp [Addr.add]] at HT
        have HEN := Lib.hid (fun W c' s => l8Entries_any (some ⟨g, off + j * 9, none⟩) (n - j) c' lo hi (l.drop j) W s (by omega))
        generalize (l.drop j).flatMap EntryD.ints = zs at HEN HT ⊢
        have hx1 : x = b + (j : Int) := by omega
        clear hj
        subst hx1
        have hx2 : b + (j : Int) - b = (j : Int) := by omega
        have hx3 : (j : Int) ≤ (n : Int) := by omega
        have hx4 : (0 : Int) ≤ (j : Int) := by omega
        have hx5 : IntKind.i64.wrap (j : Int) = (j : Int) := IntWalk.i64_in _ (by omega)
        go_enter Try.func39, Try.ntmps39
        go_wp2_with fail
        (with_reducible refine (HO.out _ (h.below (B := w.heap.size) (by (repeat' (first | with_reducible exact Below.refl _ _ | with_reducible assumption | with_reducible refine Below.drew ?_ | with_reducible refine Below.alloc ?_ ?_ _ | with_reducible refine Below.setCell ?_ ?_ _ | with_reducible refine Below.trans ?_ (Below.mono (by assumption) ?_) | ((try simp only [World.heap_size_alloc, World.heap_size_drew, World.heap_size_setCell]); omega)))) hhi)).mono ?_); rintro _ w1 ⟨rfl, b1⟩
        have y1 := b1.size
        (try simp only [World.heap_size_alloc] at y1)
        have hw1 : Below w.heap.size w w1 := by (repeat' (first | with_reducible exact Below.refl _ _ | with_reducible assumption | with_reducible refine Below.drew ?_ | with_reducible refine Below.alloc ?_ ?_ _ | with_reducible refine Below.setCell ?_ ?_ _ | with_reducible refine Below.trans ?_ (Below.mono (by assumption) ?_) | ((try simp only [World.heap_size_alloc, World.heap_size_drew, World.heap_size_setCell]); omega)))
        have ab0 : w1.cell? ⟨w.heap.size, 0, none⟩ = some (.int .i64 b) := (b1.cell (p := ⟨w.heap.size, 0, none⟩) (by (try simp only [World.heap_size_alloc, World.heap_size_drew, World.heap_size_setCell]); omega)).trans (by simp)
        have ab1 : w1.cell? ⟨w.heap.size, 1, none⟩ = some (.int .i64 t) := (b1.cell (p := ⟨w.heap.size, 1, none⟩) (by (try simp only [World.heap_size_alloc, World.heap_size_drew, World.heap_size_setCell]); omega)).trans (by simp)
        have ab2 : w1.cell? ⟨w.heap.size, 2, none⟩ = some (.slice (some ⟨g, off, none⟩) n c) := (b1.cell (p := ⟨w.heap.size, 2, none⟩) (by (try simp only [World.heap_size_alloc, World.heap_size_drew, World.heap_size_setCell]); omega)).trans (by simp)
        have am0 : w1.cell? ⟨w.heap.size + 1, 0, none⟩ = some (.int .i64 0) := (b1.cell (p := ⟨w.heap.size + 1, 0, none⟩) (by (try simp only [World.heap_size_alloc, World.heap_size_drew, World.heap_size_setCell]); omega)).trans (by simp)
        have am1 : w1.cell? ⟨w.heap.size + 1, 1, none⟩ = some (.int .i64 0) := (b1.cell (p := ⟨w.heap.size + 1, 1, none⟩) (by (try simp only [World.heap_size_alloc, World.heap_size_drew, World.heap_size_setCell]); omega)).trans (by simp)
        have am2 : w1.cell? ⟨w.heap.size + 1, 2, none⟩ = some (.slice none 0 0) := (b1.cell (p := ⟨w.heap.size + 1, 2, none⟩) (by (try simp only [World.heap_size_alloc, World.heap_size_drew, World.heap_size_setCell]); omega)).trans (by simp)
        have fab0 := fun d os => cell_regrown ab0 d os
        have fab1 := fun d os => cell_regrown ab1 d os
        have fab2 := fun d os => cell_regrown ab2 d os
        have az0 : w1.frozen? ⟨w.heap.size + 1, 0, none⟩ = false := (b1.frozen (p := ⟨w.heap.size + 1, 0, none⟩) (by (try simp only [World.heap_size_alloc, World.heap_size_drew, World.heap_size_setCell]); omega)).trans (by simp)
        have az1 : w1.frozen? ⟨w.heap.size + 1, 1, none⟩ = false := (b1.frozen (p := ⟨w.heap.size + 1, 1, none⟩) (by (try simp only [World.heap_size_alloc, World.heap_size_drew, World.heap_size_setCell]); omega)).trans (by simp)
        have az2 : w1.frozen? ⟨w.heap.size + 1, 2, none⟩ = false := (b1.frozen (p := ⟨w.heap.size + 1, 2, none⟩) (by (try simp only [World.heap_size_alloc, World.heap_size_drew, World.heap_size_setCell]); omega)).trans (by simp)
        have hz1 : w.heap.size + 1 < w1.heap.size := by omega
        have hz1a : w.heap.size < w1.heap.size := by omega
        go_wp2_with fail
        refine wp_region_quiet_below (by kernel_rfl) (by kernel_rfl) ?_; (repeat (first | go_big_quiet_step ((first | (go_at_call 62; with_reducible exact Calls.regrown_of (HLA.out _)) | (go_at_call 56; with_reducible exact Calls.regrown_of (HBT.out _)))) | quiet_step ((first | (go_at_call 62; with_reducible exact Calls.regrown_of (HLA.out _)) | (go_at_call 56; with_reducible exact Calls.regrown_of (HBT.out _)))))); refine wpQuiet_nil ?_; intro _ hw'; obtain ⟨⟨nq, osq⟩, hw''⟩ := hw'; subst hw''; have hq := below_regrown w1 nq osq; generalize Sort.grow (redrawn w1 nq) osq = w3 at *
        have y3 := hq.size
        have hz3 : w.heap.size + 1 < w3.heap.size := by omega
        have hz3a : w.heap.size < w3.heap.size := by omega
        have hw3 : Below w.heap.size w w3 := hw1.trans (hq.mono (by omega))
        have db0 : w3.cell? ⟨w.heap.size, 0, none⟩ = some (.int .i64 b) := (hq.cell (p := ⟨w.heap.size, 0, none⟩) (show w.heap.size < w1.heap.size by omega)).trans ab0
        have db1 : w3.cell? ⟨w.heap.size, 1, none⟩ = some (.int .i64 t) := (hq.cell (p := ⟨w.heap.size, 1, none⟩) (show w.heap.size < w1.heap.size by omega)).trans ab1
        have db2 : w3.cell? ⟨w.heap.size, 2, none⟩ = some (.slice (some ⟨g, off, none⟩) n c) := (hq.cell (p := ⟨w.heap.size, 2, none⟩) (show w.heap.size < w1.heap.size by omega)).trans ab2
        have dm0 : w3.cell? ⟨w.heap.size + 1, 0, none⟩ = some (.int .i64 0) := (hq.cell (p := ⟨w.heap.size + 1, 0, none⟩) (show w.heap.size + 1 < w1.heap.size by omega)).trans am0
        have dm1 : w3.cell? ⟨w.heap.size + 1, 1, none⟩ = some (.int .i64 0) := (hq.cell (p := ⟨w.heap.size + 1, 1, none⟩) (show w.heap.size + 1 < w1.heap.size by omega)).trans am1
        have dm2 : w3.cell? ⟨w.heap.size + 1, 2, none⟩ = some (.slice none 0 0) := (hq.cell (p := ⟨w.heap.size + 1, 2, none⟩) (show w.heap.size + 1 < w1.heap.size by omega)).trans am2
        have dz0 : w3.frozen? ⟨w.heap.size + 1, 0, none⟩ = false := (hq.frozen (p := ⟨w.heap.size + 1, 0, none⟩) hz1).trans az0
        have dz1 : w3.frozen? ⟨w.heap.size + 1, 1, none⟩ = false := (hq.frozen (p := ⟨w.heap.size + 1, 1, none⟩) hz1).trans az1
        have dz2 : w3.frozen? ⟨w.heap.size + 1, 2, none⟩ = false := (hq.frozen (p := ⟨w.heap.size + 1, 2, none⟩) hz1).trans az2
        clear ab0 ab1 ab2 am0 am1 am2 az0 az1 az2 fab0 fab1 fab2 hq b1
        have HS3 := Lib.hid (h.below hw3 hhi)
        have HT3 : Hid (Sl w3 lo hi 9 (some ⟨g, off + j * 9, none⟩) (n - j) (c - j) zs) := Lib.hid (HT.below hw3 hhi)
        clear HT
        have SK : ∀ W, Upd (w.heap.size + 1) (w.heap.size + 2) w3 W → (W.cell? ⟨w.heap.size, 0, none⟩ = some (.int .i64 b) ∧ W.cell? ⟨w.heap.size, 1, none⟩ = some (.int .i64 t) ∧ W.cell? ⟨w.heap.size, 2, none⟩ = some (.slice (some ⟨g, off, none⟩) n c) ∧ Upd (w.heap.size + 1) (w.heap.size + 2) w3 W) := fun W hu => ⟨((ucell hu (b := w.heap.size) hz3a (.inl (by omega))).1 0).trans db0, ((ucell hu (b := w.heap.size) hz3a (.inl (by omega))).1 1).trans db1, ((ucell hu (b := w.heap.size) hz3a (.inl (by omega))).1 2).trans db2, hu⟩
        have HSK := Lib.hid SK
        have GK : ∀ W, Below w3.heap.size w3 W → (W.cell? ⟨w.heap.size + 1, 0, none⟩ = some (.int .i64 0) ∧ W.frozen? ⟨w.heap.size + 1, 0, none⟩ = false ∧ W.cell? ⟨w.heap.size + 1, 1, none⟩ = some (.int .i64 0) ∧ W.frozen? ⟨w.heap.size + 1, 1, none⟩ = false ∧ W.cell? ⟨w.heap.size + 1, 2, none⟩ = some (.slice none 0 0) ∧ W.frozen? ⟨w.heap.size + 1, 2, none⟩ = false) := fun W hb => ⟨(hb.cell (p := ⟨w.heap.size + 1, 0, none⟩) hz3).trans dm0, (hb.frozen (p := ⟨w.heap.size + 1, 0, none⟩) hz3).trans dz0, (hb.cell (p := ⟨w.heap.size + 1, 1, none⟩) hz3).trans dm1, (hb.frozen (p := ⟨w.heap.size + 1, 1, none⟩) hz3).trans dz1, (hb.cell (p := ⟨w.heap.size + 1, 2, none⟩) hz3).trans dm2, (hb.frozen (p := ⟨w.heap.size + 1, 2, none⟩) hz3).trans dz2⟩
        have HG := Lib.hid GK
        clear SK GK h
        go_wp2_with fail
        go_region_held3 (fun w' => w'.cell? ⟨w.heap.size, 0, none⟩ = some (.int .i64 b) ∧ w'.cell? ⟨w.heap.size, 1, none⟩ = some (.int .i64 t) ∧ w'.cell? ⟨w.heap.size, 2, none⟩ = some (.slice (some ⟨g, off, none⟩) n c) ∧ Upd (w.heap.size + 1) (w.heap.size + 2) w3 w')
          (first | (refine HSK.out _ ?_; (repeat' (first | with_reducible exact Upd.refl _ _ _ | with_reducible assumption | with_reducible refine Upd.drew ?_ | with_reducible refine Upd.alloc ?_ _ | with_reducible refine Upd.setCell ?_ ?_ ?_ _ | (simp only []; omega) | omega))) | (go_split_ands; refine HSK.out _ ?_; (repeat' (first | with_reducible exact Upd.refl _ _ _ | with_reducible assumption | with_reducible refine Upd.drew ?_ | with_reducible refine Upd.alloc ?_ _ | with_reducible refine Upd.setCell ?_ ?_ ?_ _ | (simp only []; omega) | omega))))
          (first
            | (go_at_call 65; (with_reducible refine (HTA.out _ (HS3.out.below (B := w3.heap.size) (by (repeat' (first | with_reducible exact Below.refl _ _ | with_reducible assumption | with_reducible refine Below.drew ?_ | with_reducible refine Below.alloc ?_ ?_ _ | with_reducible refine Below.setCell ?_ ?_ _ | with_reducible refine Below.trans ?_ (Below.mono (by assumption) ?_) | ((try simp only [World.heap_size_alloc, World.heap_size_drew, World.heap_size_setCell]); omega)))) (by omega))).mono ?_); rintro _ w4 ⟨rfl, b4⟩; have c4 : Below w3.heap.size w3 w4 := (by (repeat' (first | with_reducible exact Below.refl _ _ | with_reducible assumption | with_reducible refine Below.drew ?_ | with_reducible refine Below.alloc ?_ ?_ _ | with_reducible refine Below.setCell ?_ ?_ _ | with_reducible refine Below.trans ?_ (Below.mono (by assumption) ?_) | ((try simp only [World.heap_size_alloc, World.heap_size_drew, World.heap_size_setCell]); omega)))); have y4 := c4.size; have u4 : Upd (w.heap.size + 1) (w.heap.size + 2) w3 w4 := Upd.of_below c4; (try have s6 := s5.below (B := w5.heap.size) (w' := w4) (by (repeat' (first | with_reducible exact Below.refl _ _ | with_reducible assumption | with_reducible refine Below.drew ?_ | with_reducible refine Below.alloc ?_ ?_ _ | with_reducible refine Below.setCell ?_ ?_ _ | with_reducible refine Below.trans ?_ (Below.mono (by assumption) ?_) | ((try simp only [World.heap_size_alloc, World.heap_size_drew, World.heap_size_setCell]); omega)))) (Nat.le_refl _)); obtain ⟨g0, gz0, g1, gz1, g2, gz2⟩ := HG.out w4 c4)
            | (go_at_call 70; (with_reducible refine ((HEN.out _ _ (HT3.out.below (B := w3.heap.size) (by (repeat' (first | with_reducible exact Below.refl _ _ | with_reducible assumption | with_reducible refine Below.drew ?_ | with_reducible refine Below.alloc ?_ ?_ _ | with_reducible refine Below.setCell ?_ ?_ _ | with_reducible refine Below.trans ?_ (Below.mono (by assumption) ?_) | ((try simp only [World.heap_size_alloc, World.heap_size_drew, World.heap_size_setCell]); omega)))) (by omega)))).mono ?_); rintro _ w5 ⟨A2, c2, rfl, s5, b5⟩; have c5 : Below w3.heap.size w3 w5 := (by (repeat' (first | with_reducible exact Below.refl _ _ | with_reducible assumption | with_reducible refine Below.drew ?_ | with_reducible refine Below.alloc ?_ ?_ _ | with_reducible refine Below.setCell ?_ ?_ _ | with_reducible refine Below.trans ?_ (Below.mono (by assumption) ?_) | ((try simp only [World.heap_size_alloc, World.heap_size_drew, World.heap_size_setCell]); omega)))); have y5 := c5.size; have u5 : Upd (w.heap.size + 1) (w.heap.size + 2) w3 w5 := Upd.of_below c5; obtain ⟨g0, gz0, g1, gz1, g2, gz2⟩ := HG.out w5 c5))
        all_goals
          go_wp2_with fail
          first
          | (refine bodyPost_ret (v := .tuple #[.agg #[.int .i64 (b + (j : Int)), .int .i64 tv, .slice A2 (n - j) c2], .bool true]) (by simp [results, Try.results39, go_sem, g0, g1, g2]) rfl ⟨A2, c2, rfl, Sl.mono (Sl.upd (lo' := w.heap.size + 1) (hi' := w.heap.size + 2) s6 (by (repeat' (first | with_reducible exact Upd.refl _ _ _ | with_reducible assumption | with_reducible refine Upd.drew ?_ | with_reducible refine Upd.alloc ?_ _ | with_reducible refine Upd.setCell ?_ ?_ ?_ _ | (simp only []; omega) | omega))) (.inr (by omega))) (by omega) (by (try simp only [World.heap_size_alloc, World.heap_size_drew, World.heap_size_setCell]); omega), (by have c9 : Below w.heap.size w w4 := hw3.trans (c4.mono (by omega)); (repeat' (first | with_reducible exact Below.refl _ _ | with_reducible assumption | with_reducible refine Below.drew ?_ | with_reducible refine Below.alloc ?_ ?_ _ | with_reducible refine Below.setCell ?_ ?_ _ | with_reducible refine Below.trans ?_ (Below.mono (by assumption) ?_) | ((try simp only [World.heap_size_alloc, World.heap_size_drew, World.heap_size_setCell]); omega))))⟩)
          | (refine bodyPost_ret (v := .tuple #[.agg #[.int .i64 (b + (j : Int)), .int .i64 tv, .slice A2 (n - j) c2], .bool true]) (by simp [results, Try.results39, go_sem, g0, g1, g2]) rfl ⟨A2, c2, rfl, Sl.mono (Sl.upd (lo' := w.heap.size + 1) (hi' := w.heap.size + 2) s5 (by (repeat' (first | with_reducible exact Upd.refl _ _ _ | with_reducible assumption | with_reducible refine Upd.drew ?_ | with_reducible refine Upd.alloc ?_ _ | with_reducible refine Upd.setCell ?_ ?_ ?_ _ | (simp only []; omega) | omega))) (.inr (by omega))) (by omega) (by (try simp only [World.heap_size_alloc, World.heap_size_drew, World.heap_size_setCell]); omega), (by have c9 : Below w.heap.size w w5 := hw3.trans (c5.mono (by omega)); (repeat' (first | with_reducible exact Below.refl _ _ | with_reducible assumption | with_reducible refine Below.drew ?_ | with_reducible refine Below.alloc ?_ ?_ _ | with_reducible refine Below.setCell ?_ ?_ _ | with_reducible refine Below.trans ?_ (Below.mono (by assumption) ?_) | ((try simp only [World.heap_size_alloc, World.heap_size_drew, World.heap_size_setCell]); omega))))⟩)

end Go.Proofs.Ytijefbmnhcecmaa
