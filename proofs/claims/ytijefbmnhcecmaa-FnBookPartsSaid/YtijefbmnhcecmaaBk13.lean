/- Books: one entry appended, the reference's function. No conditions. -/
import Derived.Test.YtijefbmnhcecmaaBk11
import Derived.Test.YtijefbmnhcecmaaBk12
set_option linter.unusedSimpArgs false
set_option linter.unusedVariables false
namespace Go.Proofs.Ytijefbmnhcecmaa
open Go.RowKit

set_option maxRecDepth 100000 in
set_option maxHeartbeats 4000000 in
theorem sAppended_any (b t : Int) (A : Option Addr) (n c lo hi : Nat) (l : List EntryD) (e : EntryD) (w : World) (h : Sl w lo hi 9 A n c (l.flatMap EntryD.ints)) :
    Calls Try.prog 41 #[.agg #[.int .i64 b, .int .i64 t, .slice A n c], .agg #[.int .i64 e.index, .int .i64 e.time, .int .i64 e.client, .int .i64 e.seq, .int .i64 e.op.kind, .int .i64 e.op.a, .int .i64 e.op.b, .int .i64 e.op.c, .int .i64 e.op.d]] w (BookBRes w (appendedM b t l e).1 (appendedM b t l e).2.1 (appendedM b t l e).2.2.1.length ((appendedM b t l e).2.2.1.flatMap EntryD.ints) (appendedM b t l e).2.2.2) := by
  have HL := Lib.hid (h.count EntryD.ints_len (by omega) : l.length = n)
  replace h := h.fit (by omega)
  have hhi : min hi w.heap.size ≤ w.heap.size := Nat.min_le_right _ _
  generalize min hi w.heap.size = hi at h hhi
  cases hok : bookOk b t l with
  | false =>
    have e0 : appendedM b t l e = (0, 0, [], false) := by simp [appendedM, hok]
    rw [e0]
    clear e0
    have CO : ∀ W, Sl W lo hi 9 A n c (l.flatMap EntryD.ints) → Calls Try.prog 21 #[.agg #[.int .i64 b, .int .i64 t, .slice A n c]] W fun x w' => x = .returned (.bool false) ∧ Below W.heap.size W w' := fun W s => by
      have h7 := sBookOk_any b t A n c lo hi l W s
      rw [hok] at h7
      exact h7
    have HO := Lib.hid CO
    clear CO
    clear hok
    go_enter Try.func41, Try.ntmps41
    go_wp2_with fail
    (with_reducible refine (HO.out _ (h.below (B := w.heap.size) (by (repeat' (first | with_reducible exact Below.refl _ _ | with_reducible assumption | with_reducible refine Below.drew ?_ | with_reducible refine Below.alloc ?_ ?_ _ | with_reducible refine Below.setCell ?_ ?_ _ | with_reducible refine Below.trans ?_ (Below.mono (by assumption) ?_) | ((try simp only [World.heap_size_alloc, World.heap_size_drew, World.heap_size_setCell]); omega)))) hhi)).mono ?_); rintro _ w1 ⟨rfl, b1⟩
    have y1 := b1.size
    (try simp only [World.heap_size_alloc] at y1)
    have hw1 : Below w.heap.size w w1 := by (repeat' (first | with_reducible exact Below.refl _ _ | with_reducible assumption | with_reducible refine Below.drew ?_ | with_reducible refine Below.alloc ?_ ?_ _ | with_reducible refine Below.setCell ?_ ?_ _ | with_reducible refine Below.trans ?_ (Below.mono (by assumption) ?_) | ((try simp only [World.heap_size_alloc, World.heap_size_drew, World.heap_size_setCell]); omega)))
    have m0 : w1.cell? ⟨w.heap.size + 1 + 1, 0, none⟩ = some (.int .i64 0) := (b1.cell (p := ⟨w.heap.size + 1 + 1, 0, none⟩) (by (try simp only [World.heap_size_alloc, World.heap_size_drew, World.heap_size_setCell]); omega)).trans (by simp [go_sem])
    have f0 : w1.frozen? ⟨w.heap.size + 1 + 1, 0, none⟩ = false := (b1.frozen (p := ⟨w.heap.size + 1 + 1, 0, none⟩) (by (try simp only [World.heap_size_alloc, World.heap_size_drew, World.heap_size_setCell]); omega)).trans (by simp [go_sem])
    have m1 : w1.cell? ⟨w.heap.size + 1 + 1, 1, none⟩ = some (.int .i64 0) := (b1.cell (p := ⟨w.heap.size + 1 + 1, 1, none⟩) (by (try simp only [World.heap_size_alloc, World.heap_size_drew, World.heap_size_setCell]); omega)).trans (by simp [go_sem])
    have f1 : w1.frozen? ⟨w.heap.size + 1 + 1, 1, none⟩ = false := (b1.frozen (p := ⟨w.heap.size + 1 + 1, 1, none⟩) (by (try simp only [World.heap_size_alloc, World.heap_size_drew, World.heap_size_setCell]); omega)).trans (by simp [go_sem])
    have m2 : w1.cell? ⟨w.heap.size + 1 + 1, 2, none⟩ = some (.slice none 0 0) := (b1.cell (p := ⟨w.heap.size + 1 + 1, 2, none⟩) (by (try simp only [World.heap_size_alloc, World.heap_size_drew, World.heap_size_setCell]); omega)).trans (by simp [go_sem])
    have f2 : w1.frozen? ⟨w.heap.size + 1 + 1, 2, none⟩ = false := (b1.frozen (p := ⟨w.heap.size + 1 + 1, 2, none⟩) (by (try simp only [World.heap_size_alloc, World.heap_size_drew, World.heap_size_setCell]); omega)).trans (by simp [go_sem])
    go_wp2_with fail
    refine bodyPost_ret (v := .tuple #[.agg #[.int .i64 0, .int .i64 0, .slice none 0 0], .bool false]) (by simp [results, Try.results41, go_sem, m0, m1, m2]) rfl ⟨none, 0, rfl, Sl.nil _ _ _ _ _ _ (by omega), ?_⟩
    exact hw1.trans (by (repeat' (first | with_reducible exact Below.refl _ _ | with_reducible assumption | with_reducible refine Below.drew ?_ | with_reducible refine Below.alloc ?_ ?_ _ | with_reducible refine Below.setCell ?_ ?_ _ | with_reducible refine Below.trans ?_ (Below.mono (by assumption) ?_) | ((try simp only [World.heap_size_alloc, World.heap_size_drew, World.heap_size_setCell]); omega))))
  | true =>
    cases hek : entryOk e with
    | false =>
      have e0 : appendedM b t l e = (b, t, l, false) := by
        unfold appendedM
        rw [if_pos hok, if_neg (by simp [fitsM, hek])]
      rw [e0]
      clear e0
      show Calls _ _ _ _ (BookBRes w b t l.length (l.flatMap EntryD.ints) false)
      rw [HL.out]
      obtain ⟨q0, q1, q2, q3, q4, _⟩ := bookOk_facts hok
      rw [HL.out] at q4
      have CO : ∀ W, Sl W lo hi 9 A n c (l.flatMap EntryD.ints) → Calls Try.prog 21 #[.agg #[.int .i64 b, .int .i64 t, .slice A n c]] W fun x w' => x = .returned (.bool true) ∧ Below W.heap.size W w' := fun W s => by
        have h7 := sBookOk_any b t A n c lo hi l W s
        rw [hok] at h7
        exact h7
      have HO := Lib.hid CO
      clear CO
      have HCP := Lib.hid (fun W s => l8CopyO_any b t A n c lo hi l W s (by omega))
      have HLA := Lib.hid (fun W => l8Last_any b t A n c W q0 q1 q4)
      have hw9 : IntKind.i64.wrap (b + (n : Int) + 1) = b + (n : Int) + 1 := IntWalk.i64_in _ (by omega)
      have CE : ∀ W, Calls Try.prog 71 #[.agg #[.int .i64 e.index, .int .i64 e.time, .int .i64 e.client, .int .i64 e.seq, .int .i64 e.op.kind, .int .i64 e.op.a, .int .i64 e.op.b, .int .i64 e.op.c, .int .i64 e.op.d]] W fun x w' => x = .returned (.bool false) ∧ Below W.heap.size W w' := fun W => by
        have h7 := sEntryOk_any e.index e.time e.client e.seq e.op.kind e.op.a e.op.b e.op.c e.op.d W
        rw [show entryOk ⟨e.index, e.time, e.client, e.seq, ⟨e.op.kind, e.op.a, e.op.b, e.op.c, e.op.d⟩⟩ = false from hek] at h7
        exact h7
      have HE := Lib.hid CE
      clear CE
      clear hok hek
      go_enter Try.func41, Try.ntmps41
      go_wp2_with fail
      (with_reducible refine (HO.out _ (h.below (B := w.heap.size) (by (repeat' (first | with_reducible exact Below.refl _ _ | with_reducible assumption | with_reducible refine Below.drew ?_ | with_reducible refine Below.alloc ?_ ?_ _ | with_reducible refine Below.setCell ?_ ?_ _ | with_reducible refine Below.trans ?_ (Below.mono (by assumption) ?_) | ((try simp only [World.heap_size_alloc, World.heap_size_drew, World.heap_size_setCell]); omega)))) hhi)).mono ?_); rintro _ w1 ⟨rfl, b1⟩
      have y1 := b1.size
      (try simp only [World.heap_size_alloc] at y1)
      have hw1 : Below w.heap.size w w1 := by (repeat' (first | with_reducible exact Below.refl _ _ | with_reducible assumption | with_reducible refine Below.drew ?_ | with_reducible refine Below.alloc ?_ ?_ _ | with_reducible refine Below.setCell ?_ ?_ _ | with_reducible refine Below.trans ?_ (Below.mono (by assumption) ?_) | ((try simp only [World.heap_size_alloc, World.heap_size_drew, World.heap_size_setCell]); omega)))
      have ab0 : w1.cell? ⟨w.heap.size, 0, none⟩ = some (.int .i64 b) := (b1.cell (p := ⟨w.heap.size, 0, none⟩) (by (try simp only [World.heap_size_alloc, World.heap_size_drew, World.heap_size_setCell]); omega)).trans (by simp [go_sem])
      have ab1 : w1.cell? ⟨w.heap.size, 1, none⟩ = some (.int .i64 t) := (b1.cell (p := ⟨w.heap.size, 1, none⟩) (by (try simp only [World.heap_size_alloc, World.heap_size_drew, World.heap_size_setCell]); omega)).trans (by simp [go_sem])
      have ab2 : w1.cell? ⟨w.heap.size, 2, none⟩ = some (.slice A n c) := (b1.cell (p := ⟨w.heap.size, 2, none⟩) (by (try simp only [World.heap_size_alloc, World.heap_size_drew, World.heap_size_setCell]); omega)).trans (by simp [go_sem])
      have ae0 : w1.cell? ⟨w.heap.size + 1, 0, none⟩ = some (.int .i64 e.index) := (b1.cell (p := ⟨w.heap.size + 1, 0, none⟩) (by (try simp only [World.heap_size_alloc, World.heap_size_drew, World.heap_size_setCell]); omega)).trans (by simp [go_sem])
      have ae1 : w1.cell? ⟨w.heap.size + 1, 1, none⟩ = some (.int .i64 e.time) := (b1.cell (p := ⟨w.heap.size + 1, 1, none⟩) (by (try simp only [World.heap_size_alloc, World.heap_size_drew, World.heap_size_setCell]); omega)).trans (by simp [go_sem])
      have ae2 : w1.cell? ⟨w.heap.size + 1, 2, none⟩ = some (.int .i64 e.client) := (b1.cell (p := ⟨w.heap.size + 1, 2, none⟩) (by (try simp only [World.heap_size_alloc, World.heap_size_drew, World.heap_size_setCell]); omega)).trans (by simp [go_sem])
      have ae3 : w1.cell? ⟨w.heap.size + 1, 3, none⟩ = some (.int .i64 e.seq) := (b1.cell (p := ⟨w.heap.size + 1, 3, none⟩) (by (try simp only [World.heap_size_alloc, World.heap_size_drew, World.heap_size_setCell]); omega)).trans (by simp [go_sem])
      have ae4 : w1.cell? ⟨w.heap.size + 1, 4, none⟩ = some (.int .i64 e.op.kind) := (b1.cell (p := ⟨w.heap.size + 1, 4, none⟩) (by (try simp only [World.heap_size_alloc, World.heap_size_drew, World.heap_size_setCell]); omega)).trans (by simp [go_sem])
      have ae5 : w1.cell? ⟨w.heap.size + 1, 5, none⟩ = some (.int .i64 e.op.a) := (b1.cell (p := ⟨w.heap.size + 1, 5, none⟩) (by (try simp only [World.heap_size_alloc, World.heap_size_drew, World.heap_size_setCell]); omega)).trans (by simp [go_sem])
      have ae6 : w1.cell? ⟨w.heap.size + 1, 6, none⟩ = some (.int .i64 e.op.b) := (b1.cell (p := ⟨w.heap.size + 1, 6, none⟩) (by (try simp only [World.heap_size_alloc, World.heap_size_drew, World.heap_size_setCell]); omega)).trans (by simp [go_sem])
      have ae7 : w1.cell? ⟨w.heap.size + 1, 7, none⟩ = some (.int .i64 e.op.c) := (b1.cell (p := ⟨w.heap.size + 1, 7, none⟩) (by (try simp only [World.heap_size_alloc, World.heap_size_drew, World.heap_size_setCell]); omega)).trans (by simp [go_sem])
      have ae8 : w1.cell? ⟨w.heap.size + 1, 8, none⟩ = some (.int .i64 e.op.d) := (b1.cell (p := ⟨w.heap.size + 1, 8, none⟩) (by (try simp only [World.heap_size_alloc, World.heap_size_drew, World.heap_size_setCell]); omega)).trans (by simp [go_sem])
      have am0 : w1.cell? ⟨w.heap.size + 1 + 1, 0, none⟩ = some (.int .i64 0) := (b1.cell (p := ⟨w.heap.size + 1 + 1, 0, none⟩) (by (try simp only [World.heap_size_alloc, World.heap_size_drew, World.heap_size_setCell]); omega)).trans (by simp [go_sem])
      have am1 : w1.cell? ⟨w.heap.size + 1 + 1, 1, none⟩ = some (.int .i64 0) := (b1.cell (p := ⟨w.heap.size + 1 + 1, 1, none⟩) (by (try simp only [World.heap_size_alloc, World.heap_size_drew, World.heap_size_setCell]); omega)).trans (by simp [go_sem])
      have am2 : w1.cell? ⟨w.heap.size + 1 + 1, 2, none⟩ = some (.slice none 0 0) := (b1.cell (p := ⟨w.heap.size + 1 + 1, 2, none⟩) (by (try simp only [World.heap_size_alloc, World.heap_size_drew, World.heap_size_setCell]); omega)).trans (by simp [go_sem])
      have az0 : w1.frozen? ⟨w.heap.size + 1 + 1, 0, none⟩ = false := (b1.frozen (p := ⟨w.heap.size + 1 + 1, 0, none⟩) (by (try simp only [World.heap_size_alloc, World.heap_size_drew, World.heap_size_setCell]); omega)).trans (by simp [go_sem])
      have az1 : w1.frozen? ⟨w.heap.size + 1 + 1, 1, none⟩ = false := (b1.frozen (p := ⟨w.heap.size + 1 + 1, 1, none⟩) (by (try simp only [World.heap_size_alloc, World.heap_size_drew, World.heap_size_setCell]); omega)).trans (by simp [go_sem])
      have az2 : w1.frozen? ⟨w.heap.size + 1 + 1, 2, none⟩ = false := (b1.frozen (p := ⟨w.heap.size + 1 + 1, 2, none⟩) (by (try simp only [World.heap_size_alloc, World.heap_size_drew, World.heap_size_setCell]); omega)).trans (by simp [go_sem])
      go_wp2_with fail
      (with_reducible refine (HCP.out _ (h.below hw1 hhi)).mono ?_); rintro _ w2 ⟨A2, c2, rfl, o2, b2⟩
      have y2 := b2.size
      have hz1 : w.heap.size + 1 + 1 < w1.heap.size := by omega
      have hw2 : Below w.heap.size w w2 := hw1.trans (b2.mono (by omega))
      have cb0 : (w2.alloc (.cells #[.int .i64 b, .int .i64 t, .slice A2 n c2] 29)).cell? ⟨w.heap.size, 0, none⟩ = some (.int .i64 b) := (World.cell?_alloc_lt _ _ _ (show w.heap.size < w2.heap.size by omega)).trans ((b2.cell (p := ⟨w.heap.size, 0, none⟩) (show w.heap.size < w1.heap.size by omega)).trans ab0)
      have fcb0 := fun d os => cell_regrown cb0 d os
      have cb1 : (w2.alloc (.cells #[.int .i64 b, .int .i64 t, .slice A2 n c2] 29)).cell? ⟨w.heap.size, 1, none⟩ = some (.int .i64 t) := (World.cell?_alloc_lt _ _ _ (show w.heap.size < w2.heap.size by omega)).trans ((b2.cell (p := ⟨w.heap.size, 1, none⟩) (show w.heap.size < w1.heap.size by omega)).trans ab1)
      have fcb1 := fun d os => cell_regrown cb1 d os
      have cb2 : (w2.alloc (.cells #[.int .i64 b, .int .i64 t, .slice A2 n c2] 29)).cell? ⟨w.heap.size, 2, none⟩ = some (.slice A n c) := (World.cell?_alloc_lt _ _ _ (show w.heap.size < w2.heap.size by omega)).trans ((b2.cell (p := ⟨w.heap.size, 2, none⟩) (show w.heap.size < w1.heap.size by omega)).trans ab2)
      have fcb2 := fun d os => cell_regrown cb2 d os
      have ce0 : (w2.alloc (.cells #[.int .i64 b, .int .i64 t, .slice A2 n c2] 29)).cell? ⟨w.heap.size + 1, 0, none⟩ = some (.int .i64 e.index) := (World.cell?_alloc_lt _ _ _ (show w.heap.size + 1 < w2.heap.size by omega)).trans ((b2.cell (p := ⟨w.heap.size + 1, 0, none⟩) (show w.heap.size + 1 < w1.heap.size by omega)).trans ae0)
      have fce0 := fun d os => cell_regrown ce0 d os
      have ce1 : (w2.alloc (.cells #[.int .i64 b, .int .i64 t, .slice A2 n c2] 29)).cell? ⟨w.heap.size + 1, 1, none⟩ = some (.int .i64 e.time) := (World.cell?_alloc_lt _ _ _ (show w.heap.size + 1 < w2.heap.size by omega)).trans ((b2.cell (p := ⟨w.heap.size + 1, 1, none⟩) (show w.heap.size + 1 < w1.heap.size by omega)).trans ae1)
      have fce1 := fun d os => cell_regrown ce1 d os
      have ce2 : (w2.alloc (.cells #[.int .i64 b, .int .i64 t, .slice A2 n c2] 29)).cell? ⟨w.heap.size + 1, 2, none⟩ = some (.int .i64 e.client) := (World.cell?_alloc_lt _ _ _ (show w.heap.size + 1 < w2.heap.size by omega)).trans ((b2.cell (p := ⟨w.heap.size + 1, 2, none⟩) (show w.heap.size + 1 < w1.heap.size by omega)).trans ae2)
      have fce2 := fun d os => cell_regrown ce2 d os
      have ce3 : (w2.alloc (.cells #[.int .i64 b, .int .i64 t, .slice A2 n c2] 29)).cell? ⟨w.heap.size + 1, 3, none⟩ = some (.int .i64 e.seq) := (World.cell?_alloc_lt _ _ _ (show w.heap.size + 1 < w2.heap.size by omega)).trans ((b2.cell (p := ⟨w.heap.size + 1, 3, none⟩) (show w.heap.size + 1 < w1.heap.size by omega)).trans ae3)
      have fce3 := fun d os => cell_regrown ce3 d os
      have ce4 : (w2.alloc (.cells #[.int .i64 b, .int .i64 t, .slice A2 n c2] 29)).cell? ⟨w.heap.size + 1, 4, none⟩ = some (.int .i64 e.op.kind) := (World.cell?_alloc_lt _ _ _ (show w.heap.size + 1 < w2.heap.size by omega)).trans ((b2.cell (p := ⟨w.heap.size + 1, 4, none⟩) (show w.heap.size + 1 < w1.heap.size by omega)).trans ae4)
      have fce4 := fun d os => cell_regrown ce4 d os
      have ce5 : (w2.alloc (.cells #[.int .i64 b, .int .i64 t, .slice A2 n c2] 29)).cell? ⟨w.heap.size + 1, 5, none⟩ = some (.int .i64 e.op.a) := (World.cell?_alloc_lt _ _ _ (show w.heap.size + 1 < w2.heap.size by omega)).trans ((b2.cell (p := ⟨w.heap.size + 1, 5, none⟩) (show w.heap.size + 1 < w1.heap.size by omega)).trans ae5)
      have fce5 := fun d os => cell_regrown ce5 d os
      have ce6 : (w2.alloc (.cells #[.int .i64 b, .int .i64 t, .slice A2 n c2] 29)).cell? ⟨w.heap.size + 1, 6, none⟩ = some (.int .i64 e.op.b) := (World.cell?_alloc_lt _ _ _ (show w.heap.size + 1 < w2.heap.size by omega)).trans ((b2.cell (p := ⟨w.heap.size + 1, 6, none⟩) (show w.heap.size + 1 < w1.heap.size by omega)).trans ae6)
      have fce6 := fun d os => cell_regrown ce6 d os
      have ce7 : (w2.alloc (.cells #[.int .i64 b, .int .i64 t, .slice A2 n c2] 29)).cell? ⟨w.heap.size + 1, 7, none⟩ = some (.int .i64 e.op.c) := (World.cell?_alloc_lt _ _ _ (show w.heap.size + 1 < w2.heap.size by omega)).trans ((b2.cell (p := ⟨w.heap.size + 1, 7, none⟩) (show w.heap.size + 1 < w1.heap.size by omega)).trans ae7)
      have fce7 := fun d os => cell_regrown ce7 d os
      have ce8 : (w2.alloc (.cells #[.int .i64 b, .int .i64 t, .slice A2 n c2] 29)).cell? ⟨w.heap.size + 1, 8, none⟩ = some (.int .i64 e.op.d) := (World.cell?_alloc_lt _ _ _ (show w.heap.size + 1 < w2.heap.size by omega)).trans ((b2.cell (p := ⟨w.heap.size + 1, 8, none⟩) (show w.heap.size + 1 < w1.heap.size by omega)).trans ae8)
      have fce8 := fun d os => cell_regrown ce8 d os
      have HO2 := Lib.hid o2
      clear o2
      have S0 := Lib.hid (h.below (B := w.heap.size) (w' := (w2.alloc (.cells #[.int .i64 b, .int .i64 t, .slice A2 n c2] 29))) (hw2.alloc (by omega) _) hhi)
      have hhi1 : hi ≤ (w2.alloc (.cells #[.int .i64 b, .int .i64 t, .slice A2 n c2] 29)).heap.size := by (try simp only [World.heap_size_alloc, World.heap_size_drew, World.heap_size_setCell]); omega
      go_wp2_with fail
      refine wp_region_quiet_below (by kernel_rfl) (by kernel_rfl) ?_; (repeat (first | go_big_quiet_step ((first | (go_at_call 71; with_reducible exact Calls.regrown_of (HE.out _)))) | quiet_step ((first | (go_at_call 71; with_reducible exact Calls.regrown_of (HE.out _)))))); refine wpQuiet_nil ?_; intro _ hw'; obtain ⟨⟨nq, osq⟩, hw''⟩ := hw'; subst hw''; have hq := below_regrown (w2.alloc (.cells #[.int .i64 b, .int .i64 t, .slice A2 n c2] 29)) nq osq; generalize Sort.grow (redrawn (w2.alloc (.cells #[.int .i64 b, .int .i64 t, .slice A2 n c2] 29)) nq) osq = w3 at *
      have y3 := hq.size
      simp only [World.heap_size_alloc] at y3
      have hw3 : Below w.heap.size w w3 := hw2.trans (((Below.refl _ _).alloc (by omega) _).trans (hq.mono (by (try simp only [World.heap_size_alloc, World.heap_size_drew, World.heap_size_setCell]); omega)))
      have de0 : w3.cell? ⟨w.heap.size + 1, 0, none⟩ = some (.int .i64 e.index) := (hq.cell (p := ⟨w.heap.size + 1, 0, none⟩) (by (try simp only [World.heap_size_alloc, World.heap_size_drew, World.heap_size_setCell]); omega)).trans ce0
      have de1 : w3.cell? ⟨w.heap.size + 1, 1, none⟩ = some (.int .i64 e.time) := (hq.cell (p := ⟨w.heap.size + 1, 1, none⟩) (by (try simp only [World.heap_size_alloc, World.heap_size_drew, World.heap_size_setCell]); omega)).trans ce1
      have de2 : w3.cell? ⟨w.heap.size + 1, 2, none⟩ = some (.int .i64 e.client) := (hq.cell (p := ⟨w.heap.size + 1, 2, none⟩) (by (try simp only [World.heap_size_alloc, World.heap_size_drew, World.heap_size_setCell]); omega)).trans ce2
      have de3 : w3.cell? ⟨w.heap.size + 1, 3, none⟩ = some (.int .i64 e.seq) := (hq.cell (p := ⟨w.heap.size + 1, 3, none⟩) (by (try simp only [World.heap_size_alloc, World.heap_size_drew, World.heap_size_setCell]); omega)).trans ce3
      have de4 : w3.cell? ⟨w.heap.size + 1, 4, none⟩ = some (.int .i64 e.op.kind) := (hq.cell (p := ⟨w.heap.size + 1, 4, none⟩) (by (try simp only [World.heap_size_alloc, World.heap_size_drew, World.heap_size_setCell]); omega)).trans ce4
      have de5 : w3.cell? ⟨w.heap.size + 1, 5, none⟩ = some (.int .i64 e.op.a) := (hq.cell (p := ⟨w.heap.size + 1, 5, none⟩) (by (try simp only [World.heap_size_alloc, World.heap_size_drew, World.heap_size_setCell]); omega)).trans ce5
      have de6 : w3.cell? ⟨w.heap.size + 1, 6, none⟩ = some (.int .i64 e.op.b) := (hq.cell (p := ⟨w.heap.size + 1, 6, none⟩) (by (try simp only [World.heap_size_alloc, World.heap_size_drew, World.heap_size_setCell]); omega)).trans ce6
      have de7 : w3.cell? ⟨w.heap.size + 1, 7, none⟩ = some (.int .i64 e.op.c) := (hq.cell (p := ⟨w.heap.size + 1, 7, none⟩) (by (try simp only [World.heap_size_alloc, World.heap_size_drew, World.heap_size_setCell]); omega)).trans ce7
      have de8 : w3.cell? ⟨w.heap.size + 1, 8, none⟩ = some (.int .i64 e.op.d) := (hq.cell (p := ⟨w.heap.size + 1, 8, none⟩) (by (try simp only [World.heap_size_alloc, World.heap_size_drew, World.heap_size_setCell]); omega)).trans ce8
      have dm0 : w3.cell? ⟨w.heap.size + 1 + 1, 0, none⟩ = some (.int .i64 0) := (hq.cell (p := ⟨w.heap.size + 1 + 1, 0, none⟩) (by (try simp only [World.heap_size_alloc, World.heap_size_drew, World.heap_size_setCell]); omega)).trans ((World.cell?_alloc_lt _ _ _ (show w.heap.size + 1 + 1 < w2.heap.size by omega)).trans ((b2.cell (p := ⟨w.heap.size + 1 + 1, 0, none⟩) (show w.heap.size + 1 + 1 < w1.heap.size by omega)).trans am0))
      have dm1 : w3.cell? ⟨w.heap.size + 1 + 1, 1, none⟩ = some (.int .i64 0) := (hq.cell (p := ⟨w.heap.size + 1 + 1, 1, none⟩) (by (try simp only [World.heap_size_alloc, World.heap_size_drew, World.heap_size_setCell]); omega)).trans ((World.cell?_alloc_lt _ _ _ (show w.heap.size + 1 + 1 < w2.heap.size by omega)).trans ((b2.cell (p := ⟨w.heap.size + 1 + 1, 1, none⟩) (show w.heap.size + 1 + 1 < w1.heap.size by omega)).trans am1))
      have dm2 : w3.cell? ⟨w.heap.size + 1 + 1, 2, none⟩ = some (.slice none 0 0) := (hq.cell (p := ⟨w.heap.size + 1 + 1, 2, none⟩) (by (try simp only [World.heap_size_alloc, World.heap_size_drew, World.heap_size_setCell]); omega)).trans ((World.cell?_alloc_lt _ _ _ (show w.heap.size + 1 + 1 < w2.heap.size by omega)).trans ((b2.cell (p := ⟨w.heap.size + 1 + 1, 2, none⟩) (show w.heap.size + 1 + 1 < w1.heap.size by omega)).trans am2))
      have dz0 : w3.frozen? ⟨w.heap.size + 1 + 1, 0, none⟩ = false := (hq.frozen (p := ⟨w.heap.size + 1 + 1, 0, none⟩) (by (try simp only [World.heap_size_alloc, World.heap_size_drew, World.heap_size_setCell]); omega)).trans ((frozen_alloc_lt _ _ (p := ⟨w.heap.size + 1 + 1, 0, none⟩) (show w.heap.size + 1 + 1 < w2.heap.size by omega)).trans ((b2.frozen (p := ⟨w.heap.size + 1 + 1, 0, none⟩) (show w.heap.size + 1 + 1 < w1.heap.size by omega)).trans az0))
      have dz1 : w3.frozen? ⟨w.heap.size + 1 + 1, 1, none⟩ = false := (hq.frozen (p := ⟨w.heap.size + 1 + 1, 1, none⟩) (by (try simp only [World.heap_size_alloc, World.heap_size_drew, World.heap_size_setCell]); omega)).trans ((frozen_alloc_lt _ _ (p := ⟨w.heap.size + 1 + 1, 1, none⟩) (show w.heap.size + 1 + 1 < w2.heap.size by omega)).trans ((b2.frozen (p := ⟨w.heap.size + 1 + 1, 1, none⟩) (show w.heap.size + 1 + 1 < w1.heap.size by omega)).trans az1))
      have dz2 : w3.frozen? ⟨w.heap.size + 1 + 1, 2, none⟩ = false := (hq.frozen (p := ⟨w.heap.size + 1 + 1, 2, none⟩) (by (try simp only [World.heap_size_alloc, World.heap_size_drew, World.heap_size_setCell]); omega)).trans ((frozen_alloc_lt _ _ (p := ⟨w.heap.size + 1 + 1, 2, none⟩) (show w.heap.size + 1 + 1 < w2.heap.size by omega)).trans ((b2.frozen (p := ⟨w.heap.size + 1 + 1, 2, none⟩) (show w.heap.size + 1 + 1 < w1.heap.size by omega)).trans az2))
      have g0 : w3.cell? ⟨w2.heap.size, 0, none⟩ = some (.int .i64 b) := (hq.cell (p := ⟨w2.heap.size, 0, none⟩) (by (try simp only [World.heap_size_alloc, World.heap_size_drew, World.heap_size_setCell]); omega)).trans (by simp)
      have gz0 : w3.frozen? ⟨w2.heap.size, 0, none⟩ = false := (hq.frozen (p := ⟨w2.heap.size, 0, none⟩) (by (try simp only [World.heap_size_alloc, World.heap_size_drew, World.heap_size_setCell]); omega)).trans (by simp)
      have g1 : w3.cell? ⟨w2.heap.size, 1, none⟩ = some (.int .i64 t) := (hq.cell (p := ⟨w2.heap.size, 1, none⟩) (by (try simp only [World.heap_size_alloc, World.heap_size_drew, World.heap_size_setCell]); omega)).trans (by simp)
      have gz1 : w3.frozen? ⟨w2.heap.size, 1, none⟩ = false := (hq.frozen (p := ⟨w2.heap.size, 1, none⟩) (by (try simp only [World.heap_size_alloc, World.heap_size_drew, World.heap_size_setCell]); omega)).trans (by simp)
      have g2 : w3.cell? ⟨w2.heap.size, 2, none⟩ = some (.slice A2 n c2) := (hq.cell (p := ⟨w2.heap.size, 2, none⟩) (by (try simp only [World.heap_size_alloc, World.heap_size_drew, World.heap_size_setCell]); omega)).trans (by simp)
      have gz2 : w3.frozen? ⟨w2.heap.size, 2, none⟩ = false := (hq.frozen (p := ⟨w2.heap.size, 2, none⟩) (by (try simp only [World.heap_size_alloc, World.heap_size_drew, World.heap_size_setCell]); omega)).trans (by simp)
      clear ab0 ab1 ab2 ae0 ae1 ae2 ae3 ae4 ae5 ae6 ae7 ae8 am0 am1 am2 az0 az1 az2 cb0 fcb0 cb1 fcb1 cb2 fcb2 ce0 fce0 ce1 fce1 ce2 fce2 ce3 fce3 ce4 fce4 ce5 fce5 ce6 fce6 ce7 fce7 ce8 fce8
      go_wp2
      have O3 := HO2.out.kept (w' := w3) (((Below.refl _ _).alloc (Nat.le_refl _) _).trans (hq.mono (by (try simp only [World.heap_size_alloc, World.heap_size_drew, World.heap_size_setCell]); omega)))
      obtain ⟨_, _, e9, s3⟩ := O3.sl
      injection e9 with e9 _ e10
      subst e9 e10
      refine bodyPost_ret (v := .tuple #[.agg #[.int .i64 b, .int .i64 t, .slice A2 n c2], .bool false]) (by simp [results, Try.results41, go_sem, dm0, dm1, dm2, g0, g1, g2]) rfl ⟨A2, c2, rfl, ?_, ?_⟩
      · refine Sl.mono (Sl.upd (lo' := w.heap.size + 1 + 1) (hi' := w.heap.size + 1 + 1 + 1) s3 ?_ (.inr (by omega))) (by omega) (by (try simp only [World.heap_size_alloc, World.heap_size_drew, World.heap_size_setCell]); omega)
        (repeat' (first | with_reducible exact Upd.refl _ _ _ | with_reducible assumption | with_reducible refine Upd.drew ?_ | with_reducible refine Upd.alloc ?_ _ | with_reducible refine Upd.setCell ?_ ?_ ?_ _ | (simp only []; omega) | omega))
      · have c9 := hw3
        (repeat' (first | with_reducible exact Below.refl _ _ | with_reducible assumption | with_reducible refine Below.drew ?_ | with_reducible refine Below.alloc ?_ ?_ _ | with_reducible refine Below.setCell ?_ ?_ _ | with_reducible refine Below.trans ?_ (Below.mono (by assumption) ?_) | ((try simp only [World.heap_size_alloc, World.heap_size_drew, World.heap_size_setCell]); omega)))
    | true =>
      by_cases hix : e.index = b + (n : Int) + 1
      · have dx : (e.index != b + (n : Int) + 1) = false := by simp [hix]
        by_cases ht : lastTime t l ≤ e.time
        · by_cases h20 : n < 20
          · have e0 : appendedM b t l e = (b, t, l ++ [e], true) := by
              unfold appendedM
              rw [if_pos hok, if_pos (fitsM_iff.2 ⟨hek, by rw [HL.out]; exact hix, ht, by rw [HL.out]; exact h20⟩)]
            rw [e0]
            clear e0
            have hll : (l ++ [e]).length = n + 1 := by rw [List.length_append, HL.out]; rfl
            have hlf : (l ++ [e]).flatMap EntryD.ints = l.flatMap EntryD.ints ++ e.ints := by rw [List.flatMap_append]; simp
            show Calls _ _ _ _ (BookBRes w b t (l ++ [e]).length ((l ++ [e]).flatMap EntryD.ints) true)
            rw [hll, hlf]
            obtain ⟨q0, q1, q2, q3, q4, _⟩ := bookOk_facts hok
            rw [HL.out] at q4
            have CO : ∀ W, Sl W lo hi 9 A n c (l.flatMap EntryD.ints) → Calls Try.prog 21 #[.agg #[.int .i64 b, .int .i64 t, .slice A n c]] W fun x w' => x = .returned (.bool true) ∧ Below W.heap.size W w' := fun W s => by
              have h7 := sBookOk_any b t A n c lo hi l W s
              rw [hok] at h7
              exact h7
            have HO := Lib.hid CO
            clear CO
            have HCP := Lib.hid (fun W s => l8CopyO_any b t A n c lo hi l W s (by omega))
            have HLA := Lib.hid (fun W => l8Last_any b t A n c W q0 q1 q4)
            have hw9 : IntKind.i64.wrap (b + (n : Int) + 1) = b + (n : Int) + 1 := IntWalk.i64_in _ (by omega)
            have CE : ∀ W, Calls Try.prog 71 #[.agg #[.int .i64 e.index, .int .i64 e.time, .int .i64 e.client, .int .i64 e.seq, .int .i64 e.op.kind, .int .i64 e.op.a, .int .i64 e.op.b, .int .i64 e.op.c, .int .i64 e.op.d]] W fun x w' => x = .returned (.bool true) ∧ Below W.heap.size W w' := fun W => by
              have h7 := sEntryOk_any e.index e.time e.client e.seq e.op.kind e.op.a e.op.b e.op.c e.op.d W
              rw [show entryOk ⟨e.index, e.time, e.client, e.seq, ⟨e.op.kind, e.op.a, e.op.b, e.op.c, e.op.d⟩⟩ = true from hek] at h7
              exact h7
            have HE := Lib.hid CE
            clear CE
            have CT : ∀ W, Sl W lo hi 9 A n c (l.flatMap EntryD.ints) → Calls Try.prog 65 #[.agg #[.int .i64 b, .int .i64 t, .slice A n c], .int .i64 (b + (n : Int))] W fun x w' => x = .returned (.int .i64 (lastTime t l)) ∧ Below W.heap.size W w' := fun W s => by
              have h7 := l8TimeAt_any b t A n c lo hi l (b + (n : Int)) W s q0 q1 q4 (by omega) (by omega)
              rw [timeAt_last HL.out] at h7
              exact h7
            have HTA := Lib.hid CT
            clear CT
            have d20 : ((n : Int) == 20) = false := by simp; omega
            have HIX := Lib.hid hix
            have dt : decide (e.time < lastTime t l) = false := by simp; omega
            clear hok hek hix ht
            generalize lastTime t l = lt at *
            go_enter Try.func41, Try.ntmps41
            go_wp2_with fail
            (with_reducible refine (HO.out _ (h.below (B := w.heap.size) (by (repeat' (first | with_reducible exact Below.refl _ _ | with_reducible assumption | with_reducible refine Below.drew ?_ | with_reducible refine Below.alloc ?_ ?_ _ | with_reducible refine Below.setCell ?_ ?_ _ | with_reducible refine Below.trans ?_ (Below.mono (by assumption) ?_) | ((try simp only [World.heap_size_alloc, World.heap_size_drew, World.heap_size_setCell]); omega)))) hhi)).mono ?_); rintro _ w1 ⟨rfl, b1⟩
            have y1 := b1.size
            (try simp only [World.heap_size_alloc] at y1)
            have hw1 : Below w.heap.size w w1 := by (repeat' (first | with_reducible exact Below.refl _ _ | with_reducible assumption | with_reducible refine Below.drew ?_ | with_reducible refine Below.alloc ?_ ?_ _ | with_reducible refine Below.setCell ?_ ?_ _ | with_reducible refine Below.trans ?_ (Below.mono (by assumption) ?_) | ((try simp only [World.heap_size_alloc, World.heap_size_drew, World.heap_size_setCell]); omega)))
            have ab0 : w1.cell? ⟨w.heap.size, 0, none⟩ = some (.int .i64 b) := (b1.cell (p := ⟨w.heap.size, 0, none⟩) (by (try simp only [World.heap_size_alloc, World.heap_size_drew, World.heap_size_setCell]); omega)).trans (by simp [go_sem])
            have ab1 : w1.cell? ⟨w.heap.size, 1, none⟩ = some (.int .i64 t) := (b1.cell (p := ⟨w.heap.size, 1, none⟩) (by (try simp only [World.heap_size_alloc, World.heap_size_drew, World.heap_size_setCell]); omega)).trans (by simp [go_sem])
            have ab2 : w1.cell? ⟨w.heap.size, 2, none⟩ = some (.slice A n c) := (b1.cell (p := ⟨w.heap.size, 2, none⟩) (by (try simp only [World.heap_size_alloc, World.heap_size_drew, World.heap_size_setCell]); omega)).trans (by simp [go_sem])
            have ae0 : w1.cell? ⟨w.heap.size + 1, 0, none⟩ = some (.int .i64 e.index) := (b1.cell (p := ⟨w.heap.size + 1, 0, none⟩) (by (try simp only [World.heap_size_alloc, World.heap_size_drew, World.heap_size_setCell]); omega)).trans (by simp [go_sem])
            have ae1 : w1.cell? ⟨w.heap.size + 1, 1, none⟩ = some (.int .i64 e.time) := (b1.cell (p := ⟨w.heap.size + 1, 1, none⟩) (by (try simp only [World.heap_size_alloc, World.heap_size_drew, World.heap_size_setCell]); omega)).trans (by simp [go_sem])
            have ae2 : w1.cell? ⟨w.heap.size + 1, 2, none⟩ = some (.int .i64 e.client) := (b1.cell (p := ⟨w.heap.size + 1, 2, none⟩) (by (try simp only [World.heap_size_alloc, World.heap_size_drew, World.heap_size_setCell]); omega)).trans (by simp [go_sem])
            have ae3 : w1.cell? ⟨w.heap.size + 1, 3, none⟩ = some (.int .i64 e.seq) := (b1.cell (p := ⟨w.heap.size + 1, 3, none⟩) (by (try simp only [World.heap_size_alloc, World.heap_size_drew, World.heap_size_setCell]); omega)).trans (by simp [go_sem])
            have ae4 : w1.cell? ⟨w.heap.size + 1, 4, none⟩ = some (.int .i64 e.op.kind) := (b1.cell (p := ⟨w.heap.size + 1, 4, none⟩) (by (try simp only [World.heap_size_alloc, World.heap_size_drew, World.heap_size_setCell]); omega)).trans (by simp [go_sem])
            have ae5 : w1.cell? ⟨w.heap.size + 1, 5, none⟩ = some (.int .i64 e.op.a) := (b1.cell (p := ⟨w.heap.size + 1, 5, none⟩) (by (try simp only [World.heap_size_alloc, World.heap_size_drew, World.heap_size_setCell]); omega)).trans (by simp [go_sem])
            have ae6 : w1.cell? ⟨w.heap.size + 1, 6, none⟩ = some (.int .i64 e.op.b) := (b1.cell (p := ⟨w.heap.size + 1, 6, none⟩) (by (try simp only [World.heap_size_alloc, World.heap_size_drew, World.heap_size_setCell]); omega)).trans (by simp [go_sem])
            have ae7 : w1.cell? ⟨w.heap.size + 1, 7, none⟩ = some (.int .i64 e.op.c) := (b1.cell (p := ⟨w.heap.size + 1, 7, none⟩) (by (try simp only [World.heap_size_alloc, World.heap_size_drew, World.heap_size_setCell]); omega)).trans (by simp [go_sem])
            have ae8 : w1.cell? ⟨w.heap.size + 1, 8, none⟩ = some (.int .i64 e.op.d) := (b1.cell (p := ⟨w.heap.size + 1, 8, none⟩) (by (try simp only [World.heap_size_alloc, World.heap_size_drew, World.heap_size_setCell]); omega)).trans (by simp [go_sem])
            have am0 : w1.cell? ⟨w.heap.size + 1 + 1, 0, none⟩ = some (.int .i64 0) := (b1.cell (p := ⟨w.heap.size + 1 + 1, 0, none⟩) (by (try simp only [World.heap_size_alloc, World.heap_size_drew, World.heap_size_setCell]); omega)).trans (by simp [go_sem])
            have am1 : w1.cell? ⟨w.heap.size + 1 + 1, 1, none⟩ = some (.int .i64 0) := (b1.cell (p := ⟨w.heap.size + 1 + 1, 1, none⟩) (by (try simp only [World.heap_size_alloc, World.heap_size_drew, World.heap_size_setCell]); omega)).trans (by simp [go_sem])
            have am2 : w1.cell? ⟨w.heap.size + 1 + 1, 2, none⟩ = some (.slice none 0 0) := (b1.cell (p := ⟨w.heap.size + 1 + 1, 2, none⟩) (by (try simp only [World.heap_size_alloc, World.heap_size_drew, World.heap_size_setCell]); omega)).trans (by simp [go_sem])
            have az0 : w1.frozen? ⟨w.heap.size + 1 + 1, 0, none⟩ = false := (b1.frozen (p := ⟨w.heap.size + 1 + 1, 0, none⟩) (by (try simp only [World.heap_size_alloc, World.heap_size_drew, World.heap_size_setCell]); omega)).trans (by simp [go_sem])
            have az1 : w1.frozen? ⟨w.heap.size + 1 + 1, 1, none⟩ = false := (b1.frozen (p := ⟨w.heap.size + 1 + 1, 1, none⟩) (by (try simp only [World.heap_size_alloc, World.heap_size_drew, World.heap_size_setCell]); omega)).trans (by simp [go_sem])
            have az2 : w1.frozen? ⟨w.heap.size + 1 + 1, 2, none⟩ = false := (b1.frozen (p := ⟨w.heap.size + 1 + 1, 2, none⟩) (by (try simp only [World.heap_size_alloc, World.heap_size_drew, World.heap_size_setCell]); omega)).trans (by simp [go_sem])
            go_wp2_with fail
            (with_reducible refine (HCP.out _ (h.below hw1 hhi)).mono ?_); rintro _ w2 ⟨A2, c2, rfl, o2, b2⟩
            have y2 := b2.size
            have hz1 : w.heap.size + 1 + 1 < w1.heap.size := by omega
            have hw2 : Below w.heap.size w w2 := hw1.trans (b2.mono (by omega))
            have cb0 : (w2.alloc (.cells #[.int .i64 b, .int .i64 t, .slice A2 n c2] 29)).cell? ⟨w.heap.size, 0, none⟩ = some (.int .i64 b) := (World.cell?_alloc_lt _ _ _ (show w.heap.size < w2.heap.size by omega)).trans ((b2.cell (p := ⟨w.heap.size, 0, none⟩) (show w.heap.size < w1.heap.size by omega)).trans ab0)
            have fcb0 := fun d os => cell_regrown cb0 d os
            have cb1 : (w2.alloc (.cells #[.int .i64 b, .int .i64 t, .slice A2 n c2] 29)).cell? ⟨w.heap.size, 1, none⟩ = some (.int .i64 t) := (World.cell?_alloc_lt _ _ _ (show w.heap.size < w2.heap.size by omega)).trans ((b2.cell (p := ⟨w.heap.size, 1, none⟩) (show w.heap.size < w1.heap.size by omega)).trans ab1)
            have fcb1 := fun d os => cell_regrown cb1 d os
            have cb2 : (w2.alloc (.cells #[.int .i64 b, .int .i64 t, .slice A2 n c2] 29)).cell? ⟨w.heap.size, 2, none⟩ = some (.slice A n c) := (World.cell?_alloc_lt _ _ _ (show w.heap.size < w2.heap.size by omega)).trans ((b2.cell (p := ⟨w.heap.size, 2, none⟩) (show w.heap.size < w1.heap.size by omega)).trans ab2)
            have fcb2 := fun d os => cell_regrown cb2 d os
            have ce0 : (w2.alloc (.cells #[.int .i64 b, .int .i64 t, .slice A2 n c2] 29)).cell? ⟨w.heap.size + 1, 0, none⟩ = some (.int .i64 e.index) := (World.cell?_alloc_lt _ _ _ (show w.heap.size + 1 < w2.heap.size by omega)).trans ((b2.cell (p := ⟨w.heap.size + 1, 0, none⟩) (show w.heap.size + 1 < w1.heap.size by omega)).trans ae0)
            have fce0 := fun d os => cell_regrown ce0 d os
            have ce1 : (w2.alloc (.cells #[.int .i64 b, .int .i64 t, .slice A2 n c2] 29)).cell? ⟨w.heap.size + 1, 1, none⟩ = some (.int .i64 e.time) := (World.cell?_alloc_lt _ _ _ (show w.heap.size + 1 < w2.heap.size by omega)).trans ((b2.cell (p := ⟨w.heap.size + 1, 1, none⟩) (show w.heap.size + 1 < w1.heap.size by omega)).trans ae1)
            have fce1 := fun d os => cell_regrown ce1 d os
            have ce2 : (w2.alloc (.cells #[.int .i64 b, .int .i64 t, .slice A2 n c2] 29)).cell? ⟨w.heap.size + 1, 2, none⟩ = some (.int .i64 e.client) := (World.cell?_alloc_lt _ _ _ (show w.heap.size + 1 < w2.heap.size by omega)).trans ((b2.cell (p := ⟨w.heap.size + 1, 2, none⟩) (show w.heap.size + 1 < w1.heap.size by omega)).trans ae2)
            have fce2 := fun d os => cell_regrown ce2 d os
            have ce3 : (w2.alloc (.cells #[.int .i64 b, .int .i64 t, .slice A2 n c2] 29)).cell? ⟨w.heap.size + 1, 3, none⟩ = some (.int .i64 e.seq) := (World.cell?_alloc_lt _ _ _ (show w.heap.size + 1 < w2.heap.size by omega)).trans ((b2.cell (p := ⟨w.heap.size + 1, 3, none⟩) (show w.heap.size + 1 < w1.heap.size by omega)).trans ae3)
            have fce3 := fun d os => cell_regrown ce3 d os
            have ce4 : (w2.alloc (.cells #[.int .i64 b, .int .i64 t, .slice A2 n c2] 29)).cell? ⟨w.heap.size + 1, 4, none⟩ = some (.int .i64 e.op.kind) := (World.cell?_alloc_lt _ _ _ (show w.heap.size + 1 < w2.heap.size by omega)).trans ((b2.cell (p := ⟨w.heap.size + 1, 4, none⟩) (show w.heap.size + 1 < w1.heap.size by omega)).trans ae4)
            have fce4 := fun d os => cell_regrown ce4 d os
            have ce5 : (w2.alloc (.cells #[.int .i64 b, .int .i64 t, .slice A2 n c2] 29)).cell? ⟨w.heap.size + 1, 5, none⟩ = some (.int .i64 e.op.a) := (World.cell?_alloc_lt _ _ _ (show w.heap.size + 1 < w2.heap.size by omega)).trans ((b2.cell (p := ⟨w.heap.size + 1, 5, none⟩) (show w.heap.size + 1 < w1.heap.size by omega)).trans ae5)
            have fce5 := fun d os => cell_regrown ce5 d os
            have ce6 : (w2.alloc (.cells #[.int .i64 b, .int .i64 t, .slice A2 n c2] 29)).cell? ⟨w.heap.size + 1, 6, none⟩ = some (.int .i64 e.op.b) := (World.cell?_alloc_lt _ _ _ (show w.heap.size + 1 < w2.heap.size by omega)).trans ((b2.cell (p := ⟨w.heap.size + 1, 6, none⟩) (show w.heap.size + 1 < w1.heap.size by omega)).trans ae6)
            have fce6 := fun d os => cell_regrown ce6 d os
            have ce7 : (w2.alloc (.cells #[.int .i64 b, .int .i64 t, .slice A2 n c2] 29)).cell? ⟨w.heap.size + 1, 7, none⟩ = some (.int .i64 e.op.c) := (World.cell?_alloc_lt _ _ _ (show w.heap.size + 1 < w2.heap.size by omega)).trans ((b2.cell (p := ⟨w.heap.size + 1, 7, none⟩) (show w.heap.size + 1 < w1.heap.size by omega)).trans ae7)
            have fce7 := fun d os => cell_regrown ce7 d os
            have ce8 : (w2.alloc (.cells #[.int .i64 b, .int .i64 t, .slice A2 n c2] 29)).cell? ⟨w.heap.size + 1, 8, none⟩ = some (.int .i64 e.op.d) := (World.cell?_alloc_lt _ _ _ (show w.heap.size + 1 < w2.heap.size by omega)).trans ((b2.cell (p := ⟨w.heap.size + 1, 8, none⟩) (show w.heap.size + 1 < w1.heap.size by omega)).trans ae8)
            have fce8 := fun d os => cell_regrown ce8 d os
            have HO2 := Lib.hid o2
            clear o2
            have S0 := Lib.hid (h.below (B := w.heap.size) (w' := (w2.alloc (.cells #[.int .i64 b, .int .i64 t, .slice A2 n c2] 29))) (hw2.alloc (by omega) _) hhi)
            have hhi1 : hi ≤ (w2.alloc (.cells #[.int .i64 b, .int .i64 t, .slice A2 n c2] 29)).heap.size := by (try simp only [World.heap_size_alloc, World.heap_size_drew, World.heap_size_setCell]); omega
            go_wp2_with fail
            refine wp_region_quiet_below (by kernel_rfl) (by kernel_rfl) ?_; (repeat (first | go_big_quiet_step ((first | (go_at_call 71; with_reducible exact Calls.regrown_of (HE.out _)) | (go_at_call 62; with_reducible exact Calls.regrown_of (HLA.out _)) | (go_at_call 65; with_reducible exact Calls.regrown_of (HTA.out _ (S0.out.below (below_regrown _ _ _) hhi1))))) | quiet_step ((first | (go_at_call 71; with_reducible exact Calls.regrown_of (HE.out _)) | (go_at_call 62; with_reducible exact Calls.regrown_of (HLA.out _)) | (go_at_call 65; with_reducible exact Calls.regrown_of (HTA.out _ (S0.out.below (below_regrown _ _ _) hhi1))))))); refine wpQuiet_nil ?_; intro _ hw'; obtain ⟨⟨nq, osq⟩, hw''⟩ := hw'; subst hw''; have hq := below_regrown (w2.alloc (.cells #[.int .i64 b, .int .i64 t, .slice A2 n c2] 29)) nq osq; generalize Sort.grow (redrawn (w2.alloc (.cells #[.int .i64 b, .int .i64 t, .slice A2 n c2] 29)) nq) osq = w3 at *
            have y3 := hq.size
            simp only [World.heap_size_alloc] at y3
            have hw3 : Below w.heap.size w w3 := hw2.trans (((Below.refl _ _).alloc (by omega) _).trans (hq.mono (by (try simp only [World.heap_size_alloc, World.heap_size_drew, World.heap_size_setCell]); omega)))
            have de0 : w3.cell? ⟨w.heap.size + 1, 0, none⟩ = some (.int .i64 e.index) := (hq.cell (p := ⟨w.heap.size + 1, 0, none⟩) (by (try simp only [World.heap_size_alloc, World.heap_size_drew, World.heap_size_setCell]); omega)).trans ce0
            have de1 : w3.cell? ⟨w.heap.size + 1, 1, none⟩ = some (.int .i64 e.time) := (hq.cell (p := ⟨w.heap.size + 1, 1, none⟩) (by (try simp only [World.heap_size_alloc, World.heap_size_drew, World.heap_size_setCell]); omega)).trans ce1
            have de2 : w3.cell? ⟨w.heap.size + 1, 2, none⟩ = some (.int .i64 e.client) := (hq.cell (p := ⟨w.heap.size + 1, 2, none⟩) (by (try simp only [World.heap_size_alloc, World.heap_size_drew, World.heap_size_setCell]); omega)).trans ce2
            have de3 : w3.cell? ⟨w.heap.size + 1, 3, none⟩ = some (.int .i64 e.seq) := (hq.cell (p := ⟨w.heap.size + 1, 3, none⟩) (by (try simp only [World.heap_size_alloc, World.heap_size_drew, World.heap_size_setCell]); omega)).trans ce3
            have de4 : w3.cell? ⟨w.heap.size + 1, 4, none⟩ = some (.int .i64 e.op.kind) := (hq.cell (p := ⟨w.heap.size + 1, 4, none⟩) (by (try simp only [World.heap_size_alloc, World.heap_size_drew, World.heap_size_setCell]); omega)).trans ce4
            have de5 : w3.cell? ⟨w.heap.size + 1, 5, none⟩ = some (.int .i64 e.op.a) := (hq.cell (p := ⟨w.heap.size + 1, 5, none⟩) (by (try simp only [World.heap_size_alloc, World.heap_size_drew, World.heap_size_setCell]); omega)).trans ce5
            have de6 : w3.cell? ⟨w.heap.size + 1, 6, none⟩ = some (.int .i64 e.op.b) := (hq.cell (p := ⟨w.heap.size + 1, 6, none⟩) (by (try simp only [World.heap_size_alloc, World.heap_size_drew, World.heap_size_setCell]); omega)).trans ce6
            have de7 : w3.cell? ⟨w.heap.size + 1, 7, none⟩ = some (.int .i64 e.op.c) := (hq.cell (p := ⟨w.heap.size + 1, 7, none⟩) (by (try simp only [World.heap_size_alloc, World.heap_size_drew, World.heap_size_setCell]); omega)).trans ce7
            have de8 : w3.cell? ⟨w.heap.size + 1, 8, none⟩ = some (.int .i64 e.op.d) := (hq.cell (p := ⟨w.heap.size + 1, 8, none⟩) (by (try simp only [World.heap_size_alloc, World.heap_size_drew, World.heap_size_setCell]); omega)).trans ce8
            have dm0 : w3.cell? ⟨w.heap.size + 1 + 1, 0, none⟩ = some (.int .i64 0) := (hq.cell (p := ⟨w.heap.size + 1 + 1, 0, none⟩) (by (try simp only [World.heap_size_alloc, World.heap_size_drew, World.heap_size_setCell]); omega)).trans ((World.cell?_alloc_lt _ _ _ (show w.heap.size + 1 + 1 < w2.heap.size by omega)).trans ((b2.cell (p := ⟨w.heap.size + 1 + 1, 0, none⟩) (show w.heap.size + 1 + 1 < w1.heap.size by omega)).trans am0))
            have dm1 : w3.cell? ⟨w.heap.size + 1 + 1, 1, none⟩ = some (.int .i64 0) := (hq.cell (p := ⟨w.heap.size + 1 + 1, 1, none⟩) (by (try simp only [World.heap_size_alloc, World.heap_size_drew, World.heap_size_setCell]); omega)).trans ((World.cell?_alloc_lt _ _ _ (show w.heap.size + 1 + 1 < w2.heap.size by omega)).trans ((b2.cell (p := ⟨w.heap.size + 1 + 1, 1, none⟩) (show w.heap.size + 1 + 1 < w1.heap.size by omega)).trans am1))
            have dm2 : w3.cell? ⟨w.heap.size + 1 + 1, 2, none⟩ = some (.slice none 0 0) := (hq.cell (p := ⟨w.heap.size + 1 + 1, 2, none⟩) (by (try simp only [World.heap_size_alloc, World.heap_size_drew, World.heap_size_setCell]); omega)).trans ((World.cell?_alloc_lt _ _ _ (show w.heap.size + 1 + 1 < w2.heap.size by omega)).trans ((b2.cell (p := ⟨w.heap.size + 1 + 1, 2, none⟩) (show w.heap.size + 1 + 1 < w1.heap.size by omega)).trans am2))
            have dz0 : w3.frozen? ⟨w.heap.size + 1 + 1, 0, none⟩ = false := (hq.frozen (p := ⟨w.heap.size + 1 + 1, 0, none⟩) (by (try simp only [World.heap_size_alloc, World.heap_size_drew, World.heap_size_setCell]); omega)).trans ((frozen_alloc_lt _ _ (p := ⟨w.heap.size + 1 + 1, 0, none⟩) (show w.heap.size + 1 + 1 < w2.heap.size by omega)).trans ((b2.frozen (p := ⟨w.heap.size + 1 + 1, 0, none⟩) (show w.heap.size + 1 + 1 < w1.heap.size by omega)).trans az0))
            have dz1 : w3.frozen? ⟨w.heap.size + 1 + 1, 1, none⟩ = false := (hq.frozen (p := ⟨w.heap.size + 1 + 1, 1, none⟩) (by (try simp only [World.heap_size_alloc, World.heap_size_drew, World.heap_size_setCell]); omega)).trans ((frozen_alloc_lt _ _ (p := ⟨w.heap.size + 1 + 1, 1, none⟩) (show w.heap.size + 1 + 1 < w2.heap.size by omega)).trans ((b2.frozen (p := ⟨w.heap.size + 1 + 1, 1, none⟩) (show w.heap.size + 1 + 1 < w1.heap.size by omega)).trans az1))
            have dz2 : w3.frozen? ⟨w.heap.size + 1 + 1, 2, none⟩ = false := (hq.frozen (p := ⟨w.heap.size + 1 + 1, 2, none⟩) (by (try simp only [World.heap_size_alloc, World.heap_size_drew, World.heap_size_setCell]); omega)).trans ((frozen_alloc_lt _ _ (p := ⟨w.heap.size + 1 + 1, 2, none⟩) (show w.heap.size + 1 + 1 < w2.heap.size by omega)).trans ((b2.frozen (p := ⟨w.heap.size + 1 + 1, 2, none⟩) (show w.heap.size + 1 + 1 < w1.heap.size by omega)).trans az2))
            have g0 : w3.cell? ⟨w2.heap.size, 0, none⟩ = some (.int .i64 b) := (hq.cell (p := ⟨w2.heap.size, 0, none⟩) (by (try simp only [World.heap_size_alloc, World.heap_size_drew, World.heap_size_setCell]); omega)).trans (by simp)
            have gz0 : w3.frozen? ⟨w2.heap.size, 0, none⟩ = false := (hq.frozen (p := ⟨w2.heap.size, 0, none⟩) (by (try simp only [World.heap_size_alloc, World.heap_size_drew, World.heap_size_setCell]); omega)).trans (by simp)
            have g1 : w3.cell? ⟨w2.heap.size, 1, none⟩ = some (.int .i64 t) := (hq.cell (p := ⟨w2.heap.size, 1, none⟩) (by (try simp only [World.heap_size_alloc, World.heap_size_drew, World.heap_size_setCell]); omega)).trans (by simp)
            have gz1 : w3.frozen? ⟨w2.heap.size, 1, none⟩ = false := (hq.frozen (p := ⟨w2.heap.size, 1, none⟩) (by (try simp only [World.heap_size_alloc, World.heap_size_drew, World.heap_size_setCell]); omega)).trans (by simp)
            have g2 : w3.cell? ⟨w2.heap.size, 2, none⟩ = some (.slice A2 n c2) := (hq.cell (p := ⟨w2.heap.size, 2, none⟩) (by (try simp only [World.heap_size_alloc, World.heap_size_drew, World.heap_size_setCell]); omega)).trans (by simp)
            have gz2 : w3.frozen? ⟨w2.heap.size, 2, none⟩ = false := (hq.frozen (p := ⟨w2.heap.size, 2, none⟩) (by (try simp only [World.heap_size_alloc, World.heap_size_drew, World.heap_size_setCell]); omega)).trans (by simp)
            clear ab0 ab1 ab2 ae0 ae1 ae2 ae3 ae4 ae5 ae6 ae7 ae8 am0 am1 am2 az0 az1 az2 cb0 fcb0 cb1 fcb1 cb2 fcb2 ce0 fce0 ce1 fce1 ce2 fce2 ce3 fce3 ce4 fce4 ce5 fce5 ce6 fce6 ce7 fce7 ce8 fce8
            have hz3 : w2.heap.size < w3.heap.size := by omega
            have hz4 : w.heap.size + 1 + 1 < w3.heap.size := by omega
            have HO3 : Hid (Own (w3.alloc (.cells #[.int .i64 e.index, .int .i64 e.time, .int .i64 e.client, .int .i64 e.seq, .int .i64 e.op.kind, .int .i64 e.op.a, .int .i64 e.op.b, .int .i64 e.op.c, .int .i64 e.op.d] 37)) w1.heap.size 37 9 (.slice A2 n c2) n (l.flatMap EntryD.ints)) := Lib.hid (HO2.out.kept ((((Below.refl _ _).alloc (Nat.le_refl _) _).trans (hq.mono (by (try simp only [World.heap_size_alloc, World.heap_size_drew, World.heap_size_setCell]); omega))).alloc (by (try simp only [World.heap_size_alloc, World.heap_size_drew, World.heap_size_setCell]); omega) _))
            have HS1 : Hid (Sl (w3.alloc (.cells #[.int .i64 e.index, .int .i64 e.time, .int .i64 e.client, .int .i64 e.seq, .int .i64 e.op.kind, .int .i64 e.op.a, .int .i64 e.op.b, .int .i64 e.op.c, .int .i64 e.op.d] 37)) w3.heap.size (w3.alloc (.cells #[.int .i64 e.index, .int .i64 e.time, .int .i64 e.client, .int .i64 e.seq, .int .i64 e.op.kind, .int .i64 e.op.a, .int .i64 e.op.b, .int .i64 e.op.c, .int .i64 e.op.d] 37)).heap.size 9 (some ⟨w3.heap.size, 0, none⟩) 1 1 e.ints) := Lib.hid ⟨rfl, by omega, by omega, fun _ => ⟨_, 0, rfl, by (try simp only [World.heap_size_alloc, World.heap_size_drew, World.heap_size_setCell]); omega, by simp, ints_new w3 37 e.ints⟩⟩
            have hb4 : Hid (Below w.heap.size w (w3.alloc (.cells #[.int .i64 e.index, .int .i64 e.time, .int .i64 e.client, .int .i64 e.seq, .int .i64 e.op.kind, .int .i64 e.op.a, .int .i64 e.op.b, .int .i64 e.op.c, .int .i64 e.op.d] 37))) := Lib.hid (hw3.alloc (by omega) _)
            have hne2 : ∀ g, (Value.slice A2 n c2).ownBlock = some g → w1.heap.size ≤ g ∧ g < w2.heap.size := fun g hg => Own.lt HO2.out g hg
            have hm9 : ¬ w.heap.size + 1 + 1 = w2.heap.size := by omega
            have hm8 : ¬ w2.heap.size = w.heap.size + 1 + 1 := by omega
            go_wp2_with (at_builtin; go_loud (refine wpList_append_sl _ rfl (.tmp 41) (.tmp 43) 27 rfl w1.heap.size 37 Try.underlying27 infoEntry rfl (by omega) _ _ _ rfl HO3.out _ 1 1 _ _ e.ints rfl HS1.out (by omega) (by omega) (by (try simp only [World.heap_size_alloc, World.heap_size_drew, World.heap_size_setCell]); omega) ?_); intro v4 w4 o4 g4 a4; obtain ⟨k0c, k0f⟩ := gcellO g4 (b := w2.heap.size) (by (try simp only [World.heap_size_alloc, World.heap_size_drew, World.heap_size_setCell]); omega) (fun g hg => by have := hne2 g hg; omega); have x00 := (k0c 0).trans ((World.cell?_alloc_lt _ _ _ hz3).trans g0); have xz00 := (k0f 0).trans ((frozen_alloc_lt _ _ (p := ⟨w2.heap.size, 0, none⟩) hz3).trans gz0); have x01 := (k0c 1).trans ((World.cell?_alloc_lt _ _ _ hz3).trans g1); have xz01 := (k0f 1).trans ((frozen_alloc_lt _ _ (p := ⟨w2.heap.size, 1, none⟩) hz3).trans gz1); have x02 := (k0c 2).trans ((World.cell?_alloc_lt _ _ _ hz3).trans g2); have xz02 := (k0f 2).trans ((frozen_alloc_lt _ _ (p := ⟨w2.heap.size, 2, none⟩) hz3).trans gz2); obtain ⟨k1c, k1f⟩ := gcellO g4 (b := w.heap.size + 1 + 1) (by (try simp only [World.heap_size_alloc, World.heap_size_drew, World.heap_size_setCell]); omega) (fun g hg => by have := hne2 g hg; omega); have x10 := (k1c 0).trans ((World.cell?_alloc_lt _ _ _ hz4).trans dm0); have xz10 := (k1f 0).trans ((frozen_alloc_lt _ _ (p := ⟨w.heap.size + 1 + 1, 0, none⟩) hz4).trans dz0); have x11 := (k1c 1).trans ((World.cell?_alloc_lt _ _ _ hz4).trans dm1); have xz11 := (k1f 1).trans ((frozen_alloc_lt _ _ (p := ⟨w.heap.size + 1 + 1, 1, none⟩) hz4).trans dz1); have x12 := (k1c 2).trans ((World.cell?_alloc_lt _ _ _ hz4).trans dm2); have xz12 := (k1f 2).trans ((frozen_alloc_lt _ _ (p := ⟨w.heap.size + 1 + 1, 2, none⟩) hz4).trans dz2); have y4 := g4.size; (try simp only [World.heap_size_alloc] at y4); have hb5 := Lib.hid (hb4.out.trans (grown_below (base := w.heap.size) g4 (by (try simp only [World.heap_size_alloc, World.heap_size_drew, World.heap_size_setCell]); omega) (fun g hg => by have := hne2 g hg; omega))); have hn4 : ∀ g, v4.ownBlock = some g → w1.heap.size ≤ g ∧ g ≠ w2.heap.size := (fun g hg => by rcases a4 with a4 | a4 <;> rw [a4] at hg; (have := hne2 g hg; omega); (injection hg with hg; simp only [World.heap_size_alloc] at hg; omega)); obtain ⟨A4, c4, rfl, s4⟩ := o4.sl; have HO4 := Lib.hid o4; have HN4 := Lib.hid hn4; clear o4 g4 a4 s4 k0c k0f k1c k1f hn4)
            (try go_wp2_with fail)
            have O5 := Own.setC HO4.out (B := w2.heap.size) (fun g hg => (HN4.out g hg).2) 2 (.slice A4 (n + 1) c4)
            obtain ⟨_, _, e9, s5⟩ := O5.sl
            injection e9 with e9 _ e10
            subst e9 e10
            refine bodyPost_ret (v := .tuple #[.agg #[.int .i64 b, .int .i64 t, .slice A4 (n + 1) c4], .bool true]) (by simp [results, Try.results41, go_sem, x00, x01, x02, x10, x11, x12]) rfl ⟨A4, c4, rfl, ?_, ?_⟩
            · refine Sl.mono (Sl.upd (lo' := w.heap.size + 1 + 1) (hi' := w.heap.size + 1 + 1 + 1) s5 ?_ (.inr (by omega))) (by omega) (by (try simp only [World.heap_size_alloc, World.heap_size_drew, World.heap_size_setCell]); omega)
              (repeat' (first | with_reducible exact Upd.refl _ _ _ | with_reducible assumption | with_reducible refine Upd.drew ?_ | with_reducible refine Upd.alloc ?_ _ | with_reducible refine Upd.setCell ?_ ?_ ?_ _ | (simp only []; omega) | omega))
            · have c9 := hb5.out
              (repeat' (first | with_reducible exact Below.refl _ _ | with_reducible assumption | with_reducible refine Below.drew ?_ | with_reducible refine Below.alloc ?_ ?_ _ | with_reducible refine Below.setCell ?_ ?_ _ | with_reducible refine Below.trans ?_ (Below.mono (by assumption) ?_) | ((try simp only [World.heap_size_alloc, World.heap_size_drew, World.heap_size_setCell]); omega)))
          · have e0 : appendedM b t l e = (b, t, l, false) := by
              unfold appendedM
              rw [if_pos hok, if_neg (by simp [fitsM, HL.out, h20])]
            rw [e0]
            clear e0
            show Calls _ _ _ _ (BookBRes w b t l.length (l.flatMap EntryD.ints) false)
            rw [HL.out]
            obtain ⟨q0, q1, q2, q3, q4, _⟩ := bookOk_facts hok
            rw [HL.out] at q4
            have CO : ∀ W, Sl W lo hi 9 A n c (l.flatMap EntryD.ints) → Calls Try.prog 21 #[.agg #[.int .i64 b, .int .i64 t, .slice A n c]] W fun x w' => x = .returned (.bool true) ∧ Below W.heap.size W w' := fun W s => by
              have h7 := sBookOk_any b t A n c lo hi l W s
              rw [hok] at h7
              exact h7
            have HO := Lib.hid CO
            clear CO
            have HCP := Lib.hid (fun W s => l8CopyO_any b t A n c lo hi l W s (by omega))
            have HLA := Lib.hid (fun W => l8Last_any b t A n c W q0 q1 q4)
            have hw9 : IntKind.i64.wrap (b + (n : Int) + 1) = b + (n : Int) + 1 := IntWalk.i64_in _ (by omega)
            have CE : ∀ W, Calls Try.prog 71 #[.agg #[.int .i64 e.index, .int .i64 e.time, .int .i64 e.client, .int .i64 e.seq, .int .i64 e.op.kind, .int .i64 e.op.a, .int .i64 e.op.b, .int .i64 e.op.c, .int .i64 e.op.d]] W fun x w' => x = .returned (.bool true) ∧ Below W.heap.size W w' := fun W => by
              have h7 := sEntryOk_any e.index e.time e.client e.seq e.op.kind e.op.a e.op.b e.op.c e.op.d W
              rw [show entryOk ⟨e.index, e.time, e.client, e.seq, ⟨e.op.kind, e.op.a, e.op.b, e.op.c, e.op.d⟩⟩ = true from hek] at h7
              exact h7
            have HE := Lib.hid CE
            clear CE
            have CT : ∀ W, Sl W lo hi 9 A n c (l.flatMap EntryD.ints) → Calls Try.prog 65 #[.agg #[.int .i64 b, .int .i64 t, .slice A n c], .int .i64 (b + (n : Int))] W fun x w' => x = .returned (.int .i64 (lastTime t l)) ∧ Below W.heap.size W w' := fun W s => by
              have h7 := l8TimeAt_any b t A n c lo hi l (b + (n : Int)) W s q0 q1 q4 (by omega) (by omega)
              rw [timeAt_last HL.out] at h7
              exact h7
            have HTA := Lib.hid CT
            clear CT
            have d20 : ((n : Int) == 20) = true := by simp; omega
            have HIX := Lib.hid hix
            have dt : decide (e.time < lastTime t l) = false := by simp; omega
            clear hok hek hix ht
            generalize lastTime t l = lt at *
            go_enter Try.func41, Try.ntmps41
            go_wp2_with fail
            (with_reducible refine (HO.out _ (h.below (B := w.heap.size) (by (repeat' (first | with_reducible exact Below.refl _ _ | with_reducible assumption | with_reducible refine Below.drew ?_ | with_reducible refine Below.alloc ?_ ?_ _ | with_reducible refine Below.setCell ?_ ?_ _ | with_reducible refine Below.trans ?_ (Below.mono (by assumption) ?_) | ((try simp only [World.heap_size_alloc, World.heap_size_drew, World.heap_size_setCell]); omega)))) hhi)).mono ?_); rintro _ w1 ⟨rfl, b1⟩
            have y1 := b1.size
            (try simp only [World.heap_size_alloc] at y1)
            have hw1 : Below w.heap.size w w1 := by (repeat' (first | with_reducible exact Below.refl _ _ | with_reducible assumption | with_reducible refine Below.drew ?_ | with_reducible refine Below.alloc ?_ ?_ _ | with_reducible refine Below.setCell ?_ ?_ _ | with_reducible refine Below.trans ?_ (Below.mono (by assumption) ?_) | ((try simp only [World.heap_size_alloc, World.heap_size_drew, World.heap_size_setCell]); omega)))
            have ab0 : w1.cell? ⟨w.heap.size, 0, none⟩ = some (.int .i64 b) := (b1.cell (p := ⟨w.heap.size, 0, none⟩) (by (try simp only [World.heap_size_alloc, World.heap_size_drew, World.heap_size_setCell]); omega)).trans (by simp [go_sem])
            have ab1 : w1.cell? ⟨w.heap.size, 1, none⟩ = some (.int .i64 t) := (b1.cell (p := ⟨w.heap.size, 1, none⟩) (by (try simp only [World.heap_size_alloc, World.heap_size_drew, World.heap_size_setCell]); omega)).trans (by simp [go_sem])
            have ab2 : w1.cell? ⟨w.heap.size, 2, none⟩ = some (.slice A n c) := (b1.cell (p := ⟨w.heap.size, 2, none⟩) (by (try simp only [World.heap_size_alloc, World.heap_size_drew, World.heap_size_setCell]); omega)).trans (by simp [go_sem])
            have ae0 : w1.cell? ⟨w.heap.size + 1, 0, none⟩ = some (.int .i64 e.index) := (b1.cell (p := ⟨w.heap.size + 1, 0, none⟩) (by (try simp only [World.heap_size_alloc, World.heap_size_drew, World.heap_size_setCell]); omega)).trans (by simp [go_sem])
            have ae1 : w1.cell? ⟨w.heap.size + 1, 1, none⟩ = some (.int .i64 e.time) := (b1.cell (p := ⟨w.heap.size + 1, 1, none⟩) (by (try simp only [World.heap_size_alloc, World.heap_size_drew, World.heap_size_setCell]); omega)).trans (by simp [go_sem])
            have ae2 : w1.cell? ⟨w.heap.size + 1, 2, none⟩ = some (.int .i64 e.client) := (b1.cell (p := ⟨w.heap.size + 1, 2, none⟩) (by (try simp only [World.heap_size_alloc, World.heap_size_drew, World.heap_size_setCell]); omega)).trans (by simp [go_sem])
            have ae3 : w1.cell? ⟨w.heap.size + 1, 3, none⟩ = some (.int .i64 e.seq) := (b1.cell (p := ⟨w.heap.size + 1, 3, none⟩) (by (try simp only [World.heap_size_alloc, World.heap_size_drew, World.heap_size_setCell]); omega)).trans (by simp [go_sem])
            have ae4 : w1.cell? ⟨w.heap.size + 1, 4, none⟩ = some (.int .i64 e.op.kind) := (b1.cell (p := ⟨w.heap.size + 1, 4, none⟩) (by (try simp only [World.heap_size_alloc, World.heap_size_drew, World.heap_size_setCell]); omega)).trans (by simp [go_sem])
            have ae5 : w1.cell? ⟨w.heap.size + 1, 5, none⟩ = some (.int .i64 e.op.a) := (b1.cell (p := ⟨w.heap.size + 1, 5, none⟩) (by (try simp only [World.heap_size_alloc, World.heap_size_drew, World.heap_size_setCell]); omega)).trans (by simp [go_sem])
            have ae6 : w1.cell? ⟨w.heap.size + 1, 6, none⟩ = some (.int .i64 e.op.b) := (b1.cell (p := ⟨w.heap.size + 1, 6, none⟩) (by (try simp only [World.heap_size_alloc, World.heap_size_drew, World.heap_size_setCell]); omega)).trans (by simp [go_sem])
            have ae7 : w1.cell? ⟨w.heap.size + 1, 7, none⟩ = some (.int .i64 e.op.c) := (b1.cell (p := ⟨w.heap.size + 1, 7, none⟩) (by (try simp only [World.heap_size_alloc, World.heap_size_drew, World.heap_size_setCell]); omega)).trans (by simp [go_sem])
            have ae8 : w1.cell? ⟨w.heap.size + 1, 8, none⟩ = some (.int .i64 e.op.d) := (b1.cell (p := ⟨w.heap.size + 1, 8, none⟩) (by (try simp only [World.heap_size_alloc, World.heap_size_drew, World.heap_size_setCell]); omega)).trans (by simp [go_sem])
            have am0 : w1.cell? ⟨w.heap.size + 1 + 1, 0, none⟩ = some (.int .i64 0) := (b1.cell (p := ⟨w.heap.size + 1 + 1, 0, none⟩) (by (try simp only [World.heap_size_alloc, World.heap_size_drew, World.heap_size_setCell]); omega)).trans (by simp [go_sem])
            have am1 : w1.cell? ⟨w.heap.size + 1 + 1, 1, none⟩ = some (.int .i64 0) := (b1.cell (p := ⟨w.heap.size + 1 + 1, 1, none⟩) (by (try simp only [World.heap_size_alloc, World.heap_size_drew, World.heap_size_setCell]); omega)).trans (by simp [go_sem])
            have am2 : w1.cell? ⟨w.heap.size + 1 + 1, 2, none⟩ = some (.slice none 0 0) := (b1.cell (p := ⟨w.heap.size + 1 + 1, 2, none⟩) (by (try simp only [World.heap_size_alloc, World.heap_size_drew, World.heap_size_setCell]); omega)).trans (by simp [go_sem])
            have az0 : w1.frozen? ⟨w.heap.size + 1 + 1, 0, none⟩ = false := (b1.frozen (p := ⟨w.heap.size + 1 + 1, 0, none⟩) (by (try simp only [World.heap_size_alloc, World.heap_size_drew, World.heap_size_setCell]); omega)).trans (by simp [go_sem])
            have az1 : w1.frozen? ⟨w.heap.size + 1 + 1, 1, none⟩ = false := (b1.frozen (p := ⟨w.heap.size + 1 + 1, 1, none⟩) (by (try simp only [World.heap_size_alloc, World.heap_size_drew, World.heap_size_setCell]); omega)).trans (by simp [go_sem])
            have az2 : w1.frozen? ⟨w.heap.size + 1 + 1, 2, none⟩ = false := (b1.frozen (p := ⟨w.heap.size + 1 + 1, 2, none⟩) (by (try simp only [World.heap_size_alloc, World.heap_size_drew, World.heap_size_setCell]); omega)).trans (by simp [go_sem])
            go_wp2_with fail
            (with_reducible refine (HCP.out _ (h.below hw1 hhi)).mono ?_); rintro _ w2 ⟨A2, c2, rfl, o2, b2⟩
            have y2 := b2.size
            have hz1 : w.heap.size + 1 + 1 < w1.heap.size := by omega
            have hw2 : Below w.heap.size w w2 := hw1.trans (b2.mono (by omega))
            have cb0 : (w2.alloc (.cells #[.int .i64 b, .int .i64 t, .slice A2 n c2] 29)).cell? ⟨w.heap.size, 0, none⟩ = some (.int .i64 b) := (World.cell?_alloc_lt _ _ _ (show w.heap.size < w2.heap.size by omega)).trans ((b2.cell (p := ⟨w.heap.size, 0, none⟩) (show w.heap.size < w1.heap.size by omega)).trans ab0)
            have fcb0 := fun d os => cell_regrown cb0 d os
            have cb1 : (w2.alloc (.cells #[.int .i64 b, .int .i64 t, .slice A2 n c2] 29)).cell? ⟨w.heap.size, 1, none⟩ = some (.int .i64 t) := (World.cell?_alloc_lt _ _ _ (show w.heap.size < w2.heap.size by omega)).trans ((b2.cell (p := ⟨w.heap.size, 1, none⟩) (show w.heap.size < w1.heap.size by omega)).trans ab1)
            have fcb1 := fun d os => cell_regrown cb1 d os
            have cb2 : (w2.alloc (.cells #[.int .i64 b, .int .i64 t, .slice A2 n c2] 29)).cell? ⟨w.heap.size, 2, none⟩ = some (.slice A n c) := (World.cell?_alloc_lt _ _ _ (show w.heap.size < w2.heap.size by omega)).trans ((b2.cell (p := ⟨w.heap.size, 2, none⟩) (show w.heap.size < w1.heap.size by omega)).trans ab2)
            have fcb2 := fun d os => cell_regrown cb2 d os
            have ce0 : (w2.alloc (.cells #[.int .i64 b, .int .i64 t, .slice A2 n c2] 29)).cell? ⟨w.heap.size + 1, 0, none⟩ = some (.int .i64 e.index) := (World.cell?_alloc_lt _ _ _ (show w.heap.size + 1 < w2.heap.size by omega)).trans ((b2.cell (p := ⟨w.heap.size + 1, 0, none⟩) (show w.heap.size + 1 < w1.heap.size by omega)).trans ae0)
            have fce0 := fun d os => cell_regrown ce0 d os
            have ce1 : (w2.alloc (.cells #[.int .i64 b, .int .i64 t, .slice A2 n c2] 29)).cell? ⟨w.heap.size + 1, 1, none⟩ = some (.int .i64 e.time) := (World.cell?_alloc_lt _ _ _ (show w.heap.size + 1 < w2.heap.size by omega)).trans ((b2.cell (p := ⟨w.heap.size + 1, 1, none⟩) (show w.heap.size + 1 < w1.heap.size by omega)).trans ae1)
            have fce1 := fun d os => cell_regrown ce1 d os
            have ce2 : (w2.alloc (.cells #[.int .i64 b, .int .i64 t, .slice A2 n c2] 29)).cell? ⟨w.heap.size + 1, 2, none⟩ = some (.int .i64 e.client) := (World.cell?_alloc_lt _ _ _ (show w.heap.size + 1 < w2.heap.size by omega)).trans ((b2.cell (p := ⟨w.heap.size + 1, 2, none⟩) (show w.heap.size + 1 < w1.heap.size by omega)).trans ae2)
            have fce2 := fun d os => cell_regrown ce2 d os
            have ce3 : (w2.alloc (.cells #[.int .i64 b, .int .i64 t, .slice A2 n c2] 29)).cell? ⟨w.heap.size + 1, 3, none⟩ = some (.int .i64 e.seq) := (World.cell?_alloc_lt _ _ _ (show w.heap.size + 1 < w2.heap.size by omega)).trans ((b2.cell (p := ⟨w.heap.size + 1, 3, none⟩) (show w.heap.size + 1 < w1.heap.size by omega)).trans ae3)
            have fce3 := fun d os => cell_regrown ce3 d os
            have ce4 : (w2.alloc (.cells #[.int .i64 b, .int .i64 t, .slice A2 n c2] 29)).cell? ⟨w.heap.size + 1, 4, none⟩ = some (.int .i64 e.op.kind) := (World.cell?_alloc_lt _ _ _ (show w.heap.size + 1 < w2.heap.size by omega)).trans ((b2.cell (p := ⟨w.heap.size + 1, 4, none⟩) (show w.heap.size + 1 < w1.heap.size by omega)).trans ae4)
            have fce4 := fun d os => cell_regrown ce4 d os
            have ce5 : (w2.alloc (.cells #[.int .i64 b, .int .i64 t, .slice A2 n c2] 29)).cell? ⟨w.heap.size + 1, 5, none⟩ = some (.int .i64 e.op.a) := (World.cell?_alloc_lt _ _ _ (show w.heap.size + 1 < w2.heap.size by omega)).trans ((b2.cell (p := ⟨w.heap.size + 1, 5, none⟩) (show w.heap.size + 1 < w1.heap.size by omega)).trans ae5)
            have fce5 := fun d os => cell_regrown ce5 d os
            have ce6 : (w2.alloc (.cells #[.int .i64 b, .int .i64 t, .slice A2 n c2] 29)).cell? ⟨w.heap.size + 1, 6, none⟩ = some (.int .i64 e.op.b) := (World.cell?_alloc_lt _ _ _ (show w.heap.size + 1 < w2.heap.size by omega)).trans ((b2.cell (p := ⟨w.heap.size + 1, 6, none⟩) (show w.heap.size + 1 < w1.heap.size by omega)).trans ae6)
            have fce6 := fun d os => cell_regrown ce6 d os
            have ce7 : (w2.alloc (.cells #[.int .i64 b, .int .i64 t, .slice A2 n c2] 29)).cell? ⟨w.heap.size + 1, 7, none⟩ = some (.int .i64 e.op.c) := (World.cell?_alloc_lt _ _ _ (show w.heap.size + 1 < w2.heap.size by omega)).trans ((b2.cell (p := ⟨w.heap.size + 1, 7, none⟩) (show w.heap.size + 1 < w1.heap.size by omega)).trans ae7)
            have fce7 := fun d os => cell_regrown ce7 d os
            have ce8 : (w2.alloc (.cells #[.int .i64 b, .int .i64 t, .slice A2 n c2] 29)).cell? ⟨w.heap.size + 1, 8, none⟩ = some (.int .i64 e.op.d) := (World.cell?_alloc_lt _ _ _ (show w.heap.size + 1 < w2.heap.size by omega)).trans ((b2.cell (p := ⟨w.heap.size + 1, 8, none⟩) (show w.heap.size + 1 < w1.heap.size by omega)).trans ae8)
            have fce8 := fun d os => cell_regrown ce8 d os
            have HO2 := Lib.hid o2
            clear o2
            have S0 := Lib.hid (h.below (B := w.heap.size) (w' := (w2.alloc (.cells #[.int .i64 b, .int .i64 t, .slice A2 n c2] 29))) (hw2.alloc (by omega) _) hhi)
            have hhi1 : hi ≤ (w2.alloc (.cells #[.int .i64 b, .int .i64 t, .slice A2 n c2] 29)).heap.size := by (try simp only [World.heap_size_alloc, World.heap_size_drew, World.heap_size_setCell]); omega
            go_wp2_with fail
            refine wp_region_quiet_below (by kernel_rfl) (by kernel_rfl) ?_; (repeat (first | go_big_quiet_step ((first | (go_at_call 71; with_reducible exact Calls.regrown_of (HE.out _)) | (go_at_call 62; with_reducible exact Calls.regrown_of (HLA.out _)) | (go_at_call 65; with_reducible exact Calls.regrown_of (HTA.out _ (S0.out.below (below_regrown _ _ _) hhi1))))) | quiet_step ((first | (go_at_call 71; with_reducible exact Calls.regrown_of (HE.out _)) | (go_at_call 62; with_reducible exact Calls.regrown_of (HLA.out _)) | (go_at_call 65; with_reducible exact Calls.regrown_of (HTA.out _ (S0.out.below (below_regrown _ _ _) hhi1))))))); refine wpQuiet_nil ?_; intro _ hw'; obtain ⟨⟨nq, osq⟩, hw''⟩ := hw'; subst hw''; have hq := below_regrown (w2.alloc (.cells #[.int .i64 b, .int .i64 t, .slice A2 n c2] 29)) nq osq; generalize Sort.grow (redrawn (w2.alloc (.cells #[.int .i64 b, .int .i64 t, .slice A2 n c2] 29)) nq) osq = w3 at *
            have y3 := hq.size
            simp only [World.heap_size_alloc] at y3
            have hw3 : Below w.heap.size w w3 := hw2.trans (((Below.refl _ _).alloc (by omega) _).trans (hq.mono (by (try simp only [World.heap_size_alloc, World.heap_size_drew, World.heap_size_setCell]); omega)))
            have de0 : w3.cell? ⟨w.heap.size + 1, 0, none⟩ = some (.int .i64 e.index) := (hq.cell (p := ⟨w.heap.size + 1, 0, none⟩) (by (try simp only [World.heap_size_alloc, World.heap_size_drew, World.heap_size_setCell]); omega)).trans ce0
            have de1 : w3.cell? ⟨w.heap.size + 1, 1, none⟩ = some (.int .i64 e.time) := (hq.cell (p := ⟨w.heap.size + 1, 1, none⟩) (by (try simp only [World.heap_size_alloc, World.heap_size_drew, World.heap_size_setCell]); omega)).trans ce1
            have de2 : w3.cell? ⟨w.heap.size + 1, 2, none⟩ = some (.int .i64 e.client) := (hq.cell (p := ⟨w.heap.size + 1, 2, none⟩) (by (try simp only [World.heap_size_alloc, World.heap_size_drew, World.heap_size_setCell]); omega)).trans ce2
            have de3 : w3.cell? ⟨w.heap.size + 1, 3, none⟩ = some (.int .i64 e.seq) := (hq.cell (p := ⟨w.heap.size + 1, 3, none⟩) (by (try simp only [World.heap_size_alloc, World.heap_size_drew, World.heap_size_setCell]); omega)).trans ce3
            have de4 : w3.cell? ⟨w.heap.size + 1, 4, none⟩ = some (.int .i64 e.op.kind) := (hq.cell (p := ⟨w.heap.size + 1, 4, none⟩) (by (try simp only [World.heap_size_alloc, World.heap_size_drew, World.heap_size_setCell]); omega)).trans ce4
            have de5 : w3.cell? ⟨w.heap.size + 1, 5, none⟩ = some (.int .i64 e.op.a) := (hq.cell (p := ⟨w.heap.size + 1, 5, none⟩) (by (try simp only [World.heap_size_alloc, World.heap_size_drew, World.heap_size_setCell]); omega)).trans ce5
            have de6 : w3.cell? ⟨w.heap.size + 1, 6, none⟩ = some (.int .i64 e.op.b) := (hq.cell (p := ⟨w.heap.size + 1, 6, none⟩) (by (try simp only [World.heap_size_alloc, World.heap_size_drew, World.heap_size_setCell]); omega)).trans ce6
            have de7 : w3.cell? ⟨w.heap.size + 1, 7, none⟩ = some (.int .i64 e.op.c) := (hq.cell (p := ⟨w.heap.size + 1, 7, none⟩) (by (try simp only [World.heap_size_alloc, World.heap_size_drew, World.heap_size_setCell]); omega)).trans ce7
            have de8 : w3.cell? ⟨w.heap.size + 1, 8, none⟩ = some (.int .i64 e.op.d) := (hq.cell (p := ⟨w.heap.size + 1, 8, none⟩) (by (try simp only [World.heap_size_alloc, World.heap_size_drew, World.heap_size_setCell]); omega)).trans ce8
            have dm0 : w3.cell? ⟨w.heap.size + 1 + 1, 0, none⟩ = some (.int .i64 0) := (hq.cell (p := ⟨w.heap.size + 1 + 1, 0, none⟩) (by (try simp only [World.heap_size_alloc, World.heap_size_drew, World.heap_size_setCell]); omega)).trans ((World.cell?_alloc_lt _ _ _ (show w.heap.size + 1 + 1 < w2.heap.size by omega)).trans ((b2.cell (p := ⟨w.heap.size + 1 + 1, 0, none⟩) (show w.heap.size + 1 + 1 < w1.heap.size by omega)).trans am0))
            have dm1 : w3.cell? ⟨w.heap.size + 1 + 1, 1, none⟩ = some (.int .i64 0) := (hq.cell (p := ⟨w.heap.size + 1 + 1, 1, none⟩) (by (try simp only [World.heap_size_alloc, World.heap_size_drew, World.heap_size_setCell]); omega)).trans ((World.cell?_alloc_lt _ _ _ (show w.heap.size + 1 + 1 < w2.heap.size by omega)).trans ((b2.cell (p := ⟨w.heap.size + 1 + 1, 1, none⟩) (show w.heap.size + 1 + 1 < w1.heap.size by omega)).trans am1))
            have dm2 : w3.cell? ⟨w.heap.size + 1 + 1, 2, none⟩ = some (.slice none 0 0) := (hq.cell (p := ⟨w.heap.size + 1 + 1, 2, none⟩) (by (try simp only [World.heap_size_alloc, World.heap_size_drew, World.heap_size_setCell]); omega)).trans ((World.cell?_alloc_lt _ _ _ (show w.heap.size + 1 + 1 < w2.heap.size by omega)).trans ((b2.cell (p := ⟨w.heap.size + 1 + 1, 2, none⟩) (show w.heap.size + 1 + 1 < w1.heap.size by omega)).trans am2))
            have dz0 : w3.frozen? ⟨w.heap.size + 1 + 1, 0, none⟩ = false := (hq.frozen (p := ⟨w.heap.size + 1 + 1, 0, none⟩) (by (try simp only [World.heap_size_alloc, World.heap_size_drew, World.heap_size_setCell]); omega)).trans ((frozen_alloc_lt _ _ (p := ⟨w.heap.size + 1 + 1, 0, none⟩) (show w.heap.size + 1 + 1 < w2.heap.size by omega)).trans ((b2.frozen (p := ⟨w.heap.size + 1 + 1, 0, none⟩) (show w.heap.size + 1 + 1 < w1.heap.size by omega)).trans az0))
            have dz1 : w3.frozen? ⟨w.heap.size + 1 + 1, 1, none⟩ = false := (hq.frozen (p := ⟨w.heap.size + 1 + 1, 1, none⟩) (by (try simp only [World.heap_size_alloc, World.heap_size_drew, World.heap_size_setCell]); omega)).trans ((frozen_alloc_lt _ _ (p := ⟨w.heap.size + 1 + 1, 1, none⟩) (show w.heap.size + 1 + 1 < w2.heap.size by omega)).trans ((b2.frozen (p := ⟨w.heap.size + 1 + 1, 1, none⟩) (show w.heap.size + 1 + 1 < w1.heap.size by omega)).trans az1))
            have dz2 : w3.frozen? ⟨w.heap.size + 1 + 1, 2, none⟩ = false := (hq.frozen (p := ⟨w.heap.size + 1 + 1, 2, none⟩) (by (try simp only [World.heap_size_alloc, World.heap_size_drew, World.heap_size_setCell]); omega)).trans ((frozen_alloc_lt _ _ (p := ⟨w.heap.size + 1 + 1, 2, none⟩) (show w.heap.size + 1 + 1 < w2.heap.size by omega)).trans ((b2.frozen (p := ⟨w.heap.size + 1 + 1, 2, none⟩) (show w.heap.size + 1 + 1 < w1.heap.size by omega)).trans az2))
            have g0 : w3.cell? ⟨w2.heap.size, 0, none⟩ = some (.int .i64 b) := (hq.cell (p := ⟨w2.heap.size, 0, none⟩) (by (try simp only [World.heap_size_alloc, World.heap_size_drew, World.heap_size_setCell]); omega)).trans (by simp)
            have gz0 : w3.frozen? ⟨w2.heap.size, 0, none⟩ = false := (hq.frozen (p := ⟨w2.heap.size, 0, none⟩) (by (try simp only [World.heap_size_alloc, World.heap_size_drew, World.heap_size_setCell]); omega)).trans (by simp)
            have g1 : w3.cell? ⟨w2.heap.size, 1, none⟩ = some (.int .i64 t) := (hq.cell (p := ⟨w2.heap.size, 1, none⟩) (by (try simp only [World.heap_size_alloc, World.heap_size_drew, World.heap_size_setCell]); omega)).trans (by simp)
            have gz1 : w3.frozen? ⟨w2.heap.size, 1, none⟩ = false := (hq.frozen (p := ⟨w2.heap.size, 1, none⟩) (by (try simp only [World.heap_size_alloc, World.heap_size_drew, World.heap_size_setCell]); omega)).trans (by simp)
            have g2 : w3.cell? ⟨w2.heap.size, 2, none⟩ = some (.slice A2 n c2) := (hq.cell (p := ⟨w2.heap.size, 2, none⟩) (by (try simp only [World.heap_size_alloc, World.heap_size_drew, World.heap_size_setCell]); omega)).trans (by simp)
            have gz2 : w3.frozen? ⟨w2.heap.size, 2, none⟩ = false := (hq.frozen (p := ⟨w2.heap.size, 2, none⟩) (by (try simp only [World.heap_size_alloc, World.heap_size_drew, World.heap_size_setCell]); omega)).trans (by simp)
            clear ab0 ab1 ab2 ae0 ae1 ae2 ae3 ae4 ae5 ae6 ae7 ae8 am0 am1 am2 az0 az1 az2 cb0 fcb0 cb1 fcb1 cb2 fcb2 ce0 fce0 ce1 fce1 ce2 fce2 ce3 fce3 ce4 fce4 ce5 fce5 ce6 fce6 ce7 fce7 ce8 fce8
            go_wp2
            have O3 := HO2.out.kept (w' := w3) (((Below.refl _ _).alloc (Nat.le_refl _) _).trans (hq.mono (by (try simp only [World.heap_size_alloc, World.heap_size_drew, World.heap_size_setCell]); omega)))
            obtain ⟨_, _, e9, s3⟩ := O3.sl
            injection e9 with e9 _ e10
            subst e9 e10
            refine bodyPost_ret (v := .tuple #[.agg #[.int .i64 b, .int .i64 t, .slice A2 n c2], .bool false]) (by simp [results, Try.results41, go_sem, dm0, dm1, dm2, g0, g1, g2]) rfl ⟨A2, c2, rfl, ?_, ?_⟩
            · refine Sl.mono (Sl.upd (lo' := w.heap.size + 1 + 1) (hi' := w.heap.size + 1 + 1 + 1) s3 ?_ (.inr (by omega))) (by omega) (by (try simp only [World.heap_size_alloc, World.heap_size_drew, World.heap_size_setCell]); omega)
              (repeat' (first | with_reducible exact Upd.refl _ _ _ | with_reducible assumption | with_reducible refine Upd.drew ?_ | with_reducible refine Upd.alloc ?_ _ | with_reducible refine Upd.setCell ?_ ?_ ?_ _ | (simp only []; omega) | omega))
            · have c9 := hw3
              (repeat' (first | with_reducible exact Below.refl _ _ | with_reducible assumption | with_reducible refine Below.drew ?_ | with_reducible refine Below.alloc ?_ ?_ _ | with_reducible refine Below.setCell ?_ ?_ _ | with_reducible refine Below.trans ?_ (Below.mono (by assumption) ?_) | ((try simp only [World.heap_size_alloc, World.heap_size_drew, World.heap_size_setCell]); omega)))
        · have e0 : appendedM b t l e = (b, t, l, false) := by
            unfold appendedM
            rw [if_pos hok, if_neg (by simp [fitsM, ht])]
          rw [e0]
          clear e0
          show Calls _ _ _ _ (BookBRes w b t l.length (l.flatMap EntryD.ints) false)
          rw [HL.out]
          obtain ⟨q0, q1, q2, q3, q4, _⟩ := bookOk_facts hok
          rw [HL.out] at q4
          have CO : ∀ W, Sl W lo hi 9 A n c (l.flatMap EntryD.ints) → Calls Try.prog 21 #[.agg #[.int .i64 b, .int .i64 t, .slice A n c]] W fun x w' => x = .returned (.bool true) ∧ Below W.heap.size W w' := fun W s => by
            have h7 := sBookOk_any b t A n c lo hi l W s
            rw [hok] at h7
            exact h7
          have HO := Lib.hid CO
          clear CO
          have HCP := Lib.hid (fun W s => l8CopyO_any b t A n c lo hi l W s (by omega))
          have HLA := Lib.hid (fun W => l8Last_any b t A n c W q0 q1 q4)
          have hw9 : IntKind.i64.wrap (b + (n : Int) + 1) = b + (n : Int) + 1 := IntWalk.i64_in _ (by omega)
          have CE : ∀ W, Calls Try.prog 71 #[.agg #[.int .i64 e.index, .int .i64 e.time, .int .i64 e.client, .int .i64 e.seq, .int .i64 e.op.kind, .int .i64 e.op.a, .int .i64 e.op.b, .int .i64 e.op.c, .int .i64 e.op.d]] W fun x w' => x = .returned (.bool true) ∧ Below W.heap.size W w' := fun W => by
            have h7 := sEntryOk_any e.index e.time e.client e.seq e.op.kind e.op.a e.op.b e.op.c e.op.d W
            rw [show entryOk ⟨e.index, e.time, e.client, e.seq, ⟨e.op.kind, e.op.a, e.op.b, e.op.c, e.op.d⟩⟩ = true from hek] at h7
            exact h7
          have HE := Lib.hid CE
          clear CE
          have CT : ∀ W, Sl W lo hi 9 A n c (l.flatMap EntryD.ints) → Calls Try.prog 65 #[.agg #[.int .i64 b, .int .i64 t, .slice A n c], .int .i64 (b + (n : Int))] W fun x w' => x = .returned (.int .i64 (lastTime t l)) ∧ Below W.heap.size W w' := fun W s => by
            have h7 := l8TimeAt_any b t A n c lo hi l (b + (n : Int)) W s q0 q1 q4 (by omega) (by omega)
            rw [timeAt_last HL.out] at h7
            exact h7
          have HTA := Lib.hid CT
          clear CT
          have dt : decide (e.time < lastTime t l) = true := by simp; omega
          have HIX := Lib.hid hix
          clear hok hek hix ht
          generalize lastTime t l = lt at *
          go_enter Try.func41, Try.ntmps41
          go_wp2_with fail
          (with_reducible refine (HO.out _ (h.below (B := w.heap.size) (by (repeat' (first | with_reducible exact Below.refl _ _ | with_reducible assumption | with_reducible refine Below.drew ?_ | with_reducible refine Below.alloc ?_ ?_ _ | with_reducible refine Below.setCell ?_ ?_ _ | with_reducible refine Below.trans ?_ (Below.mono (by assumption) ?_) | ((try simp only [World.heap_size_alloc, World.heap_size_drew, World.heap_size_setCell]); omega)))) hhi)).mono ?_); rintro _ w1 ⟨rfl, b1⟩
          have y1 := b1.size
          (try simp only [World.heap_size_alloc] at y1)
          have hw1 : Below w.heap.size w w1 := by (repeat' (first | with_reducible exact Below.refl _ _ | with_reducible assumption | with_reducible refine Below.drew ?_ | with_reducible refine Below.alloc ?_ ?_ _ | with_reducible refine Below.setCell ?_ ?_ _ | with_reducible refine Below.trans ?_ (Below.mono (by assumption) ?_) | ((try simp only [World.heap_size_alloc, World.heap_size_drew, World.heap_size_setCell]); omega)))
          have ab0 : w1.cell? ⟨w.heap.size, 0, none⟩ = some (.int .i64 b) := (b1.cell (p := ⟨w.heap.size, 0, none⟩) (by (try simp only [World.heap_size_alloc, World.heap_size_drew, World.heap_size_setCell]); omega)).trans (by simp [go_sem])
          have ab1 : w1.cell? ⟨w.heap.size, 1, none⟩ = some (.int .i64 t) := (b1.cell (p := ⟨w.heap.size, 1, none⟩) (by (try simp only [World.heap_size_alloc, World.heap_size_drew, World.heap_size_setCell]); omega)).trans (by simp [go_sem])
          have ab2 : w1.cell? ⟨w.heap.size, 2, none⟩ = some (.slice A n c) := (b1.cell (p := ⟨w.heap.size, 2, none⟩) (by (try simp only [World.heap_size_alloc, World.heap_size_drew, World.heap_size_setCell]); omega)).trans (by simp [go_sem])
          have ae0 : w1.cell? ⟨w.heap.size + 1, 0, none⟩ = some (.int .i64 e.index) := (b1.cell (p := ⟨w.heap.size + 1, 0, none⟩) (by (try simp only [World.heap_size_alloc, World.heap_size_drew, World.heap_size_setCell]); omega)).trans (by simp [go_sem])
          have ae1 : w1.cell? ⟨w.heap.size + 1, 1, none⟩ = some (.int .i64 e.time) := (b1.cell (p := ⟨w.heap.size + 1, 1, none⟩) (by (try simp only [World.heap_size_alloc, World.heap_size_drew, World.heap_size_setCell]); omega)).trans (by simp [go_sem])
          have ae2 : w1.cell? ⟨w.heap.size + 1, 2, none⟩ = some (.int .i64 e.client) := (b1.cell (p := ⟨w.heap.size + 1, 2, none⟩) (by (try simp only [World.heap_size_alloc, World.heap_size_drew, World.heap_size_setCell]); omega)).trans (by simp [go_sem])
          have ae3 : w1.cell? ⟨w.heap.size + 1, 3, none⟩ = some (.int .i64 e.seq) := (b1.cell (p := ⟨w.heap.size + 1, 3, none⟩) (by (try simp only [World.heap_size_alloc, World.heap_size_drew, World.heap_size_setCell]); omega)).trans (by simp [go_sem])
          have ae4 : w1.cell? ⟨w.heap.size + 1, 4, none⟩ = some (.int .i64 e.op.kind) := (b1.cell (p := ⟨w.heap.size + 1, 4, none⟩) (by (try simp only [World.heap_size_alloc, World.heap_size_drew, World.heap_size_setCell]); omega)).trans (by simp [go_sem])
          have ae5 : w1.cell? ⟨w.heap.size + 1, 5, none⟩ = some (.int .i64 e.op.a) := (b1.cell (p := ⟨w.heap.size + 1, 5, none⟩) (by (try simp only [World.heap_size_alloc, World.heap_size_drew, World.heap_size_setCell]); omega)).trans (by simp [go_sem])
          have ae6 : w1.cell? ⟨w.heap.size + 1, 6, none⟩ = some (.int .i64 e.op.b) := (b1.cell (p := ⟨w.heap.size + 1, 6, none⟩) (by (try simp only [World.heap_size_alloc, World.heap_size_drew, World.heap_size_setCell]); omega)).trans (by simp [go_sem])
          have ae7 : w1.cell? ⟨w.heap.size + 1, 7, none⟩ = some (.int .i64 e.op.c) := (b1.cell (p := ⟨w.heap.size + 1, 7, none⟩) (by (try simp only [World.heap_size_alloc, World.heap_size_drew, World.heap_size_setCell]); omega)).trans (by simp [go_sem])
          have ae8 : w1.cell? ⟨w.heap.size + 1, 8, none⟩ = some (.int .i64 e.op.d) := (b1.cell (p := ⟨w.heap.size + 1, 8, none⟩) (by (try simp only [World.heap_size_alloc, World.heap_size_drew, World.heap_size_setCell]); omega)).trans (by simp [go_sem])
          have am0 : w1.cell? ⟨w.heap.size + 1 + 1, 0, none⟩ = some (.int .i64 0) := (b1.cell (p := ⟨w.heap.size + 1 + 1, 0, none⟩) (by (try simp only [World.heap_size_alloc, World.heap_size_drew, World.heap_size_setCell]); omega)).trans (by simp [go_sem])
          have am1 : w1.cell? ⟨w.heap.size + 1 + 1, 1, none⟩ = some (.int .i64 0) := (b1.cell (p := ⟨w.heap.size + 1 + 1, 1, none⟩) (by (try simp only [World.heap_size_alloc, World.heap_size_drew, World.heap_size_setCell]); omega)).trans (by simp [go_sem])
          have am2 : w1.cell? ⟨w.heap.size + 1 + 1, 2, none⟩ = some (.slice none 0 0) := (b1.cell (p := ⟨w.heap.size + 1 + 1, 2, none⟩) (by (try simp only [World.heap_size_alloc, World.heap_size_drew, World.heap_size_setCell]); omega)).trans (by simp [go_sem])
          have az0 : w1.frozen? ⟨w.heap.size + 1 + 1, 0, none⟩ = false := (b1.frozen (p := ⟨w.heap.size + 1 + 1, 0, none⟩) (by (try simp only [World.heap_size_alloc, World.heap_size_drew, World.heap_size_setCell]); omega)).trans (by simp [go_sem])
          have az1 : w1.frozen? ⟨w.heap.size + 1 + 1, 1, none⟩ = false := (b1.frozen (p := ⟨w.heap.size + 1 + 1, 1, none⟩) (by (try simp only [World.heap_size_alloc, World.heap_size_drew, World.heap_size_setCell]); omega)).trans (by simp [go_sem])
          have az2 : w1.frozen? ⟨w.heap.size + 1 + 1, 2, none⟩ = false := (b1.frozen (p := ⟨w.heap.size + 1 + 1, 2, none⟩) (by (try simp only [World.heap_size_alloc, World.heap_size_drew, World.heap_size_setCell]); omega)).trans (by simp [go_sem])
          go_wp2_with fail
          (with_reducible refine (HCP.out _ (h.below hw1 hhi)).mono ?_); rintro _ w2 ⟨A2, c2, rfl, o2, b2⟩
          have y2 := b2.size
          have hz1 : w.heap.size + 1 + 1 < w1.heap.size := by omega
          have hw2 : Below w.heap.size w w2 := hw1.trans (b2.mono (by omega))
          have cb0 : (w2.alloc (.cells #[.int .i64 b, .int .i64 t, .slice A2 n c2] 29)).cell? ⟨w.heap.size, 0, none⟩ = some (.int .i64 b) := (World.cell?_alloc_lt _ _ _ (show w.heap.size < w2.heap.size by omega)).trans ((b2.cell (p := ⟨w.heap.size, 0, none⟩) (show w.heap.size < w1.heap.size by omega)).trans ab0)
          have fcb0 := fun d os => cell_regrown cb0 d os
          have cb1 : (w2.alloc (.cells #[.int .i64 b, .int .i64 t, .slice A2 n c2] 29)).cell? ⟨w.heap.size, 1, none⟩ = some (.int .i64 t) := (World.cell?_alloc_lt _ _ _ (show w.heap.size < w2.heap.size by omega)).trans ((b2.cell (p := ⟨w.heap.size, 1, none⟩) (show w.heap.size < w1.heap.size by omega)).trans ab1)
          have fcb1 := fun d os => cell_regrown cb1 d os
          have cb2 : (w2.alloc (.cells #[.int .i64 b, .int .i64 t, .slice A2 n c2] 29)).cell? ⟨w.heap.size, 2, none⟩ = some (.slice A n c) := (World.cell?_alloc_lt _ _ _ (show w.heap.size < w2.heap.size by omega)).trans ((b2.cell (p := ⟨w.heap.size, 2, none⟩) (show w.heap.size < w1.heap.size by omega)).trans ab2)
          have fcb2 := fun d os => cell_regrown cb2 d os
          have ce0 : (w2.alloc (.cells #[.int .i64 b, .int .i64 t, .slice A2 n c2] 29)).cell? ⟨w.heap.size + 1, 0, none⟩ = some (.int .i64 e.index) := (World.cell?_alloc_lt _ _ _ (show w.heap.size + 1 < w2.heap.size by omega)).trans ((b2.cell (p := ⟨w.heap.size + 1, 0, none⟩) (show w.heap.size + 1 < w1.heap.size by omega)).trans ae0)
          have fce0 := fun d os => cell_regrown ce0 d os
          have ce1 : (w2.alloc (.cells #[.int .i64 b, .int .i64 t, .slice A2 n c2] 29)).cell? ⟨w.heap.size + 1, 1, none⟩ = some (.int .i64 e.time) := (World.cell?_alloc_lt _ _ _ (show w.heap.size + 1 < w2.heap.size by omega)).trans ((b2.cell (p := ⟨w.heap.size + 1, 1, none⟩) (show w.heap.size + 1 < w1.heap.size by omega)).trans ae1)
          have fce1 := fun d os => cell_regrown ce1 d os
          have ce2 : (w2.alloc (.cells #[.int .i64 b, .int .i64 t, .slice A2 n c2] 29)).cell? ⟨w.heap.size + 1, 2, none⟩ = some (.int .i64 e.client) := (World.cell?_alloc_lt _ _ _ (show w.heap.size + 1 < w2.heap.size by omega)).trans ((b2.cell (p := ⟨w.heap.size + 1, 2, none⟩) (show w.heap.size + 1 < w1.heap.size by omega)).trans ae2)
          have fce2 := fun d os => cell_regrown ce2 d os
          have ce3 : (w2.alloc (.cells #[.int .i64 b, .int .i64 t, .slice A2 n c2] 29)).cell? ⟨w.heap.size + 1, 3, none⟩ = some (.int .i64 e.seq) := (World.cell?_alloc_lt _ _ _ (show w.heap.size + 1 < w2.heap.size by omega)).trans ((b2.cell (p := ⟨w.heap.size + 1, 3, none⟩) (show w.heap.size + 1 < w1.heap.size by omega)).trans ae3)
          have fce3 := fun d os => cell_regrown ce3 d os
          have ce4 : (w2.alloc (.cells #[.int .i64 b, .int .i64 t, .slice A2 n c2] 29)).cell? ⟨w.heap.size + 1, 4, none⟩ = some (.int .i64 e.op.kind) := (World.cell?_alloc_lt _ _ _ (show w.heap.size + 1 < w2.heap.size by omega)).trans ((b2.cell (p := ⟨w.heap.size + 1, 4, none⟩) (show w.heap.size + 1 < w1.heap.size by omega)).trans ae4)
          have fce4 := fun d os => cell_regrown ce4 d os
          have ce5 : (w2.alloc (.cells #[.int .i64 b, .int .i64 t, .slice A2 n c2] 29)).cell? ⟨w.heap.size + 1, 5, none⟩ = some (.int .i64 e.op.a) := (World.cell?_alloc_lt _ _ _ (show w.heap.size + 1 < w2.heap.size by omega)).trans ((b2.cell (p := ⟨w.heap.size + 1, 5, none⟩) (show w.heap.size + 1 < w1.heap.size by omega)).trans ae5)
          have fce5 := fun d os => cell_regrown ce5 d os
          have ce6 : (w2.alloc (.cells #[.int .i64 b, .int .i64 t, .slice A2 n c2] 29)).cell? ⟨w.heap.size + 1, 6, none⟩ = some (.int .i64 e.op.b) := (World.cell?_alloc_lt _ _ _ (show w.heap.size + 1 < w2.heap.size by omega)).trans ((b2.cell (p := ⟨w.heap.size + 1, 6, none⟩) (show w.heap.size + 1 < w1.heap.size by omega)).trans ae6)
          have fce6 := fun d os => cell_regrown ce6 d os
          have ce7 : (w2.alloc (.cells #[.int .i64 b, .int .i64 t, .slice A2 n c2] 29)).cell? ⟨w.heap.size + 1, 7, none⟩ = some (.int .i64 e.op.c) := (World.cell?_alloc_lt _ _ _ (show w.heap.size + 1 < w2.heap.size by omega)).trans ((b2.cell (p := ⟨w.heap.size + 1, 7, none⟩) (show w.heap.size + 1 < w1.heap.size by omega)).trans ae7)
          have fce7 := fun d os => cell_regrown ce7 d os
          have ce8 : (w2.alloc (.cells #[.int .i64 b, .int .i64 t, .slice A2 n c2] 29)).cell? ⟨w.heap.size + 1, 8, none⟩ = some (.int .i64 e.op.d) := (World.cell?_alloc_lt _ _ _ (show w.heap.size + 1 < w2.heap.size by omega)).trans ((b2.cell (p := ⟨w.heap.size + 1, 8, none⟩) (show w.heap.size + 1 < w1.heap.size by omega)).trans ae8)
          have fce8 := fun d os => cell_regrown ce8 d os
          have HO2 := Lib.hid o2
          clear o2
          have S0 := Lib.hid (h.below (B := w.heap.size) (w' := (w2.alloc (.cells #[.int .i64 b, .int .i64 t, .slice A2 n c2] 29))) (hw2.alloc (by omega) _) hhi)
          have hhi1 : hi ≤ (w2.alloc (.cells #[.int .i64 b, .int .i64 t, .slice A2 n c2] 29)).heap.size := by (try simp only [World.heap_size_alloc, World.heap_size_drew, World.heap_size_setCell]); omega
          go_wp2_with fail
          refine wp_region_quiet_below (by kernel_rfl) (by kernel_rfl) ?_; (repeat (first | go_big_quiet_step ((first | (go_at_call 71; with_reducible exact Calls.regrown_of (HE.out _)) | (go_at_call 62; with_reducible exact Calls.regrown_of (HLA.out _)) | (go_at_call 65; with_reducible exact Calls.regrown_of (HTA.out _ (S0.out.below (below_regrown _ _ _) hhi1))))) | quiet_step ((first | (go_at_call 71; with_reducible exact Calls.regrown_of (HE.out _)) | (go_at_call 62; with_reducible exact Calls.regrown_of (HLA.out _)) | (go_at_call 65; with_reducible exact Calls.regrown_of (HTA.out _ (S0.out.below (below_regrown _ _ _) hhi1))))))); refine wpQuiet_nil ?_; intro _ hw'; obtain ⟨⟨nq, osq⟩, hw''⟩ := hw'; subst hw''; have hq := below_regrown (w2.alloc (.cells #[.int .i64 b, .int .i64 t, .slice A2 n c2] 29)) nq osq; generalize Sort.grow (redrawn (w2.alloc (.cells #[.int .i64 b, .int .i64 t, .slice A2 n c2] 29)) nq) osq = w3 at *
          have y3 := hq.size
          simp only [World.heap_size_alloc] at y3
          have hw3 : Below w.heap.size w w3 := hw2.trans (((Below.refl _ _).alloc (by omega) _).trans (hq.mono (by (try simp only [World.heap_size_alloc, World.heap_size_drew, World.heap_size_setCell]); omega)))
          have de0 : w3.cell? ⟨w.heap.size + 1, 0, none⟩ = some (.int .i64 e.index) := (hq.cell (p := ⟨w.heap.size + 1, 0, none⟩) (by (try simp only [World.heap_size_alloc, World.heap_size_drew, World.heap_size_setCell]); omega)).trans ce0
          have de1 : w3.cell? ⟨w.heap.size + 1, 1, none⟩ = some (.int .i64 e.time) := (hq.cell (p := ⟨w.heap.size + 1, 1, none⟩) (by (try simp only [World.heap_size_alloc, World.heap_size_drew, World.heap_size_setCell]); omega)).trans ce1
          have de2 : w3.cell? ⟨w.heap.size + 1, 2, none⟩ = some (.int .i64 e.client) := (hq.cell (p := ⟨w.heap.size + 1, 2, none⟩) (by (try simp only [World.heap_size_alloc, World.heap_size_drew, World.heap_size_setCell]); omega)).trans ce2
          have de3 : w3.cell? ⟨w.heap.size + 1, 3, none⟩ = some (.int .i64 e.seq) := (hq.cell (p := ⟨w.heap.size + 1, 3, none⟩) (by (try simp only [World.heap_size_alloc, World.heap_size_drew, World.heap_size_setCell]); omega)).trans ce3
          have de4 : w3.cell? ⟨w.heap.size + 1, 4, none⟩ = some (.int .i64 e.op.kind) := (hq.cell (p := ⟨w.heap.size + 1, 4, none⟩) (by (try simp only [World.heap_size_alloc, World.heap_size_drew, World.heap_size_setCell]); omega)).trans ce4
          have de5 : w3.cell? ⟨w.heap.size + 1, 5, none⟩ = some (.int .i64 e.op.a) := (hq.cell (p := ⟨w.heap.size + 1, 5, none⟩) (by (try simp only [World.heap_size_alloc, World.heap_size_drew, World.heap_size_setCell]); omega)).trans ce5
          have de6 : w3.cell? ⟨w.heap.size + 1, 6, none⟩ = some (.int .i64 e.op.b) := (hq.cell (p := ⟨w.heap.size + 1, 6, none⟩) (by (try simp only [World.heap_size_alloc, World.heap_size_drew, World.heap_size_setCell]); omega)).trans ce6
          have de7 : w3.cell? ⟨w.heap.size + 1, 7, none⟩ = some (.int .i64 e.op.c) := (hq.cell (p := ⟨w.heap.size + 1, 7, none⟩) (by (try simp only [World.heap_size_alloc, World.heap_size_drew, World.heap_size_setCell]); omega)).trans ce7
          have de8 : w3.cell? ⟨w.heap.size + 1, 8, none⟩ = some (.int .i64 e.op.d) := (hq.cell (p := ⟨w.heap.size + 1, 8, none⟩) (by (try simp only [World.heap_size_alloc, World.heap_size_drew, World.heap_size_setCell]); omega)).trans ce8
          have dm0 : w3.cell? ⟨w.heap.size + 1 + 1, 0, none⟩ = some (.int .i64 0) := (hq.cell (p := ⟨w.heap.size + 1 + 1, 0, none⟩) (by (try simp only [World.heap_size_alloc, World.heap_size_drew, World.heap_size_setCell]); omega)).trans ((World.cell?_alloc_lt _ _ _ (show w.heap.size + 1 + 1 < w2.heap.size by omega)).trans ((b2.cell (p := ⟨w.heap.size + 1 + 1, 0, none⟩) (show w.heap.size + 1 + 1 < w1.heap.size by omega)).trans am0))
          have dm1 : w3.cell? ⟨w.heap.size + 1 + 1, 1, none⟩ = some (.int .i64 0) := (hq.cell (p := ⟨w.heap.size + 1 + 1, 1, none⟩) (by (try simp only [World.heap_size_alloc, World.heap_size_drew, World.heap_size_setCell]); omega)).trans ((World.cell?_alloc_lt _ _ _ (show w.heap.size + 1 + 1 < w2.heap.size by omega)).trans ((b2.cell (p := ⟨w.heap.size + 1 + 1, 1, none⟩) (show w.heap.size + 1 + 1 < w1.heap.size by omega)).trans am1))
          have dm2 : w3.cell? ⟨w.heap.size + 1 + 1, 2, none⟩ = some (.slice none 0 0) := (hq.cell (p := ⟨w.heap.size + 1 + 1, 2, none⟩) (by (try simp only [World.heap_size_alloc, World.heap_size_drew, World.heap_size_setCell]); omega)).trans ((World.cell?_alloc_lt _ _ _ (show w.heap.size + 1 + 1 < w2.heap.size by omega)).trans ((b2.cell (p := ⟨w.heap.size + 1 + 1, 2, none⟩) (show w.heap.size + 1 + 1 < w1.heap.size by omega)).trans am2))
          have dz0 : w3.frozen? ⟨w.heap.size + 1 + 1, 0, none⟩ = false := (hq.frozen (p := ⟨w.heap.size + 1 + 1, 0, none⟩) (by (try simp only [World.heap_size_alloc, World.heap_size_drew, World.heap_size_setCell]); omega)).trans ((frozen_alloc_lt _ _ (p := ⟨w.heap.size + 1 + 1, 0, none⟩) (show w.heap.size + 1 + 1 < w2.heap.size by omega)).trans ((b2.frozen (p := ⟨w.heap.size + 1 + 1, 0, none⟩) (show w.heap.size + 1 + 1 < w1.heap.size by omega)).trans az0))
          have dz1 : w3.frozen? ⟨w.heap.size + 1 + 1, 1, none⟩ = false := (hq.frozen (p := ⟨w.heap.size + 1 + 1, 1, none⟩) (by (try simp only [World.heap_size_alloc, World.heap_size_drew, World.heap_size_setCell]); omega)).trans ((frozen_alloc_lt _ _ (p := ⟨w.heap.size + 1 + 1, 1, none⟩) (show w.heap.size + 1 + 1 < w2.heap.size by omega)).trans ((b2.frozen (p := ⟨w.heap.size + 1 + 1, 1, none⟩) (show w.heap.size + 1 + 1 < w1.heap.size by omega)).trans az1))
          have dz2 : w3.frozen? ⟨w.heap.size + 1 + 1, 2, none⟩ = false := (hq.frozen (p := ⟨w.heap.size + 1 + 1, 2, none⟩) (by (try simp only [World.heap_size_alloc, World.heap_size_drew, World.heap_size_setCell]); omega)).trans ((frozen_alloc_lt _ _ (p := ⟨w.heap.size + 1 + 1, 2, none⟩) (show w.heap.size + 1 + 1 < w2.heap.size by omega)).trans ((b2.frozen (p := ⟨w.heap.size + 1 + 1, 2, none⟩) (show w.heap.size + 1 + 1 < w1.heap.size by omega)).trans az2))
          have g0 : w3.cell? ⟨w2.heap.size, 0, none⟩ = some (.int .i64 b) := (hq.cell (p := ⟨w2.heap.size, 0, none⟩) (by (try simp only [World.heap_size_alloc, World.heap_size_drew, World.heap_size_setCell]); omega)).trans (by simp)
          have gz0 : w3.frozen? ⟨w2.heap.size, 0, none⟩ = false := (hq.frozen (p := ⟨w2.heap.size, 0, none⟩) (by (try simp only [World.heap_size_alloc, World.heap_size_drew, World.heap_size_setCell]); omega)).trans (by simp)
          have g1 : w3.cell? ⟨w2.heap.size, 1, none⟩ = some (.int .i64 t) := (hq.cell (p := ⟨w2.heap.size, 1, none⟩) (by (try simp only [World.heap_size_alloc, World.heap_size_drew, World.heap_size_setCell]); omega)).trans (by simp)
          have gz1 : w3.frozen? ⟨w2.heap.size, 1, none⟩ = false := (hq.frozen (p := ⟨w2.heap.size, 1, none⟩) (by (try simp only [World.heap_size_alloc, World.heap_size_drew, World.heap_size_setCell]); omega)).trans (by simp)
          have g2 : w3.cell? ⟨w2.heap.size, 2, none⟩ = some (.slice A2 n c2) := (hq.cell (p := ⟨w2.heap.size, 2, none⟩) (by (try simp only [World.heap_size_alloc, World.heap_size_drew, World.heap_size_setCell]); omega)).trans (by simp)
          have gz2 : w3.frozen? ⟨w2.heap.size, 2, none⟩ = false := (hq.frozen (p := ⟨w2.heap.size, 2, none⟩) (by (try simp only [World.heap_size_alloc, World.heap_size_drew, World.heap_size_setCell]); omega)).trans (by simp)
          clear ab0 ab1 ab2 ae0 ae1 ae2 ae3 ae4 ae5 ae6 ae7 ae8 am0 am1 am2 az0 az1 az2 cb0 fcb0 cb1 fcb1 cb2 fcb2 ce0 fce0 ce1 fce1 ce2 fce2 ce3 fce3 ce4 fce4 ce5 fce5 ce6 fce6 ce7 fce7 ce8 fce8
          go_wp2
          have O3 := HO2.out.kept (w' := w3) (((Below.refl _ _).alloc (Nat.le_refl _) _).trans (hq.mono (by (try simp only [World.heap_size_alloc, World.heap_size_drew, World.heap_size_setCell]); omega)))
          obtain ⟨_, _, e9, s3⟩ := O3.sl
          injection e9 with e9 _ e10
          subst e9 e10
          refine bodyPost_ret (v := .tuple #[.agg #[.int .i64 b, .int .i64 t, .slice A2 n c2], .bool false]) (by simp [results, Try.results41, go_sem, dm0, dm1, dm2, g0, g1, g2]) rfl ⟨A2, c2, rfl, ?_, ?_⟩
          · refine Sl.mono (Sl.upd (lo' := w.heap.size + 1 + 1) (hi' := w.heap.size + 1 + 1 + 1) s3 ?_ (.inr (by omega))) (by omega) (by (try simp only [World.heap_size_alloc, World.heap_size_drew, World.heap_size_setCell]); omega)
            (repeat' (first | with_reducible exact Upd.refl _ _ _ | with_reducible assumption | with_reducible refine Upd.drew ?_ | with_reducible refine Upd.alloc ?_ _ | with_reducible refine Upd.setCell ?_ ?_ ?_ _ | (simp only []; omega) | omega))
          · have c9 := hw3
            (repeat' (first | with_reducible exact Below.refl _ _ | with_reducible assumption | with_reducible refine Below.drew ?_ | with_reducible refine Below.alloc ?_ ?_ _ | with_reducible refine Below.setCell ?_ ?_ _ | with_reducible refine Below.trans ?_ (Below.mono (by assumption) ?_) | ((try simp only [World.heap_size_alloc, World.heap_size_drew, World.heap_size_setCell]); omega)))
      · have e0 : appendedM b t l e = (b, t, l, false) := by
          unfold appendedM
          rw [if_pos hok, if_neg (by simp [fitsM, HL.out, hix])]
        rw [e0]
        clear e0
        show Calls _ _ _ _ (BookBRes w b t l.length (l.flatMap EntryD.ints) false)
        rw [HL.out]
        obtain ⟨q0, q1, q2, q3, q4, _⟩ := bookOk_facts hok
        rw [HL.out] at q4
        have CO : ∀ W, Sl W lo hi 9 A n c (l.flatMap EntryD.ints) → Calls Try.prog 21 #[.agg #[.int .i64 b, .int .i64 t, .slice A n c]] W fun x w' => x = .returned (.bool true) ∧ Below W.heap.size W w' := fun W s => by
          have h7 := sBookOk_any b t A n c lo hi l W s
          rw [hok] at h7
          exact h7
        have HO := Lib.hid CO
        clear CO
        have HCP := Lib.hid (fun W s => l8CopyO_any b t A n c lo hi l W s (by omega))
        have HLA := Lib.hid (fun W => l8Last_any b t A n c W q0 q1 q4)
        have hw9 : IntKind.i64.wrap (b + (n : Int) + 1) = b + (n : Int) + 1 := IntWalk.i64_in _ (by omega)
        have CE : ∀ W, Calls Try.prog 71 #[.agg #[.int .i64 e.index, .int .i64 e.time, .int .i64 e.client, .int .i64 e.seq, .int .i64 e.op.kind, .int .i64 e.op.a, .int .i64 e.op.b, .int .i64 e.op.c, .int .i64 e.op.d]] W fun x w' => x = .returned (.bool true) ∧ Below W.heap.size W w' := fun W => by
          have h7 := sEntryOk_any e.index e.time e.client e.seq e.op.kind e.op.a e.op.b e.op.c e.op.d W
          rw [show entryOk ⟨e.index, e.time, e.client, e.seq, ⟨e.op.kind, e.op.a, e.op.b, e.op.c, e.op.d⟩⟩ = true from hek] at h7
          exact h7
        have HE := Lib.hid CE
        clear CE
        have dx : (e.index != b + (n : Int) + 1) = true := by simpa using hix
        have HIX := Lib.hid hix
        clear hok hek hix
        go_enter Try.func41, Try.ntmps41
        go_wp2_with fail
        (with_reducible refine (HO.out _ (h.below (B := w.heap.size) (by (repeat' (first | with_reducible exact Below.refl _ _ | with_reducible assumption | with_reducible refine Below.drew ?_ | with_reducible refine Below.alloc ?_ ?_ _ | with_reducible refine Below.setCell ?_ ?_ _ | with_reducible refine Below.trans ?_ (Below.mono (by assumption) ?_) | ((try simp only [World.heap_size_alloc, World.heap_size_drew, World.heap_size_setCell]); omega)))) hhi)).mono ?_); rintro _ w1 ⟨rfl, b1⟩
        have y1 := b1.size
        (try simp only [World.heap_size_alloc] at y1)
        have hw1 : Below w.heap.size w w1 := by (repeat' (first | with_reducible exact Below.refl _ _ | with_reducible assumption | with_reducible refine Below.drew ?_ | with_reducible refine Below.alloc ?_ ?_ _ | with_reducible refine Below.setCell ?_ ?_ _ | with_reducible refine Below.trans ?_ (Below.mono (by assumption) ?_) | ((try simp only [World.heap_size_alloc, World.heap_size_drew, World.heap_size_setCell]); omega)))
        have ab0 : w1.cell? ⟨w.heap.size, 0, none⟩ = some (.int .i64 b) := (b1.cell (p := ⟨w.heap.size, 0, none⟩) (by (try simp only [World.heap_size_alloc, World.heap_size_drew, World.heap_size_setCell]); omega)).trans (by simp [go_sem])
        have ab1 : w1.cell? ⟨w.heap.size, 1, none⟩ = some (.int .i64 t) := (b1.cell (p := ⟨w.heap.size, 1, none⟩) (by (try simp only [World.heap_size_alloc, World.heap_size_drew, World.heap_size_setCell]); omega)).trans (by simp [go_sem])
        have ab2 : w1.cell? ⟨w.heap.size, 2, none⟩ = some (.slice A n c) := (b1.cell (p := ⟨w.heap.size, 2, none⟩) (by (try simp only [World.heap_size_alloc, World.heap_size_drew, World.heap_size_setCell]); omega)).trans (by simp [go_sem])
        have ae0 : w1.cell? ⟨w.heap.size + 1, 0, none⟩ = some (.int .i64 e.index) := (b1.cell (p := ⟨w.heap.size + 1, 0, none⟩) (by (try simp only [World.heap_size_alloc, World.heap_size_drew, World.heap_size_setCell]); omega)).trans (by simp [go_sem])
        have ae1 : w1.cell? ⟨w.heap.size + 1, 1, none⟩ = some (.int .i64 e.time) := (b1.cell (p := ⟨w.heap.size + 1, 1, none⟩) (by (try simp only [World.heap_size_alloc, World.heap_size_drew, World.heap_size_setCell]); omega)).trans (by simp [go_sem])
        have ae2 : w1.cell? ⟨w.heap.size + 1, 2, none⟩ = some (.int .i64 e.client) := (b1.cell (p := ⟨w.heap.size + 1, 2, none⟩) (by (try simp only [World.heap_size_alloc, World.heap_size_drew, World.heap_size_setCell]); omega)).trans (by simp [go_sem])
        have ae3 : w1.cell? ⟨w.heap.size + 1, 3, none⟩ = some (.int .i64 e.seq) := (b1.cell (p := ⟨w.heap.size + 1, 3, none⟩) (by (try simp only [World.heap_size_alloc, World.heap_size_drew, World.heap_size_setCell]); omega)).trans (by simp [go_sem])
        have ae4 : w1.cell? ⟨w.heap.size + 1, 4, none⟩ = some (.int .i64 e.op.kind) := (b1.cell (p := ⟨w.heap.size + 1, 4, none⟩) (by (try simp only [World.heap_size_alloc, World.heap_size_drew, World.heap_size_setCell]); omega)).trans (by simp [go_sem])
        have ae5 : w1.cell? ⟨w.heap.size + 1, 5, none⟩ = some (.int .i64 e.op.a) := (b1.cell (p := ⟨w.heap.size + 1, 5, none⟩) (by (try simp only [World.heap_size_alloc, World.heap_size_drew, World.heap_size_setCell]); omega)).trans (by simp [go_sem])
        have ae6 : w1.cell? ⟨w.heap.size + 1, 6, none⟩ = some (.int .i64 e.op.b) := (b1.cell (p := ⟨w.heap.size + 1, 6, none⟩) (by (try simp only [World.heap_size_alloc, World.heap_size_drew, World.heap_size_setCell]); omega)).trans (by simp [go_sem])
        have ae7 : w1.cell? ⟨w.heap.size + 1, 7, none⟩ = some (.int .i64 e.op.c) := (b1.cell (p := ⟨w.heap.size + 1, 7, none⟩) (by (try simp only [World.heap_size_alloc, World.heap_size_drew, World.heap_size_setCell]); omega)).trans (by simp [go_sem])
        have ae8 : w1.cell? ⟨w.heap.size + 1, 8, none⟩ = some (.int .i64 e.op.d) := (b1.cell (p := ⟨w.heap.size + 1, 8, none⟩) (by (try simp only [World.heap_size_alloc, World.heap_size_drew, World.heap_size_setCell]); omega)).trans (by simp [go_sem])
        have am0 : w1.cell? ⟨w.heap.size + 1 + 1, 0, none⟩ = some (.int .i64 0) := (b1.cell (p := ⟨w.heap.size + 1 + 1, 0, none⟩) (by (try simp only [World.heap_size_alloc, World.heap_size_drew, World.heap_size_setCell]); omega)).trans (by simp [go_sem])
        have am1 : w1.cell? ⟨w.heap.size + 1 + 1, 1, none⟩ = some (.int .i64 0) := (b1.cell (p := ⟨w.heap.size + 1 + 1, 1, none⟩) (by (try simp only [World.heap_size_alloc, World.heap_size_drew, World.heap_size_setCell]); omega)).trans (by simp [go_sem])
        have am2 : w1.cell? ⟨w.heap.size + 1 + 1, 2, none⟩ = some (.slice none 0 0) := (b1.cell (p := ⟨w.heap.size + 1 + 1, 2, none⟩) (by (try simp only [World.heap_size_alloc, World.heap_size_drew, World.heap_size_setCell]); omega)).trans (by simp [go_sem])
        have az0 : w1.frozen? ⟨w.heap.size + 1 + 1, 0, none⟩ = false := (b1.frozen (p := ⟨w.heap.size + 1 + 1, 0, none⟩) (by (try simp only [World.heap_size_alloc, World.heap_size_drew, World.heap_size_setCell]); omega)).trans (by simp [go_sem])
        have az1 : w1.frozen? ⟨w.heap.size + 1 + 1, 1, none⟩ = false := (b1.frozen (p := ⟨w.heap.size + 1 + 1, 1, none⟩) (by (try simp only [World.heap_size_alloc, World.heap_size_drew, World.heap_size_setCell]); omega)).trans (by simp [go_sem])
        have az2 : w1.frozen? ⟨w.heap.size + 1 + 1, 2, none⟩ = false := (b1.frozen (p := ⟨w.heap.size + 1 + 1, 2, none⟩) (by (try simp only [World.heap_size_alloc, World.heap_size_drew, World.heap_size_setCell]); omega)).trans (by simp [go_sem])
        go_wp2_with fail
        (with_reducible refine (HCP.out _ (h.below hw1 hhi)).mono ?_); rintro _ w2 ⟨A2, c2, rfl, o2, b2⟩
        have y2 := b2.size
        have hz1 : w.heap.size + 1 + 1 < w1.heap.size := by omega
        have hw2 : Below w.heap.size w w2 := hw1.trans (b2.mono (by omega))
        have cb0 : (w2.alloc (.cells #[.int .i64 b, .int .i64 t, .slice A2 n c2] 29)).cell? ⟨w.heap.size, 0, none⟩ = some (.int .i64 b) := (World.cell?_alloc_lt _ _ _ (show w.heap.size < w2.heap.size by omega)).trans ((b2.cell (p := ⟨w.heap.size, 0, none⟩) (show w.heap.size < w1.heap.size by omega)).trans ab0)
        have fcb0 := fun d os => cell_regrown cb0 d os
        have cb1 : (w2.alloc (.cells #[.int .i64 b, .int .i64 t, .slice A2 n c2] 29)).cell? ⟨w.heap.size, 1, none⟩ = some (.int .i64 t) := (World.cell?_alloc_lt _ _ _ (show w.heap.size < w2.heap.size by omega)).trans ((b2.cell (p := ⟨w.heap.size, 1, none⟩) (show w.heap.size < w1.heap.size by omega)).trans ab1)
        have fcb1 := fun d os => cell_regrown cb1 d os
        have cb2 : (w2.alloc (.cells #[.int .i64 b, .int .i64 t, .slice A2 n c2] 29)).cell? ⟨w.heap.size, 2, none⟩ = some (.slice A n c) := (World.cell?_alloc_lt _ _ _ (show w.heap.size < w2.heap.size by omega)).trans ((b2.cell (p := ⟨w.heap.size, 2, none⟩) (show w.heap.size < w1.heap.size by omega)).trans ab2)
        have fcb2 := fun d os => cell_regrown cb2 d os
        have ce0 : (w2.alloc (.cells #[.int .i64 b, .int .i64 t, .slice A2 n c2] 29)).cell? ⟨w.heap.size + 1, 0, none⟩ = some (.int .i64 e.index) := (World.cell?_alloc_lt _ _ _ (show w.heap.size + 1 < w2.heap.size by omega)).trans ((b2.cell (p := ⟨w.heap.size + 1, 0, none⟩) (show w.heap.size + 1 < w1.heap.size by omega)).trans ae0)
        have fce0 := fun d os => cell_regrown ce0 d os
        have ce1 : (w2.alloc (.cells #[.int .i64 b, .int .i64 t, .slice A2 n c2] 29)).cell? ⟨w.heap.size + 1, 1, none⟩ = some (.int .i64 e.time) := (World.cell?_alloc_lt _ _ _ (show w.heap.size + 1 < w2.heap.size by omega)).trans ((b2.cell (p := ⟨w.heap.size + 1, 1, none⟩) (show w.heap.size + 1 < w1.heap.size by omega)).trans ae1)
        have fce1 := fun d os => cell_regrown ce1 d os
        have ce2 : (w2.alloc (.cells #[.int .i64 b, .int .i64 t, .slice A2 n c2] 29)).cell? ⟨w.heap.size + 1, 2, none⟩ = some (.int .i64 e.client) := (World.cell?_alloc_lt _ _ _ (show w.heap.size + 1 < w2.heap.size by omega)).trans ((b2.cell (p := ⟨w.heap.size + 1, 2, none⟩) (show w.heap.size + 1 < w1.heap.size by omega)).trans ae2)
        have fce2 := fun d os => cell_regrown ce2 d os
        have ce3 : (w2.alloc (.cells #[.int .i64 b, .int .i64 t, .slice A2 n c2] 29)).cell? ⟨w.heap.size + 1, 3, none⟩ = some (.int .i64 e.seq) := (World.cell?_alloc_lt _ _ _ (show w.heap.size + 1 < w2.heap.size by omega)).trans ((b2.cell (p := ⟨w.heap.size + 1, 3, none⟩) (show w.heap.size + 1 < w1.heap.size by omega)).trans ae3)
        have fce3 := fun d os => cell_regrown ce3 d os
        have ce4 : (w2.alloc (.cells #[.int .i64 b, .int .i64 t, .slice A2 n c2] 29)).cell? ⟨w.heap.size + 1, 4, none⟩ = some (.int .i64 e.op.kind) := (World.cell?_alloc_lt _ _ _ (show w.heap.size + 1 < w2.heap.size by omega)).trans ((b2.cell (p := ⟨w.heap.size + 1, 4, none⟩) (show w.heap.size + 1 < w1.heap.size by omega)).trans ae4)
        have fce4 := fun d os => cell_regrown ce4 d os
        have ce5 : (w2.alloc (.cells #[.int .i64 b, .int .i64 t, .slice A2 n c2] 29)).cell? ⟨w.heap.size + 1, 5, none⟩ = some (.int .i64 e.op.a) := (World.cell?_alloc_lt _ _ _ (show w.heap.size + 1 < w2.heap.size by omega)).trans ((b2.cell (p := ⟨w.heap.size + 1, 5, none⟩) (show w.heap.size + 1 < w1.heap.size by omega)).trans ae5)
        have fce5 := fun d os => cell_regrown ce5 d os
        have ce6 : (w2.alloc (.cells #[.int .i64 b, .int .i64 t, .slice A2 n c2] 29)).cell? ⟨w.heap.size + 1, 6, none⟩ = some (.int .i64 e.op.b) := (World.cell?_alloc_lt _ _ _ (show w.heap.size + 1 < w2.heap.size by omega)).trans ((b2.cell (p := ⟨w.heap.size + 1, 6, none⟩) (show w.heap.size + 1 < w1.heap.size by omega)).trans ae6)
        have fce6 := fun d os => cell_regrown ce6 d os
        have ce7 : (w2.alloc (.cells #[.int .i64 b, .int .i64 t, .slice A2 n c2] 29)).cell? ⟨w.heap.size + 1, 7, none⟩ = some (.int .i64 e.op.c) := (World.cell?_alloc_lt _ _ _ (show w.heap.size + 1 < w2.heap.size by omega)).trans ((b2.cell (p := ⟨w.heap.size + 1, 7, none⟩) (show w.heap.size + 1 < w1.heap.size by omega)).trans ae7)
        have fce7 := fun d os => cell_regrown ce7 d os
        have ce8 : (w2.alloc (.cells #[.int .i64 b, .int .i64 t, .slice A2 n c2] 29)).cell? ⟨w.heap.size + 1, 8, none⟩ = some (.int .i64 e.op.d) := (World.cell?_alloc_lt _ _ _ (show w.heap.size + 1 < w2.heap.size by omega)).trans ((b2.cell (p := ⟨w.heap.size + 1, 8, none⟩) (show w.heap.size + 1 < w1.heap.size by omega)).trans ae8)
        have fce8 := fun d os => cell_regrown ce8 d os
        have HO2 := Lib.hid o2
        clear o2
        have S0 := Lib.hid (h.below (B := w.heap.size) (w' := (w2.alloc (.cells #[.int .i64 b, .int .i64 t, .slice A2 n c2] 29))) (hw2.alloc (by omega) _) hhi)
        have hhi1 : hi ≤ (w2.alloc (.cells #[.int .i64 b, .int .i64 t, .slice A2 n c2] 29)).heap.size := by (try simp only [World.heap_size_alloc, World.heap_size_drew, World.heap_size_setCell]); omega
        go_wp2_with fail
        refine wp_region_quiet_below (by kernel_rfl) (by kernel_rfl) ?_; (repeat (first | go_big_quiet_step ((first | (go_at_call 71; with_reducible exact Calls.regrown_of (HE.out _)) | (go_at_call 62; with_reducible exact Calls.regrown_of (HLA.out _)))) | quiet_step ((first | (go_at_call 71; with_reducible exact Calls.regrown_of (HE.out _)) | (go_at_call 62; with_reducible exact Calls.regrown_of (HLA.out _)))))); refine wpQuiet_nil ?_; intro _ hw'; obtain ⟨⟨nq, osq⟩, hw''⟩ := hw'; subst hw''; have hq := below_regrown (w2.alloc (.cells #[.int .i64 b, .int .i64 t, .slice A2 n c2] 29)) nq osq; generalize Sort.grow (redrawn (w2.alloc (.cells #[.int .i64 b, .int .i64 t, .slice A2 n c2] 29)) nq) osq = w3 at *
        have y3 := hq.size
        simp only [World.heap_size_alloc] at y3
        have hw3 : Below w.heap.size w w3 := hw2.trans (((Below.refl _ _).alloc (by omega) _).trans (hq.mono (by (try simp only [World.heap_size_alloc, World.heap_size_drew, World.heap_size_setCell]); omega)))
        have de0 : w3.cell? ⟨w.heap.size + 1, 0, none⟩ = some (.int .i64 e.index) := (hq.cell (p := ⟨w.heap.size + 1, 0, none⟩) (by (try simp only [World.heap_size_alloc, World.heap_size_drew, World.heap_size_setCell]); omega)).trans ce0
        have de1 : w3.cell? ⟨w.heap.size + 1, 1, none⟩ = some (.int .i64 e.time) := (hq.cell (p := ⟨w.heap.size + 1, 1, none⟩) (by (try simp only [World.heap_size_alloc, World.heap_size_drew, World.heap_size_setCell]); omega)).trans ce1
        have de2 : w3.cell? ⟨w.heap.size + 1, 2, none⟩ = some (.int .i64 e.client) := (hq.cell (p := ⟨w.heap.size + 1, 2, none⟩) (by (try simp only [World.heap_size_alloc, World.heap_size_drew, World.heap_size_setCell]); omega)).trans ce2
        have de3 : w3.cell? ⟨w.heap.size + 1, 3, none⟩ = some (.int .i64 e.seq) := (hq.cell (p := ⟨w.heap.size + 1, 3, none⟩) (by (try simp only [World.heap_size_alloc, World.heap_size_drew, World.heap_size_setCell]); omega)).trans ce3
        have de4 : w3.cell? ⟨w.heap.size + 1, 4, none⟩ = some (.int .i64 e.op.kind) := (hq.cell (p := ⟨w.heap.size + 1, 4, none⟩) (by (try simp only [World.heap_size_alloc, World.heap_size_drew, World.heap_size_setCell]); omega)).trans ce4
        have de5 : w3.cell? ⟨w.heap.size + 1, 5, none⟩ = some (.int .i64 e.op.a) := (hq.cell (p := ⟨w.heap.size + 1, 5, none⟩) (by (try simp only [World.heap_size_alloc, World.heap_size_drew, World.heap_size_setCell]); omega)).trans ce5
        have de6 : w3.cell? ⟨w.heap.size + 1, 6, none⟩ = some (.int .i64 e.op.b) := (hq.cell (p := ⟨w.heap.size + 1, 6, none⟩) (by (try simp only [World.heap_size_alloc, World.heap_size_drew, World.heap_size_setCell]); omega)).trans ce6
        have de7 : w3.cell? ⟨w.heap.size + 1, 7, none⟩ = some (.int .i64 e.op.c) := (hq.cell (p := ⟨w.heap.size + 1, 7, none⟩) (by (try simp only [World.heap_size_alloc, World.heap_size_drew, World.heap_size_setCell]); omega)).trans ce7
        have de8 : w3.cell? ⟨w.heap.size + 1, 8, none⟩ = some (.int .i64 e.op.d) := (hq.cell (p := ⟨w.heap.size + 1, 8, none⟩) (by (try simp only [World.heap_size_alloc, World.heap_size_drew, World.heap_size_setCell]); omega)).trans ce8
        have dm0 : w3.cell? ⟨w.heap.size + 1 + 1, 0, none⟩ = some (.int .i64 0) := (hq.cell (p := ⟨w.heap.size + 1 + 1, 0, none⟩) (by (try simp only [World.heap_size_alloc, World.heap_size_drew, World.heap_size_setCell]); omega)).trans ((World.cell?_alloc_lt _ _ _ (show w.heap.size + 1 + 1 < w2.heap.size by omega)).trans ((b2.cell (p := ⟨w.heap.size + 1 + 1, 0, none⟩) (show w.heap.size + 1 + 1 < w1.heap.size by omega)).trans am0))
        have dm1 : w3.cell? ⟨w.heap.size + 1 + 1, 1, none⟩ = some (.int .i64 0) := (hq.cell (p := ⟨w.heap.size + 1 + 1, 1, none⟩) (by (try simp only [World.heap_size_alloc, World.heap_size_drew, World.heap_size_setCell]); omega)).trans ((World.cell?_alloc_lt _ _ _ (show w.heap.size + 1 + 1 < w2.heap.size by omega)).trans ((b2.cell (p := ⟨w.heap.size + 1 + 1, 1, none⟩) (show w.heap.size + 1 + 1 < w1.heap.size by omega)).trans am1))
        have dm2 : w3.cell? ⟨w.heap.size + 1 + 1, 2, none⟩ = some (.slice none 0 0) := (hq.cell (p := ⟨w.heap.size + 1 + 1, 2, none⟩) (by (try simp only [World.heap_size_alloc, World.heap_size_drew, World.heap_size_setCell]); omega)).trans ((World.cell?_alloc_lt _ _ _ (show w.heap.size + 1 + 1 < w2.heap.size by omega)).trans ((b2.cell (p := ⟨w.heap.size + 1 + 1, 2, none⟩) (show w.heap.size + 1 + 1 < w1.heap.size by omega)).trans am2))
        have dz0 : w3.frozen? ⟨w.heap.size + 1 + 1, 0, none⟩ = false := (hq.frozen (p := ⟨w.heap.size + 1 + 1, 0, none⟩) (by (try simp only [World.heap_size_alloc, World.heap_size_drew, World.heap_size_setCell]); omega)).trans ((frozen_alloc_lt _ _ (p := ⟨w.heap.size + 1 + 1, 0, none⟩) (show w.heap.size + 1 + 1 < w2.heap.size by omega)).trans ((b2.frozen (p := ⟨w.heap.size + 1 + 1, 0, none⟩) (show w.heap.size + 1 + 1 < w1.heap.size by omega)).trans az0))
        have dz1 : w3.frozen? ⟨w.heap.size + 1 + 1, 1, none⟩ = false := (hq.frozen (p := ⟨w.heap.size + 1 + 1, 1, none⟩) (by (try simp only [World.heap_size_alloc, World.heap_size_drew, World.heap_size_setCell]); omega)).trans ((frozen_alloc_lt _ _ (p := ⟨w.heap.size + 1 + 1, 1, none⟩) (show w.heap.size + 1 + 1 < w2.heap.size by omega)).trans ((b2.frozen (p := ⟨w.heap.size + 1 + 1, 1, none⟩) (show w.heap.size + 1 + 1 < w1.heap.size by omega)).trans az1))
        have dz2 : w3.frozen? ⟨w.heap.size + 1 + 1, 2, none⟩ = false := (hq.frozen (p := ⟨w.heap.size + 1 + 1, 2, none⟩) (by (try simp only [World.heap_size_alloc, World.heap_size_drew, World.heap_size_setCell]); omega)).trans ((frozen_alloc_lt _ _ (p := ⟨w.heap.size + 1 + 1, 2, none⟩) (show w.heap.size + 1 + 1 < w2.heap.size by omega)).trans ((b2.frozen (p := ⟨w.heap.size + 1 + 1, 2, none⟩) (show w.heap.size + 1 + 1 < w1.heap.size by omega)).trans az2))
        have g0 : w3.cell? ⟨w2.heap.size, 0, none⟩ = some (.int .i64 b) := (hq.cell (p := ⟨w2.heap.size, 0, none⟩) (by (try simp only [World.heap_size_alloc, World.heap_size_drew, World.heap_size_setCell]); omega)).trans (by simp)
        have gz0 : w3.frozen? ⟨w2.heap.size, 0, none⟩ = false := (hq.frozen (p := ⟨w2.heap.size, 0, none⟩) (by (try simp only [World.heap_size_alloc, World.heap_size_drew, World.heap_size_setCell]); omega)).trans (by simp)
        have g1 : w3.cell? ⟨w2.heap.size, 1, none⟩ = some (.int .i64 t) := (hq.cell (p := ⟨w2.heap.size, 1, none⟩) (by (try simp only [World.heap_size_alloc, World.heap_size_drew, World.heap_size_setCell]); omega)).trans (by simp)
        have gz1 : w3.frozen? ⟨w2.heap.size, 1, none⟩ = false := (hq.frozen (p := ⟨w2.heap.size, 1, none⟩) (by (try simp only [World.heap_size_alloc, World.heap_size_drew, World.heap_size_setCell]); omega)).trans (by simp)
        have g2 : w3.cell? ⟨w2.heap.size, 2, none⟩ = some (.slice A2 n c2) := (hq.cell (p := ⟨w2.heap.size, 2, none⟩) (by (try simp only [World.heap_size_alloc, World.heap_size_drew, World.heap_size_setCell]); omega)).trans (by simp)
        have gz2 : w3.frozen? ⟨w2.heap.size, 2, none⟩ = false := (hq.frozen (p := ⟨w2.heap.size, 2, none⟩) (by (try simp only [World.heap_size_alloc, World.heap_size_drew, World.heap_size_setCell]); omega)).trans (by simp)
        clear ab0 ab1 ab2 ae0 ae1 ae2 ae3 ae4 ae5 ae6 ae7 ae8 am0 am1 am2 az0 az1 az2 cb0 fcb0 cb1 fcb1 cb2 fcb2 ce0 fce0 ce1 fce1 ce2 fce2 ce3 fce3 ce4 fce4 ce5 fce5 ce6 fce6 ce7 fce7 ce8 fce8
        go_wp2
        have O3 := HO2.out.kept (w' := w3) (((Below.refl _ _).alloc (Nat.le_refl _) _).trans (hq.mono (by (try simp only [World.heap_size_alloc, World.heap_size_drew, World.heap_size_setCell]); omega)))
        obtain ⟨_, _, e9, s3⟩ := O3.sl
        injection e9 with e9 _ e10
        subst e9 e10
        refine bodyPost_ret (v := .tuple #[.agg #[.int .i64 b, .int .i64 t, .slice A2 n c2], .bool false]) (by simp [results, Try.results41, go_sem, dm0, dm1, dm2, g0, g1, g2]) rfl ⟨A2, c2, rfl, ?_, ?_⟩
        · refine Sl.mono (Sl.upd (lo' := w.heap.size + 1 + 1) (hi' := w.heap.size + 1 + 1 + 1) s3 ?_ (.inr (by omega))) (by omega) (by (try simp only [World.heap_size_alloc, World.heap_size_drew, World.heap_size_setCell]); omega)
          (repeat' (first | with_reducible exact Upd.refl _ _ _ | with_reducible assumption | with_reducible refine Upd.drew ?_ | with_reducible refine Upd.alloc ?_ _ | with_reducible refine Upd.setCell ?_ ?_ ?_ _ | (simp only []; omega) | omega))
        · have c9 := hw3
          (repeat' (first | with_reducible exact Below.refl _ _ | with_reducible assumption | with_reducible refine Below.drew ?_ | with_reducible refine Below.alloc ?_ ?_ _ | with_reducible refine Below.setCell ?_ ?_ _ | with_reducible refine Below.trans ?_ (Below.mono (by assumption) ?_) | ((try simp only [World.heap_size_alloc, World.heap_size_drew, World.heap_size_setCell]); omega)))

end Go.Proofs.Ytijefbmnhcecmaa
