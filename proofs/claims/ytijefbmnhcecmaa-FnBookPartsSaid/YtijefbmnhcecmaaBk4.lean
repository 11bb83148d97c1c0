/- Books: the entry at an index. No conditions. -/
import Derived.Test.YtijefbmnhcecmaaBk3
set_option linter.unusedSimpArgs false
set_option linter.unusedVariables false
namespace Go.Proofs.Ytijefbmnhcecmaa
open Go.RowKit

/-- An entry by value and a truth. -/
def EntryVBRes (w : World) (r : EntryD × Bool) (e : Ending) (w' : World) : Prop := e = .returned (.tuple #[.agg #[.int .i64 r.1.index, .int .i64 r.1.time, .int .i64 r.1.client, .int .i64 r.1.seq, .int .i64 r.1.op.kind, .int .i64 r.1.op.a, .int .i64 r.1.op.b, .int .i64 r.1.op.c, .int .i64 r.1.op.d], .bool r.2]) ∧ Below w.heap.size w w'
set_option maxRecDepth 100000 in
set_option maxHeartbeats 2000000 in
theorem sEntryAt_any (b t : Int) (A : Option Addr) (n c lo hi : Nat) (l : List EntryD) (x : Int) (w : World) (h : Sl w lo hi 9 A n c (l.flatMap EntryD.ints)) :
    Calls Try.prog 23 #[.agg #[.int .i64 b, .int .i64 t, .slice A n c], .int .i64 x] w (EntryVBRes w (entryAtM b t l x)) := by
  have HL := Lib.hid (h.count EntryD.ints_len (by omega) : l.length = n)
  replace h := h.fit (by omega)
  have hhi : min hi w.heap.size ≤ w.heap.size := Nat.min_le_right _ _
  generalize min hi w.heap.size = hi at h hhi
  cases hok : bookOk b t l with
  | false =>
    have e0 : entryAtM b t l x = (zeroEntry, false) := by simp [entryAtM, hok]
    rw [e0]
    clear e0
    have CO : ∀ W, Sl W lo hi 9 A n c (l.flatMap EntryD.ints) → Calls Try.prog 21 #[.agg #[.int .i64 b, .int .i64 t, .slice A n c]] W fun x w' => x = .returned (.bool false) ∧ Below W.heap.size W w' := fun W s => by
      have h7 := sBookOk_any b t A n c lo hi l W s
      rw [hok] at h7
      exact h7
    have HO := Lib.hid CO
    clear CO
    clear hok
    go_enter Try.func23, Try.ntmps23
    go_wp2_with fail
    have v0 : ((w.alloc (.cells #[.int .i64 b, .int .i64 t, .slice A n c] 29)).alloc (.cells #[.int .i64 0, .int .i64 0, .int .i64 0, .int .i64 0, .int .i64 0, .int .i64 0, .int .i64 0, .int .i64 0, .int .i64 0] 37)).cell? ⟨w.heap.size, 0, none⟩ = some (.int .i64 b) := by simp
    have fv0 := fun d os => cell_regrown v0 d os
    have v1 : ((w.alloc (.cells #[.int .i64 b, .int .i64 t, .slice A n c] 29)).alloc (.cells #[.int .i64 0, .int .i64 0, .int .i64 0, .int .i64 0, .int .i64 0, .int .i64 0, .int .i64 0, .int .i64 0, .int .i64 0] 37)).cell? ⟨w.heap.size, 1, none⟩ = some (.int .i64 t) := by simp
    have fv1 := fun d os => cell_regrown v1 d os
    have v2 : ((w.alloc (.cells #[.int .i64 b, .int .i64 t, .slice A n c] 29)).alloc (.cells #[.int .i64 0, .int .i64 0, .int .i64 0, .int .i64 0, .int .i64 0, .int .i64 0, .int .i64 0, .int .i64 0, .int .i64 0] 37)).cell? ⟨w.heap.size, 2, none⟩ = some (.slice A n c) := by simp
    have fv2 := fun d os => cell_regrown v2 d os
    have S0 := Lib.hid (h.below (B := w.heap.size) (w' := ((w.alloc (.cells #[.int .i64 b, .int .i64 t, .slice A n c] 29)).alloc (.cells #[.int .i64 0, .int .i64 0, .int .i64 0, .int .i64 0, .int .i64 0, .int .i64 0, .int .i64 0, .int .i64 0, .int .i64 0] 37))) (by (repeat' (first | with_reducible exact Below.refl _ _ | with_reducible assumption | with_reducible refine Below.drew ?_ | with_reducible refine Below.alloc ?_ ?_ _ | with_reducible refine Below.setCell ?_ ?_ _ | with_reducible refine Below.trans ?_ (Below.mono (by assumption) ?_) | ((try simp only [World.heap_size_alloc, World.heap_size_drew, World.heap_size_setCell]); omega)))) hhi)
    have hhi1 : hi ≤ ((w.alloc (.cells #[.int .i64 b, .int .i64 t, .slice A n c] 29)).alloc (.cells #[.int .i64 0, .int .i64 0, .int .i64 0, .int .i64 0, .int .i64 0, .int .i64 0, .int .i64 0, .int .i64 0, .int .i64 0] 37)).heap.size := by (try simp only [World.heap_size_alloc, World.heap_size_drew, World.heap_size_setCell]); omega
    refine wp_region_quiet_below (by kernel_rfl) (by kernel_rfl) ?_; (repeat (first | go_big_quiet_step ((go_at_call 21; exact Calls.regrown_of (HO.out _ (S0.out.below (below_regrown _ _ _) hhi1)))) | quiet_step ((go_at_call 21; exact Calls.regrown_of (HO.out _ (S0.out.below (below_regrown _ _ _) hhi1)))))); refine wpQuiet_nil ?_; intro _ hw'; obtain ⟨⟨nq, osq⟩, hw''⟩ := hw'; subst hw''; have hq := below_regrown ((w.alloc (.cells #[.int .i64 b, .int .i64 t, .slice A n c] 29)).alloc (.cells #[.int .i64 0, .int .i64 0, .int .i64 0, .int .i64 0, .int .i64 0, .int .i64 0, .int .i64 0, .int .i64 0, .int .i64 0] 37)) nq osq; generalize Sort.grow (redrawn ((w.alloc (.cells #[.int .i64 b, .int .i64 t, .slice A n c] 29)).alloc (.cells #[.int .i64 0, .int .i64 0, .int .i64 0, .int .i64 0, .int .i64 0, .int .i64 0, .int .i64 0, .int .i64 0, .int .i64 0] 37)) nq) osq = w3 at *
    have y3 := hq.size
    simp only [World.heap_size_alloc] at y3
    have hw3 : Below w.heap.size w w3 := by (repeat' (first | with_reducible exact Below.refl _ _ | with_reducible assumption | with_reducible refine Below.drew ?_ | with_reducible refine Below.alloc ?_ ?_ _ | with_reducible refine Below.setCell ?_ ?_ _ | with_reducible refine Below.trans ?_ (Below.mono (by assumption) ?_) | ((try simp only [World.heap_size_alloc, World.heap_size_drew, World.heap_size_setCell]); omega)))
    have u0 := (hq.cell (p := ⟨w.heap.size, 0, none⟩) (by (try simp only [World.heap_size_alloc, World.heap_size_drew, World.heap_size_setCell]); omega)).trans v0
    have u1 := (hq.cell (p := ⟨w.heap.size, 1, none⟩) (by (try simp only [World.heap_size_alloc, World.heap_size_drew, World.heap_size_setCell]); omega)).trans v1
    have u2 := (hq.cell (p := ⟨w.heap.size, 2, none⟩) (by (try simp only [World.heap_size_alloc, World.heap_size_drew, World.heap_size_setCell]); omega)).trans v2
    have k0 : w3.cell? ⟨w.heap.size + 1, 0, none⟩ = some (.int .i64 0) := (hq.cell (p := ⟨w.heap.size + 1, 0, none⟩) (by (try simp only [World.heap_size_alloc, World.heap_size_drew, World.heap_size_setCell]); omega)).trans (by simp)
    have g0 : w3.frozen? ⟨w.heap.size + 1, 0, none⟩ = false := (hq.frozen (p := ⟨w.heap.size + 1, 0, none⟩) (by (try simp only [World.heap_size_alloc, World.heap_size_drew, World.heap_size_setCell]); omega)).trans (by simp)
    have k1 : w3.cell? ⟨w.heap.size + 1, 1, none⟩ = some (.int .i64 0) := (hq.cell (p := ⟨w.heap.size + 1, 1, none⟩) (by (try simp only [World.heap_size_alloc, World.heap_size_drew, World.heap_size_setCell]); omega)).trans (by simp)
    have g1 : w3.frozen? ⟨w.heap.size + 1, 1, none⟩ = false := (hq.frozen (p := ⟨w.heap.size + 1, 1, none⟩) (by (try simp only [World.heap_size_alloc, World.heap_size_drew, World.heap_size_setCell]); omega)).trans (by simp)
    have k2 : w3.cell? ⟨w.heap.size + 1, 2, none⟩ = some (.int .i64 0) := (hq.cell (p := ⟨w.heap.size + 1, 2, none⟩) (by (try simp only [World.heap_size_alloc, World.heap_size_drew, World.heap_size_setCell]); omega)).trans (by simp)
    have g2 : w3.frozen? ⟨w.heap.size + 1, 2, none⟩ = false := (hq.frozen (p := ⟨w.heap.size + 1, 2, none⟩) (by (try simp only [World.heap_size_alloc, World.heap_size_drew, World.heap_size_setCell]); omega)).trans (by simp)
    have k3 : w3.cell? ⟨w.heap.size + 1, 3, none⟩ = some (.int .i64 0) := (hq.cell (p := ⟨w.heap.size + 1, 3, none⟩) (by (try simp only [World.heap_size_alloc, World.heap_size_drew, World.heap_size_setCell]); omega)).trans (by simp)
    have g3 : w3.frozen? ⟨w.heap.size + 1, 3, none⟩ = false := (hq.frozen (p := ⟨w.heap.size + 1, 3, none⟩) (by (try simp only [World.heap_size_alloc, World.heap_size_drew, World.heap_size_setCell]); omega)).trans (by simp)
    have k4 : w3.cell? ⟨w.heap.size + 1, 4, none⟩ = some (.int .i64 0) := (hq.cell (p := ⟨w.heap.size + 1, 4, none⟩) (by (try simp only [World.heap_size_alloc, World.heap_size_drew, World.heap_size_setCell]); omega)).trans (by simp)
    have g4 : w3.frozen? ⟨w.heap.size + 1, 4, none⟩ = false := (hq.frozen (p := ⟨w.heap.size + 1, 4, none⟩) (by (try simp only [World.heap_size_alloc, World.heap_size_drew, World.heap_size_setCell]); omega)).trans (by simp)
    have k5 : w3.cell? ⟨w.heap.size + 1, 5, none⟩ = some (.int .i64 0) := (hq.cell (p := ⟨w.heap.size + 1, 5, none⟩) (by (try simp only [World.heap_size_alloc, World.heap_size_drew, World.heap_size_setCell]); omega)).trans (by simp)
    have g5 : w3.frozen? ⟨w.heap.size + 1, 5, none⟩ = false := (hq.frozen (p := ⟨w.heap.size + 1, 5, none⟩) (by (try simp only [World.heap_size_alloc, World.heap_size_drew, World.heap_size_setCell]); omega)).trans (by simp)
    have k6 : w3.cell? ⟨w.heap.size + 1, 6, none⟩ = some (.int .i64 0) := (hq.cell (p := ⟨w.heap.size + 1, 6, none⟩) (by (try simp only [World.heap_size_alloc, World.heap_size_drew, World.heap_size_setCell]); omega)).trans (by simp)
    have g6 : w3.frozen? ⟨w.heap.size + 1, 6, none⟩ = false := (hq.frozen (p := ⟨w.heap.size + 1, 6, none⟩) (by (try simp only [World.heap_size_alloc, World.heap_size_drew, World.heap_size_setCell]); omega)).trans (by simp)
    have k7 : w3.cell? ⟨w.heap.size + 1, 7, none⟩ = some (.int .i64 0) := (hq.cell (p := ⟨w.heap.size + 1, 7, none⟩) (by (try simp only [World.heap_size_alloc, World.heap_size_drew, World.heap_size_setCell]); omega)).trans (by simp)
    have g7 : w3.frozen? ⟨w.heap.size + 1, 7, none⟩ = false := (hq.frozen (p := ⟨w.heap.size + 1, 7, none⟩) (by (try simp only [World.heap_size_alloc, World.heap_size_drew, World.heap_size_setCell]); omega)).trans (by simp)
    have k8 : w3.cell? ⟨w.heap.size + 1, 8, none⟩ = some (.int .i64 0) := (hq.cell (p := ⟨w.heap.size + 1, 8, none⟩) (by (try simp only [World.heap_size_alloc, World.heap_size_drew, World.heap_size_setCell]); omega)).trans (by simp)
    have g8 : w3.frozen? ⟨w.heap.size + 1, 8, none⟩ = false := (hq.frozen (p := ⟨w.heap.size + 1, 8, none⟩) (by (try simp only [World.heap_size_alloc, World.heap_size_drew, World.heap_size_setCell]); omega)).trans (by simp)
    clear v0 v1 v2 fv0 fv1 fv2
    go_wp2
    refine bodyPost_ret (v := .tuple #[.agg #[.int .i64 0, .int .i64 0, .int .i64 0, .int .i64 0, .int .i64 0, .int .i64 0, .int .i64 0, .int .i64 0, .int .i64 0], .bool false]) (by simp [results, Try.results23, go_sem, k0, k1, k2, k3, k4, k5, k6, k7, k8]) rfl ⟨rfl, ?_⟩
    (repeat' (first | with_reducible exact Below.refl _ _ | with_reducible assumption | with_reducible refine Below.drew ?_ | with_reducible refine Below.alloc ?_ ?_ _ | with_reducible refine Below.setCell ?_ ?_ _ | with_reducible refine Below.trans ?_ (Below.mono (by assumption) ?_) | ((try simp only [World.heap_size_alloc, World.heap_size_drew, World.heap_size_setCell]); omega)))
  | true =>
    cases hbt : btw x (b + 1) (b + (n : Int)) with
    | false =>
      have e0 : entryAtM b t l x = (zeroEntry, false) := by simp [entryAtM, hok, HL.out, hbt]
      rw [e0]
      clear e0
      obtain ⟨q0, q1, q2, q3, q4, _⟩ := bookOk_facts hok
      rw [HL.out] at q4
      have HLA := Lib.hid (fun W => l8Last_any b t A n c W q0 q1 q4)
      have CO : ∀ W, Sl W lo hi 9 A n c (l.flatMap EntryD.ints) → Calls Try.prog 21 #[.agg #[.int .i64 b, .int .i64 t, .slice A n c]] W fun x w' => x = .returned (.bool true) ∧ Below W.heap.size W w' := fun W s => by
        have h7 := sBookOk_any b t A n c lo hi l W s
        rw [hok] at h7
        exact h7
      have HO := Lib.hid CO
      clear CO
      have hw9 : IntKind.i64.wrap (b + 1) = b + 1 := IntWalk.i64_in _ (by omega)
      have CB : ∀ W, Calls Try.prog 56 #[.int .i64 x, .int .i64 (b + 1), .int .i64 (b + (n : Int))] W fun y w' => y = .returned (.bool false) ∧ Below W.heap.size W w' := fun W => (l1In_any x (b + 1) (b + (n : Int)) W).mono fun y w' ⟨h1, h2⟩ => ⟨by rw [h1, hbt], by rw [← h2]; exact Below.refl _ _⟩
      have HBT := Lib.hid CB
      clear CB
      clear hok hbt
      go_enter Try.func23, Try.ntmps23
      go_wp2_with fail
      have v0 : ((w.alloc (.cells #[.int .i64 b, .int .i64 t, .slice A n c] 29)).alloc (.cells #[.int .i64 0, .int .i64 0, .int .i64 0, .int .i64 0, .int .i64 0, .int .i64 0, .int .i64 0, .int .i64 0, .int .i64 0] 37)).cell? ⟨w.heap.size, 0, none⟩ = some (.int .i64 b) := by simp
      have fv0 := fun d os => cell_regrown v0 d os
      have v1 : ((w.alloc (.cells #[.int .i64 b, .int .i64 t, .slice A n c] 29)).alloc (.cells #[.int .i64 0, .int .i64 0, .int .i64 0, .int .i64 0, .int .i64 0, .int .i64 0, .int .i64 0, .int .i64 0, .int .i64 0] 37)).cell? ⟨w.heap.size, 1, none⟩ = some (.int .i64 t) := by simp
      have fv1 := fun d os => cell_regrown v1 d os
      have v2 : ((w.alloc (.cells #[.int .i64 b, .int .i64 t, .slice A n c] 29)).alloc (.cells #[.int .i64 0, .int .i64 0, .int .i64 0, .int .i64 0, .int .i64 0, .int .i64 0, .int .i64 0, .int .i64 0, .int .i64 0] 37)).cell? ⟨w.heap.size, 2, none⟩ = some (.slice A n c) := by simp
      have fv2 := fun d os => cell_regrown v2 d os
      have S0 := Lib.hid (h.below (B := w.heap.size) (w' := ((w.alloc (.cells #[.int .i64 b, .int .i64 t, .slice A n c] 29)).alloc (.cells #[.int .i64 0, .int .i64 0, .int .i64 0, .int .i64 0, .int .i64 0, .int .i64 0, .int .i64 0, .int .i64 0, .int .i64 0] 37))) (by (repeat' (first | with_reducible exact Below.refl _ _ | with_reducible assumption | with_reducible refine Below.drew ?_ | with_reducible refine Below.alloc ?_ ?_ _ | with_reducible refine Below.setCell ?_ ?_ _ | with_reducible refine Below.trans ?_ (Below.mono (by assumption) ?_) | ((try simp only [World.heap_size_alloc, World.heap_size_drew, World.heap_size_setCell]); omega)))) hhi)
      have hhi1 : hi ≤ ((w.alloc (.cells #[.int .i64 b, .int .i64 t, .slice A n c] 29)).alloc (.cells #[.int .i64 0, .int .i64 0, .int .i64 0, .int .i64 0, .int .i64 0, .int .i64 0, .int .i64 0, .int .i64 0, .int .i64 0] 37)).heap.size := by (try simp only [World.heap_size_alloc, World.heap_size_drew, World.heap_size_setCell]); omega
      refine wp_region_quiet_below (by kernel_rfl) (by kernel_rfl) ?_; (repeat (first | go_big_quiet_step ((first | (go_at_call 21; exact Calls.regrown_of (HO.out _ (S0.out.below (below_regrown _ _ _) hhi1))) | (go_at_call 62; exact Calls.regrown_of (HLA.out _)) | (go_at_call 56; exact Calls.regrown_of (HBT.out _)))) | quiet_step ((first | (go_at_call 21; exact Calls.regrown_of (HO.out _ (S0.out.below (below_regrown _ _ _) hhi1))) | (go_at_call 62; exact Calls.regrown_of (HLA.out _)) | (go_at_call 56; exact Calls.regrown_of (HBT.out _)))))); refine wpQuiet_nil ?_; intro _ hw'; obtain ⟨⟨nq, osq⟩, hw''⟩ := hw'; subst hw''; have hq := below_regrown ((w.alloc (.cells #[.int .i64 b, .int .i64 t, .slice A n c] 29)).alloc (.cells #[.int .i64 0, .int .i64 0, .int .i64 0, .int .i64 0, .int .i64 0, .int .i64 0, .int .i64 0, .int .i64 0, .int .i64 0] 37)) nq osq; generalize Sort.grow (redrawn ((w.alloc (.cells #[.int .i64 b, .int .i64 t, .slice A n c] 29)).alloc (.cells #[.int .i64 0, .int .i64 0, .int .i64 0, .int .i64 0, .int .i64 0, .int .i64 0, .int .i64 0, .int .i64 0, .int .i64 0] 37)) nq) osq = w3 at *
      have y3 := hq.size
      simp only [World.heap_size_alloc] at y3
      have hw3 : Below w.heap.size w w3 := by (repeat' (first | with_reducible exact Below.refl _ _ | with_reducible assumption | with_reducible refine Below.drew ?_ | with_reducible refine Below.alloc ?_ ?_ _ | with_reducible refine Below.setCell ?_ ?_ _ | with_reducible refine Below.trans ?_ (Below.mono (by assumption) ?_) | ((try simp only [World.heap_size_alloc, World.heap_size_drew, World.heap_size_setCell]); omega)))
      have u0 := (hq.cell (p := ⟨w.heap.size, 0, none⟩) (by (try simp only [World.heap_size_alloc, World.heap_size_drew, World.heap_size_setCell]); omega)).trans v0
      have u1 := (hq.cell (p := ⟨w.heap.size, 1, none⟩) (by (try simp only [World.heap_size_alloc, World.heap_size_drew, World.heap_size_setCell]); omega)).trans v1
      have u2 := (hq.cell (p := ⟨w.heap.size, 2, none⟩) (by (try simp only [World.heap_size_alloc, World.heap_size_drew, World.heap_size_setCell]); omega)).trans v2
      have k0 : w3.cell? ⟨w.heap.size + 1, 0, none⟩ = some (.int .i64 0) := (hq.cell (p := ⟨w.heap.size + 1, 0, none⟩) (by (try simp only [World.heap_size_alloc, World.heap_size_drew, World.heap_size_setCell]); omega)).trans (by simp)
      have g0 : w3.frozen? ⟨w.heap.size + 1, 0, none⟩ = false := (hq.frozen (p := ⟨w.heap.size + 1, 0, none⟩) (by (try simp only [World.heap_size_alloc, World.heap_size_drew, World.heap_size_setCell]); omega)).trans (by simp)
      have k1 : w3.cell? ⟨w.heap.size + 1, 1, none⟩ = some (.int .i64 0) := (hq.cell (p := ⟨w.heap.size + 1, 1, none⟩) (by (try simp only [World.heap_size_alloc, World.heap_size_drew, World.heap_size_setCell]); omega)).trans (by simp)
      have g1 : w3.frozen? ⟨w.heap.size + 1, 1, none⟩ = false := (hq.frozen (p := ⟨w.heap.size + 1, 1, none⟩) (by (try simp only [World.heap_size_alloc, World.heap_size_drew, World.heap_size_setCell]); omega)).trans (by simp)
      have k2 : w3.cell? ⟨w.heap.size + 1, 2, none⟩ = some (.int .i64 0) := (hq.cell (p := ⟨w.heap.size + 1, 2, none⟩) (by (try simp only [World.heap_size_alloc, World.heap_size_drew, World.heap_size_setCell]); omega)).trans (by simp)
      have g2 : w3.frozen? ⟨w.heap.size + 1, 2, none⟩ = false := (hq.frozen (p := ⟨w.heap.size + 1, 2, none⟩) (by (try simp only [World.heap_size_alloc, World.heap_size_drew, World.heap_size_setCell]); omega)).trans (by simp)
      have k3 : w3.cell? ⟨w.heap.size + 1, 3, none⟩ = some (.int .i64 0) := (hq.cell (p := ⟨w.heap.size + 1, 3, none⟩) (by (try simp only [World.heap_size_alloc, World.heap_size_drew, World.heap_size_setCell]); omega)).trans (by simp)
      have g3 : w3.frozen? ⟨w.heap.size + 1, 3, none⟩ = false := (hq.frozen (p := ⟨w.heap.size + 1, 3, none⟩) (by (try simp only [World.heap_size_alloc, World.heap_size_drew, World.heap_size_setCell]); omega)).trans (by simp)
      have k4 : w3.cell? ⟨w.heap.size + 1, 4, none⟩ = some (.int .i64 0) := (hq.cell (p := ⟨w.heap.size + 1, 4, none⟩) (by (try simp only [World.heap_size_alloc, World.heap_size_drew, World.heap_size_setCell]); omega)).trans (by simp)
      have g4 : w3.frozen? ⟨w.heap.size + 1, 4, none⟩ = false := (hq.frozen (p := ⟨w.heap.size + 1, 4, none⟩) (by (try simp only [World.heap_size_alloc, World.heap_size_drew, World.heap_size_setCell]); omega)).trans (by simp)
      have k5 : w3.cell? ⟨w.heap.size + 1, 5, none⟩ = some (.int .i64 0) := (hq.cell (p := ⟨w.heap.size + 1, 5, none⟩) (by (try simp only [World.heap_size_alloc, World.heap_size_drew, World.heap_size_setCell]); omega)).trans (by simp)
      have g5 : w3.frozen? ⟨w.heap.size + 1, 5, none⟩ = false := (hq.frozen (p := ⟨w.heap.size + 1, 5, none⟩) (by (try simp only [World.heap_size_alloc, World.heap_size_drew, World.heap_size_setCell]); omega)).trans (by simp)
      have k6 : w3.cell? ⟨w.heap.size + 1, 6, none⟩ = some (.int .i64 0) := (hq.cell (p := ⟨w.heap.size + 1, 6, none⟩) (by (try simp only [World.heap_size_alloc, World.heap_size_drew, World.heap_size_setCell]); omega)).trans (by simp)
      have g6 : w3.frozen? ⟨w.heap.size + 1, 6, none⟩ = false := (hq.frozen (p := ⟨w.heap.size + 1, 6, none⟩) (by (try simp only [World.heap_size_alloc, World.heap_size_drew, World.heap_size_setCell]); omega)).trans (by simp)
      have k7 : w3.cell? ⟨w.heap.size + 1, 7, none⟩ = some (.int .i64 0) := (hq.cell (p := ⟨w.heap.size + 1, 7, none⟩) (by (try simp only [World.heap_size_alloc, World.heap_size_drew, World.heap_size_setCell]); omega)).trans (by simp)
      have g7 : w3.frozen? ⟨w.heap.size + 1, 7, none⟩ = false := (hq.frozen (p := ⟨w.heap.size + 1, 7, none⟩) (by (try simp only [World.heap_size_alloc, World.heap_size_drew, World.heap_size_setCell]); omega)).trans (by simp)
      have k8 : w3.cell? ⟨w.heap.size + 1, 8, none⟩ = some (.int .i64 0) := (hq.cell (p := ⟨w.heap.size + 1, 8, none⟩) (by (try simp only [World.heap_size_alloc, World.heap_size_drew, World.heap_size_setCell]); omega)).trans (by simp)
      have g8 : w3.frozen? ⟨w.heap.size + 1, 8, none⟩ = false := (hq.frozen (p := ⟨w.heap.size + 1, 8, none⟩) (by (try simp only [World.heap_size_alloc, World.heap_size_drew, World.heap_size_setCell]); omega)).trans (by simp)
      clear v0 v1 v2 fv0 fv1 fv2
      clear hw9
      go_wp2
      refine bodyPost_ret (v := .tuple #[.agg #[.int .i64 0, .int .i64 0, .int .i64 0, .int .i64 0, .int .i64 0, .int .i64 0, .int .i64 0, .int .i64 0, .int .i64 0], .bool false]) (by simp [results, Try.results23, go_sem, k0, k1, k2, k3, k4, k5, k6, k7, k8]) rfl ⟨rfl, ?_⟩
      (repeat' (first | with_reducible exact Below.refl _ _ | with_reducible assumption | with_reducible refine Below.drew ?_ | with_reducible refine Below.alloc ?_ ?_ _ | with_reducible refine Below.setCell ?_ ?_ _ | with_reducible refine Below.trans ?_ (Below.mono (by assumption) ?_) | ((try simp only [World.heap_size_alloc, World.heap_size_drew, World.heap_size_setCell]); omega)))
    | true =>
      obtain ⟨xb0, xb1⟩ := btw_iff.1 hbt
      obtain ⟨j, hj⟩ := Int.eq_ofNat_of_zero_le (show 0 ≤ x - b - 1 by omega)
      have hjn : j < n := by omega
      obtain ⟨g, off, e, rfl, _, hg, he, p0, p1, p2, p3, p4, p5, p6, p7, p8⟩ := h.entry hjn
      have hgw : g < w.heap.size := by omega
      have e0 : entryAtM b t l x = (e, true) := by
        have : (x - b - 1).toNat = j := by omega
        simp [entryAtM, hok, HL.out, hbt, this, he]
      rw [e0]
      clear e0
      obtain ⟨q0, q1, q2, q3, q4, _⟩ := bookOk_facts hok
      rw [HL.out] at q4
      have HLA := Lib.hid (fun W => l8Last_any b t (some ⟨g, off, none⟩) n c W q0 q1 q4)
      have CO : ∀ W, Sl W lo hi 9 (some ⟨g, off, none⟩) n c (l.flatMap EntryD.ints) → Calls Try.prog 21 #[.agg #[.int .i64 b, .int .i64 t, .slice (some ⟨g, off, none⟩) n c]] W fun x w' => x = .returned (.bool true) ∧ Below W.heap.size W w' := fun W s => by
        have h7 := sBookOk_any b t (some ⟨g, off, none⟩) n c lo hi l W s
        rw [hok] at h7
        exact h7
      have HO := Lib.hid CO
      clear CO
      have hw9 : IntKind.i64.wrap (b + 1) = b + 1 := IntWalk.i64_in _ (by omega)
      have CB : ∀ W, Calls Try.prog 56 #[.int .i64 x, .int .i64 (b + 1), .int .i64 (b + (n : Int))] W fun y w' => y = .returned (.bool true) ∧ Below W.heap.size W w' := fun W => (l1In_any x (b + 1) (b + (n : Int)) W).mono fun y w' ⟨h1, h2⟩ => ⟨by rw [h1, hbt], by rw [← h2]; exact Below.refl _ _⟩
      have HBT := Lib.hid CB
      clear CB
      clear hok hbt
      go_enter Try.func23, Try.ntmps23
      go_wp2_with fail
      have v0 : ((w.alloc (.cells #[.int .i64 b, .int .i64 t, .slice (some ⟨g, off, none⟩) n c] 29)).alloc (.cells #[.int .i64 0, .int .i64 0, .int .i64 0, .int .i64 0, .int .i64 0, .int .i64 0, .int .i64 0, .int .i64 0, .int .i64 0] 37)).cell? ⟨w.heap.size, 0, none⟩ = some (.int .i64 b) := by simp
      have fv0 := fun d os => cell_regrown v0 d os
      have v1 : ((w.alloc (.cells #[.int .i64 b, .int .i64 t, .slice (some ⟨g, off, none⟩) n c] 29)).alloc (.cells #[.int .i64 0, .int .i64 0, .int .i64 0, .int .i64 0, .int .i64 0, .int .i64 0, .int .i64 0, .int .i64 0, .int .i64 0] 37)).cell? ⟨w.heap.size, 1, none⟩ = some (.int .i64 t) := by simp
      have fv1 := fun d os => cell_regrown v1 d os
      have v2 : ((w.alloc (.cells #[.int .i64 b, .int .i64 t, .slice (some ⟨g, off, none⟩) n c] 29)).alloc (.cells #[.int .i64 0, .int .i64 0, .int .i64 0, .int .i64 0, .int .i64 0, .int .i64 0, .int .i64 0, .int .i64 0, .int .i64 0] 37)).cell? ⟨w.heap.size, 2, none⟩ = some (.slice (some ⟨g, off, none⟩) n c) := by simp
      have fv2 := fun d os => cell_regrown v2 d os
      have S0 := Lib.hid (h.below (B := w.heap.size) (w' := ((w.alloc (.cells #[.int .i64 b, .int .i64 t, .slice (some ⟨g, off, none⟩) n c] 29)).alloc (.cells #[.int .i64 0, .int .i64 0, .int .i64 0, .int .i64 0, .int .i64 0, .int .i64 0, .int .i64 0, .int .i64 0, .int .i64 0] 37))) (by (repeat' (first | with_reducible exact Below.refl _ _ | with_reducible assumption | with_reducible refine Below.drew ?_ | with_reducible refine Below.alloc ?_ ?_ _ | with_reducible refine Below.setCell ?_ ?_ _ | with_reducible refine Below.trans ?_ (Below.mono (by assumption) ?_) | ((try simp only [World.heap_size_alloc, World.heap_size_drew, World.heap_size_setCell]); omega)))) hhi)
      have hhi1 : hi ≤ ((w.alloc (.cells #[.int .i64 b, .int .i64 t, .slice (some ⟨g, off, none⟩) n c] 29)).alloc (.cells #[.int .i64 0, .int .i64 0, .int .i64 0, .int .i64 0, .int .i64 0, .int .i64 0, .int .i64 0, .int .i64 0, .int .i64 0] 37)).heap.size := by (try simp only [World.heap_size_alloc, World.heap_size_drew, World.heap_size_setCell]); omega
      refine wp_region_quiet_below (by kernel_rfl) (by kernel_rfl) ?_; (repeat (first | go_big_quiet_step ((first | (go_at_call 21; exact Calls.regrown_of (HO.out _ (S0.out.below (below_regrown _ _ _) hhi1))) | (go_at_call 62; exact Calls.regrown_of (HLA.out _)) | (go_at_call 56; exact Calls.regrown_of (HBT.out _)))) | quiet_step ((first | (go_at_call 21; exact Calls.regrown_of (HO.out _ (S0.out.below (below_regrown _ _ _) hhi1))) | (go_at_call 62; exact Calls.regrown_of (HLA.out _)) | (go_at_call 56; exact Calls.regrown_of (HBT.out _)))))); refine wpQuiet_nil ?_; intro _ hw'; obtain ⟨⟨nq, osq⟩, hw''⟩ := hw'; subst hw''; have hq := below_regrown ((w.alloc (.cells #[.int .i64 b, .int .i64 t, .slice (some ⟨g, off, none⟩) n c] 29)).alloc (.cells #[.int .i64 0, .int .i64 0, .int .i64 0, .int .i64 0, .int .i64 0, .int .i64 0, .int .i64 0, .int .i64 0, .int .i64 0] 37)) nq osq; generalize Sort.grow (redrawn ((w.alloc (.cells #[.int .i64 b, .int .i64 t, .slice (some ⟨g, off, none⟩) n c] 29)).alloc (.cells #[.int .i64 0, .int .i64 0, .int .i64 0, .int .i64 0, .int .i64 0, .int .i64 0, .int .i64 0, .int .i64 0, .int .i64 0] 37)) nq) osq = w3 at *
      have y3 := hq.size
      simp only [World.heap_size_alloc] at y3
      have hw3 : Below w.heap.size w w3 := by (repeat' (first | with_reducible exact Below.refl _ _ | with_reducible assumption | with_reducible refine Below.drew ?_ | with_reducible refine Below.alloc ?_ ?_ _ | with_reducible refine Below.setCell ?_ ?_ _ | with_reducible refine Below.trans ?_ (Below.mono (by assumption) ?_) | ((try simp only [World.heap_size_alloc, World.heap_size_drew, World.heap_size_setCell]); omega)))
      have u0 := (hq.cell (p := ⟨w.heap.size, 0, none⟩) (by (try simp only [World.heap_size_alloc, World.heap_size_drew, World.heap_size_setCell]); omega)).trans v0
      have u1 := (hq.cell (p := ⟨w.heap.size, 1, none⟩) (by (try simp only [World.heap_size_alloc, World.heap_size_drew, World.heap_size_setCell]); omega)).trans v1
      have u2 := (hq.cell (p := ⟨w.heap.size, 2, none⟩) (by (try simp only [World.heap_size_alloc, World.heap_size_drew, World.heap_size_setCell]); omega)).trans v2
      have k0 : w3.cell? ⟨w.heap.size + 1, 0, none⟩ = some (.int .i64 0) := (hq.cell (p := ⟨w.heap.size + 1, 0, none⟩) (by (try simp only [World.heap_size_alloc, World.heap_size_drew, World.heap_size_setCell]); omega)).trans (by simp)
      have g0 : w3.frozen? ⟨w.heap.size + 1, 0, none⟩ = false := (hq.frozen (p := ⟨w.heap.size + 1, 0, none⟩) (by (try simp only [World.heap_size_alloc, World.heap_size_drew, World.heap_size_setCell]); omega)).trans (by simp)
      have k1 : w3.cell? ⟨w.heap.size + 1, 1, none⟩ = some (.int .i64 0) := (hq.cell (p := ⟨w.heap.size + 1, 1, none⟩) (by (try simp only [World.heap_size_alloc, World.heap_size_drew, World.heap_size_setCell]); omega)).trans (by simp)
      have g1 : w3.frozen? ⟨w.heap.size + 1, 1, none⟩ = false := (hq.frozen (p := ⟨w.heap.size + 1, 1, none⟩) (by (try simp only [World.heap_size_alloc, World.heap_size_drew, World.heap_size_setCell]); omega)).trans (by simp)
      have k2 : w3.cell? ⟨w.heap.size + 1, 2, none⟩ = some (.int .i64 0) := (hq.cell (p := ⟨w.heap.size + 1, 2, none⟩) (by (try simp only [World.heap_size_alloc, World.heap_size_drew, World.heap_size_setCell]); omega)).trans (by simp)
      have g2 : w3.frozen? ⟨w.heap.size + 1, 2, none⟩ = false := (hq.frozen (p := ⟨w.heap.size + 1, 2, none⟩) (by (try simp only [World.heap_size_alloc, World.heap_size_drew, World.heap_size_setCell]); omega)).trans (by simp)
      have k3 : w3.cell? ⟨w.heap.size + 1, 3, none⟩ = some (.int .i64 0) := (hq.cell (p := ⟨w.heap.size + 1, 3, none⟩) (by (try simp only [World.heap_size_alloc, World.heap_size_drew, World.heap_size_setCell]); omega)).trans (by simp)
      have g3 : w3.frozen? ⟨w.heap.size + 1, 3, none⟩ = false := (hq.frozen (p := ⟨w.heap.size + 1, 3, none⟩) (by (try simp only [World.heap_size_alloc, World.heap_size_drew, World.heap_size_setCell]); omega)).trans (by simp)
      have k4 : w3.cell? ⟨w.heap.size + 1, 4, none⟩ = some (.int .i64 0) := (hq.cell (p := ⟨w.heap.size + 1, 4, none⟩) (by (try simp only [World.heap_size_alloc, World.heap_size_drew, World.heap_size_setCell]); omega)).trans (by simp)
      have g4 : w3.frozen? ⟨w.heap.size + 1, 4, none⟩ = false := (hq.frozen (p := ⟨w.heap.size + 1, 4, none⟩) (by (try simp only [World.heap_size_alloc, World.heap_size_drew, World.heap_size_setCell]); omega)).trans (by simp)
      have k5 : w3.cell? ⟨w.heap.size + 1, 5, none⟩ = some (.int .i64 0) := (hq.cell (p := ⟨w.heap.size + 1, 5, none⟩) (by (try simp only [World.heap_size_alloc, World.heap_size_drew, World.heap_size_setCell]); omega)).trans (by simp)
      have g5 : w3.frozen? ⟨w.heap.size + 1, 5, none⟩ = false := (hq.frozen (p := ⟨w.heap.size + 1, 5, none⟩) (by (try simp only [World.heap_size_alloc, World.heap_size_drew, World.heap_size_setCell]); omega)).trans (by simp)
      have k6 : w3.cell? ⟨w.heap.size + 1, 6, none⟩ = some (.int .i64 0) := (hq.cell (p := ⟨w.heap.size + 1, 6, none⟩) (by (try simp only [World.heap_size_alloc, World.heap_size_drew, World.heap_size_setCell]); omega)).trans (by simp)
      have g6 : w3.frozen? ⟨w.heap.size + 1, 6, none⟩ = false := (hq.frozen (p := ⟨w.heap.size + 1, 6, none⟩) (by (try simp only [World.heap_size_alloc, World.heap_size_drew, World.heap_size_setCell]); omega)).trans (by simp)
      have k7 : w3.cell? ⟨w.heap.size + 1, 7, none⟩ = some (.int .i64 0) := (hq.cell (p := ⟨w.heap.size + 1, 7, none⟩) (by (try simp only [World.heap_size_alloc, World.heap_size_drew, World.heap_size_setCell]); omega)).trans (by simp)
      have g7 : w3.frozen? ⟨w.heap.size + 1, 7, none⟩ = false := (hq.frozen (p := ⟨w.heap.size + 1, 7, none⟩) (by (try simp only [World.heap_size_alloc, World.heap_size_drew, World.heap_size_setCell]); omega)).trans (by simp)
      have k8 : w3.cell? ⟨w.heap.size + 1, 8, none⟩ = some (.int .i64 0) := (hq.cell (p := ⟨w.heap.size + 1, 8, none⟩) (by (try simp only [World.heap_size_alloc, World.heap_size_drew, World.heap_size_setCell]); omega)).trans (by simp)
      have g8 : w3.frozen? ⟨w.heap.size + 1, 8, none⟩ = false := (hq.frozen (p := ⟨w.heap.size + 1, 8, none⟩) (by (try simp only [World.heap_size_alloc, World.heap_size_drew, World.heap_size_setCell]); omega)).trans (by simp)
      clear v0 v1 v2 fv0 fv1 fv2
      clear hw9
      have r0 := (hw3.cell (p := ⟨g, off + j * 9, none⟩) hgw).trans p0
      have r1 := (hw3.cell (p := ⟨g, off + j * 9 + 1, none⟩) hgw).trans p1
      have r2 := (hw3.cell (p := ⟨g, off + j * 9 + 2, none⟩) hgw).trans p2
      have r3 := (hw3.cell (p := ⟨g, off + j * 9 + 3, none⟩) hgw).trans p3
      have r4 := (hw3.cell (p := ⟨g, off + j * 9 + 4, none⟩) hgw).trans p4
      have r5 := (hw3.cell (p := ⟨g, off + j * 9 + 5, none⟩) hgw).trans p5
      have r6 := (hw3.cell (p := ⟨g, off + j * 9 + 6, none⟩) hgw).trans p6
      have r7 := (hw3.cell (p := ⟨g, off + j * 9 + 7, none⟩) hgw).trans p7
      have r8 := (hw3.cell (p := ⟨g, off + j * 9 + 8, none⟩) hgw).trans p8
      have hx1 : x - b - 1 = (j : Int) := hj
      have hx2 : x = b + 1 + (j : Int) := by omega
      clear hj hx1 he p0 p1 p2 p3 p4 p5 p6 p7 p8
      subst hx2
      have hx3 : b + 1 + (j : Int) - b = (j : Int) + 1 := by omega
      have hx4 : b + 1 + (j : Int) - b - 1 = (j : Int) := by omega
      have hx5 : ((j : Nat) : Int) < (n : Int) := by omega
      go_wp2
      refine bodyPost_ret (v := .tuple #[.agg #[.int .i64 e.index, .int .i64 e.time, .int .i64 e.client, .int .i64 e.seq, .int .i64 e.op.kind, .int .i64 e.op.a, .int .i64 e.op.b, .int .i64 e.op.c, .int .i64 e.op.d], .bool true]) (by simp [results, Try.results23, go_sem, k0, k1, k2, k3, k4, k5, k6, k7, k8]) rfl ⟨rfl, ?_⟩
      (repeat' (first | with_reducible exact Below.refl _ _ | with_reducible assumption | with_reducible refine Below.drew ?_ | with_reducible refine Below.alloc ?_ ?_ _ | with_reducible refine Below.setCell ?_ ?_ _ | with_reducible refine Below.trans ?_ (Below.mono (by assumption) ?_) | ((try simp only [World.heap_size_alloc, World.heap_size_drew, World.heap_size_setCell]); omega)))
set_option maxRecDepth 100000 in
set_option maxHeartbeats 2000000 in
theorem entryAt_any (b t : Int) (A : Option Addr) (n c lo hi : Nat) (l : List EntryD) (x : Int) (w : World) (h : Sl w lo hi 9 A n c (l.flatMap EntryD.ints)) :
    Calls Try.prog 24 #[.agg #[.int .i64 b, .int .i64 t, .slice A n c], .int .i64 x] w (EntryVBRes w (entryAtM b t l x)) := by
  have HL := Lib.hid (h.count EntryD.ints_len (by omega) : l.length = n)
  replace h := h.fit (by omega)
  have hhi : min hi w.heap.size ≤ w.heap.size := Nat.min_le_right _ _
  generalize min hi w.heap.size = hi at h hhi
  cases hok : bookOk b t l with
  | false =>
    have e0 : entryAtM b t l x = (zeroEntry, false) := by simp [entryAtM, hok]
    rw [e0]
    clear e0
    have CO : ∀ W, Sl W lo hi 9 A n c (l.flatMap EntryD.ints) → Calls Try.prog 22 #[.agg #[.int .i64 b, .int .i64 t, .slice A n c]] W fun x w' => x = .returned (.bool false) ∧ Below W.heap.size W w' := fun W s => by
      have h7 := bookOk_any b t A n c lo hi l W s
      rw [hok] at h7
      exact h7
    have HO := Lib.hid CO
    clear CO
    clear hok
    go_enter Try.func24, Try.ntmps24
    go_wp2_with fail
    have v0 : ((w.alloc (.cells #[.int .i64 b, .int .i64 t, .slice A n c] 29)).alloc (.cells #[.int .i64 0, .int .i64 0, .int .i64 0, .int .i64 0, .int .i64 0, .int .i64 0, .int .i64 0, .int .i64 0, .int .i64 0] 37)).cell? ⟨w.heap.size, 0, none⟩ = some (.int .i64 b) := by simp
    have fv0 := fun d os => cell_regrown v0 d os
    have v1 : ((w.alloc (.cells #[.int .i64 b, .int .i64 t, .slice A n c] 29)).alloc (.cells #[.int .i64 0, .int .i64 0, .int .i64 0, .int .i64 0, .int .i64 0, .int .i64 0, .int .i64 0, .int .i64 0, .int .i64 0] 37)).cell? ⟨w.heap.size, 1, none⟩ = some (.int .i64 t) := by simp
    have fv1 := fun d os => cell_regrown v1 d os
    have v2 : ((w.alloc (.cells #[.int .i64 b, .int .i64 t, .slice A n c] 29)).alloc (.cells #[.int .i64 0, .int .i64 0, .int .i64 0, .int .i64 0, .int .i64 0, .int .i64 0, .int .i64 0, .int .i64 0, .int .i64 0] 37)).cell? ⟨w.heap.size, 2, none⟩ = some (.slice A n c) := by simp
    have fv2 := fun d os => cell_regrown v2 d os
    have S0 := Lib.hid (h.below (B := w.heap.size) (w' := ((w.alloc (.cells #[.int .i64 b, .int .i64 t, .slice A n c] 29)).alloc (.cells #[.int .i64 0, .int .i64 0, .int .i64 0, .int .i64 0, .int .i64 0, .int .i64 0, .int .i64 0, .int .i64 0, .int .i64 0] 37))) (by (repeat' (first | with_reducible exact Below.refl _ _ | with_reducible assumption | with_reducible refine Below.drew ?_ | with_reducible refine Below.alloc ?_ ?_ _ | with_reducible refine Below.setCell ?_ ?_ _ | with_reducible refine Below.trans ?_ (Below.mono (by assumption) ?_) | ((try simp only [World.heap_size_alloc, World.heap_size_drew, World.heap_size_setCell]); omega)))) hhi)
    have hhi1 : hi ≤ ((w.alloc (.cells #[.int .i64 b, .int .i64 t, .slice A n c] 29)).alloc (.cells #[.int .i64 0, .int .i64 0, .int .i64 0, .int .i64 0, .int .i64 0, .int .i64 0, .int .i64 0, .int .i64 0, .int .i64 0] 37)).heap.size := by (try simp only [World.heap_size_alloc, World.heap_size_drew, World.heap_size_setCell]); omega
    refine wp_region_quiet_below (by kernel_rfl) (by kernel_rfl) ?_; (repeat (first | go_big_quiet_step ((go_at_call 22; exact Calls.regrown_of (HO.out _ (S0.out.below (below_regrown _ _ _) hhi1)))) | quiet_step ((go_at_call 22; exact Calls.regrown_of (HO.out _ (S0.out.below (below_regrown _ _ _) hhi1)))))); refine wpQuiet_nil ?_; intro _ hw'; obtain ⟨⟨nq, osq⟩, hw''⟩ := hw'; subst hw''; have hq := below_regrown ((w.alloc (.cells #[.int .i64 b, .int .i64 t, .slice A n c] 29)).alloc (.cells #[.int .i64 0, .int .i64 0, .int .i64 0, .int .i64 0, .int .i64 0, .int .i64 0, .int .i64 0, .int .i64 0, .int .i64 0] 37)) nq osq; generalize Sort.grow (redrawn ((w.alloc (.cells #[.int .i64 b, .int .i64 t, .slice A n c] 29)).alloc (.cells #[.int .i64 0, .int .i64 0, .int .i64 0, .int .i64 0, .int .i64 0, .int .i64 0, .int .i64 0, .int .i64 0, .int .i64 0] 37)) nq) osq = w3 at *
    have y3 := hq.size
    simp only [World.heap_size_alloc] at y3
    have hw3 : Below w.heap.size w w3 := by (repeat' (first | with_reducible exact Below.refl _ _ | with_reducible assumption | with_reducible refine Below.drew ?_ | with_reducible refine Below.alloc ?_ ?_ _ | with_reducible refine Below.setCell ?_ ?_ _ | with_reducible refine Below.trans ?_ (Below.mono (by assumption) ?_) | ((try simp only [World.heap_size_alloc, World.heap_size_drew, World.heap_size_setCell]); omega)))
    have u0 := (hq.cell (p := ⟨w.heap.size, 0, none⟩) (by (try simp only [World.heap_size_alloc, World.heap_size_drew, World.heap_size_setCell]); omega)).trans v0
    have u1 := (hq.cell (p := ⟨w.heap.size, 1, none⟩) (by (try simp only [World.heap_size_alloc, World.heap_size_drew, World.heap_size_setCell]); omega)).trans v1
    have u2 := (hq.cell (p := ⟨w.heap.size, 2, none⟩) (by (try simp only [World.heap_size_alloc, World.heap_size_drew, World.heap_size_setCell]); omega)).trans v2
    have k0 : w3.cell? ⟨w.heap.size + 1, 0, none⟩ = some (.int .i64 0) := (hq.cell (p := ⟨w.heap.size + 1, 0, none⟩) (by (try simp only [World.heap_size_alloc, World.heap_size_drew, World.heap_size_setCell]); omega)).trans (by simp)
    have g0 : w3.frozen? ⟨w.heap.size + 1, 0, none⟩ = false := (hq.frozen (p := ⟨w.heap.size + 1, 0, none⟩) (by (try simp only [World.heap_size_alloc, World.heap_size_drew, World.heap_size_setCell]); omega)).trans (by simp)
    have k1 : w3.cell? ⟨w.heap.size + 1, 1, none⟩ = some (.int .i64 0) := (hq.cell (p := ⟨w.heap.size + 1, 1, none⟩) (by (try simp only [World.heap_size_alloc, World.heap_size_drew, World.heap_size_setCell]); omega)).trans (by simp)
    have g1 : w3.frozen? ⟨w.heap.size + 1, 1, none⟩ = false := (hq.frozen (p := ⟨w.heap.size + 1, 1, none⟩) (by (try simp only [World.heap_size_alloc, World.heap_size_drew, World.heap_size_setCell]); omega)).trans (by simp)
    have k2 : w3.cell? ⟨w.heap.size + 1, 2, none⟩ = some (.int .i64 0) := (hq.cell (p := ⟨w.heap.size + 1, 2, none⟩) (by (try simp only [World.heap_size_alloc, World.heap_size_drew, World.heap_size_setCell]); omega)).trans (by simp)
    have g2 : w3.frozen? ⟨w.heap.size + 1, 2, none⟩ = false := (hq.frozen (p := ⟨w.heap.size + 1, 2, none⟩) (by (try simp only [World.heap_size_alloc, World.heap_size_drew, World.heap_size_setCell]); omega)).trans (by simp)
    have k3 : w3.cell? ⟨w.heap.size + 1, 3, none⟩ = some (.int .i64 0) := (hq.cell (p := ⟨w.heap.size + 1, 3, none⟩) (by (try simp only [World.heap_size_alloc, World.heap_size_drew, World.heap_size_setCell]); omega)).trans (by simp)
    have g3 : w3.frozen? ⟨w.heap.size + 1, 3, none⟩ = false := (hq.frozen (p := ⟨w.heap.size + 1, 3, none⟩) (by (try simp only [World.heap_size_alloc, World.heap_size_drew, World.heap_size_setCell]); omega)).trans (by simp)
    have k4 : w3.cell? ⟨w.heap.size + 1, 4, none⟩ = some (.int .i64 0) := (hq.cell (p := ⟨w.heap.size + 1, 4, none⟩) (by (try simp only [World.heap_size_alloc, World.heap_size_drew, World.heap_size_setCell]); omega)).trans (by simp)
    have g4 : w3.frozen? ⟨w.heap.size + 1, 4, none⟩ = false := (hq.frozen (p := ⟨w.heap.size + 1, 4, none⟩) (by (try simp only [World.heap_size_alloc, World.heap_size_drew, World.heap_size_setCell]); omega)).trans (by simp)
    have k5 : w3.cell? ⟨w.heap.size + 1, 5, none⟩ = some (.int .i64 0) := (hq.cell (p := ⟨w.heap.size + 1, 5, none⟩) (by (try simp only [World.heap_size_alloc, World.heap_size_drew, World.heap_size_setCell]); omega)).trans (by simp)
    have g5 : w3.frozen? ⟨w.heap.size + 1, 5, none⟩ = false := (hq.frozen (p := ⟨w.heap.size + 1, 5, none⟩) (by (try simp only [World.heap_size_alloc, World.heap_size_drew, World.heap_size_setCell]); omega)).trans (by simp)
    have k6 : w3.cell? ⟨w.heap.size + 1, 6, none⟩ = some (.int .i64 0) := (hq.cell (p := ⟨w.heap.size + 1, 6, none⟩) (by (try simp only [World.heap_size_alloc, World.heap_size_drew, World.heap_size_setCell]); omega)).trans (by simp)
    have g6 : w3.frozen? ⟨w.heap.size + 1, 6, none⟩ = false := (hq.frozen (p := ⟨w.heap.size + 1, 6, none⟩) (by (try simp only [World.heap_size_alloc, World.heap_size_drew, World.heap_size_setCell]); omega)).trans (by simp)
    have k7 : w3.cell? ⟨w.heap.size + 1, 7, none⟩ = some (.int .i64 0) := (hq.cell (p := ⟨w.heap.size + 1, 7, none⟩) (by (try simp only [World.heap_size_alloc, World.heap_size_drew, World.heap_size_setCell]); omega)).trans (by simp)
    have g7 : w3.frozen? ⟨w.heap.size + 1, 7, none⟩ = false := (hq.frozen (p := ⟨w.heap.size + 1, 7, none⟩) (by (try simp only [World.heap_size_alloc, World.heap_size_drew, World.heap_size_setCell]); omega)).trans (by simp)
    have k8 : w3.cell? ⟨w.heap.size + 1, 8, none⟩ = some (.int .i64 0) := (hq.cell (p := ⟨w.heap.size + 1, 8, none⟩) (by (try simp only [World.heap_size_alloc, World.heap_size_drew, World.heap_size_setCell]); omega)).trans (by simp)
    have g8 : w3.frozen? ⟨w.heap.size + 1, 8, none⟩ = false := (hq.frozen (p := ⟨w.heap.size + 1, 8, none⟩) (by (try simp only [World.heap_size_alloc, World.heap_size_drew, World.heap_size_setCell]); omega)).trans (by simp)
    clear v0 v1 v2 fv0 fv1 fv2
    go_wp2
    refine bodyPost_ret (v := .tuple #[.agg #[.int .i64 0, .int .i64 0, .int .i64 0, .int .i64 0, .int .i64 0, .int .i64 0, .int .i64 0, .int .i64 0, .int .i64 0], .bool false]) (by simp [results, Try.results24, go_sem, k0, k1, k2, k3, k4, k5, k6, k7, k8]) rfl ⟨rfl, ?_⟩
    (repeat' (first | with_reducible exact Below.refl _ _ | with_reducible assumption | with_reducible refine Below.drew ?_ | with_reducible refine Below.alloc ?_ ?_ _ | with_reducible refine Below.setCell ?_ ?_ _ | with_reducible refine Below.trans ?_ (Below.mono (by assumption) ?_) | ((try simp only [World.heap_size_alloc, World.heap_size_drew, World.heap_size_setCell]); omega)))
  | true =>
    cases hbt : btw x (b + 1) (b + (n : Int)) with
    | false =>
      have e0 : entryAtM b t l x = (zeroEntry, false) := by simp [entryAtM, hok, HL.out, hbt]
      rw [e0]
      clear e0
      obtain ⟨q0, q1, q2, q3, q4, _⟩ := bookOk_facts hok
      rw [HL.out] at q4
      have HLA := Lib.hid (fun W => lastOf_any b t A n c W q0 q1 q4)
      have CO : ∀ W, Sl W lo hi 9 A n c (l.flatMap EntryD.ints) → Calls Try.prog 22 #[.agg #[.int .i64 b, .int .i64 t, .slice A n c]] W fun x w' => x = .returned (.bool true) ∧ Below W.heap.size W w' := fun W s => by
        have h7 := bookOk_any b t A n c lo hi l W s
        rw [hok] at h7
        exact h7
      have HO := Lib.hid CO
      clear CO
      have hw9 : IntKind.i64.wrap (b + 1) = b + 1 := IntWalk.i64_in _ (by omega)
      have CB : ∀ W, Calls Try.prog 59 #[.int .i64 x, .int .i64 (b + 1), .int .i64 (b + (n : Int))] W fun y w' => y = .returned (.bool false) ∧ Below W.heap.size W w' := fun W => (between_any x (b + 1) (b + (n : Int)) W).mono fun y w' ⟨h1, h2⟩ => ⟨by rw [h1, hbt], by rw [← h2]; exact Below.refl _ _⟩
      have HBT := Lib.hid CB
      clear CB
      clear hok hbt
      go_enter Try.func24, Try.ntmps24
      go_wp2_with fail
      have v0 : ((w.alloc (.cells #[.int .i64 b, .int .i64 t, .slice A n c] 29)).alloc (.cells #[.int .i64 0, .int .i64 0, .int .i64 0, .int .i64 0, .int .i64 0, .int .i64 0, .int .i64 0, .int .i64 0, .int .i64 0] 37)).cell? ⟨w.heap.size, 0, none⟩ = some (.int .i64 b) := by simp
      have fv0 := fun d os => cell_regrown v0 d os
      have v1 : ((w.alloc (.cells #[.int .i64 b, .int .i64 t, .slice A n c] 29)).alloc (.cells #[.int .i64 0, .int .i64 0, .int .i64 0, .int .i64 0, .int .i64 0, .int .i64 0, .int .i64 0, .int .i64 0, .int .i64 0] 37)).cell? ⟨w.heap.size, 1, none⟩ = some (.int .i64 t) := by simp
      have fv1 := fun d os => cell_regrown v1 d os
      have v2 : ((w.alloc (.cells #[.int .i64 b, .int .i64 t, .slice A n c] 29)).alloc (.cells #[.int .i64 0, .int .i64 0, .int .i64 0, .int .i64 0, .int .i64 0, .int .i64 0, .int .i64 0, .int .i64 0, .int .i64 0] 37)).cell? ⟨w.heap.size, 2, none⟩ = some (.slice A n c) := by simp
      have fv2 := fun d os => cell_regrown v2 d os
      have S0 := Lib.hid (h.below (B := w.heap.size) (w' := ((w.alloc (.cells #[.int .i64 b, .int .i64 t, .slice A n c] 29)).alloc (.cells #[.int .i64 0, .int .i64 0, .int .i64 0, .int .i64 0, .int .i64 0, .int .i64 0, .int .i64 0, .int .i64 0, .int .i64 0] 37))) (by (repeat' (first | with_reducible exact Below.refl _ _ | with_reducible assumption | with_reducible refine Below.drew ?_ | with_reducible refine Below.alloc ?_ ?_ _ | with_reducible refine Below.setCell ?_ ?_ _ | with_reducible refine Below.trans ?_ (Below.mono (by assumption) ?_) | ((try simp only [World.heap_size_alloc, World.heap_size_drew, World.heap_size_setCell]); omega)))) hhi)
      have hhi1 : hi ≤ ((w.alloc (.cells #[.int .i64 b, .int .i64 t, .slice A n c] 29)).alloc (.cells #[.int .i64 0, .int .i64 0, .int .i64 0, .int .i64 0, .int .i64 0, .int .i64 0, .int .i64 0, .int .i64 0, .int .i64 0] 37)).heap.size := by (try simp only [World.heap_size_alloc, World.heap_size_drew, World.heap_size_setCell]); omega
      refine wp_region_quiet_below (by kernel_rfl) (by kernel_rfl) ?_; (repeat (first | go_big_quiet_step ((first | (go_at_call 22; exact Calls.regrown_of (HO.out _ (S0.out.below (below_regrown _ _ _) hhi1))) | (go_at_call 63; exact Calls.regrown_of (HLA.out _)) | (go_at_call 59; exact Calls.regrown_of (HBT.out _)))) | quiet_step ((first | (go_at_call 22; exact Calls.regrown_of (HO.out _ (S0.out.below (below_regrown _ _ _) hhi1))) | (go_at_call 63; exact Calls.regrown_of (HLA.out _)) | (go_at_call 59; exact Calls.regrown_of (HBT.out _)))))); refine wpQuiet_nil ?_; intro _ hw'; obtain ⟨⟨nq, osq⟩, hw''⟩ := hw'; subst hw''; have hq := below_regrown ((w.alloc (.cells #[.int .i64 b, .int .i64 t, .slice A n c] 29)).alloc (.cells #[.int .i64 0, .int .i64 0, .int .i64 0, .int .i64 0, .int .i64 0, .int .i64 0, .int .i64 0, .int .i64 0, .int .i64 0] 37)) nq osq; generalize Sort.grow (redrawn ((w.alloc (.cells #[.int .i64 b, .int .i64 t, .slice A n c] 29)).alloc (.cells #[.int .i64 0, .int .i64 0, .int .i64 0, .int .i64 0, .int .i64 0, .int .i64 0, .int .i64 0, .int .i64 0, .int .i64 0] 37)) nq) osq = w3 at *
      have y3 := hq.size
      simp only [World.heap_size_alloc] at y3
      have hw3 : Below w.heap.size w w3 := by (repeat' (first | with_reducible exact Below.refl _ _ | with_reducible assumption | with_reducible refine Below.drew ?_ | with_reducible refine Below.alloc ?_ ?_ _ | with_reducible refine Below.setCell ?_ ?_ _ | with_reducible refine Below.trans ?_ (Below.mono (by assumption) ?_) | ((try simp only [World.heap_size_alloc, World.heap_size_drew, World.heap_size_setCell]); omega)))
      have u0 := (hq.cell (p := ⟨w.heap.size, 0, none⟩) (by (try simp only [World.heap_size_alloc, World.heap_size_drew, World.heap_size_setCell]); omega)).trans v0
      have u1 := (hq.cell (p := ⟨w.heap.size, 1, none⟩) (by (try simp only [World.heap_size_alloc, World.heap_size_drew, World.heap_size_setCell]); omega)).trans v1
      have u2 := (hq.cell (p := ⟨w.heap.size, 2, none⟩) (by (try simp only [World.heap_size_alloc, World.heap_size_drew, World.heap_size_setCell]); omega)).trans v2
      have k0 : w3.cell? ⟨w.heap.size + 1, 0, none⟩ = some (.int .i64 0) := (hq.cell (p := ⟨w.heap.size + 1, 0, none⟩) (by (try simp only [World.heap_size_alloc, World.heap_size_drew, World.heap_size_setCell]); omega)).trans (by simp)
      have g0 : w3.frozen? ⟨w.heap.size + 1, 0, none⟩ = false := (hq.frozen (p := ⟨w.heap.size + 1, 0, none⟩) (by (try simp only [World.heap_size_alloc, World.heap_size_drew, World.heap_size_setCell]); omega)).trans (by simp)
      have k1 : w3.cell? ⟨w.heap.size + 1, 1, none⟩ = some (.int .i64 0) := (hq.cell (p := ⟨w.heap.size + 1, 1, none⟩) (by (try simp only [World.heap_size_alloc, World.heap_size_drew, World.heap_size_setCell]); omega)).trans (by simp)
      have g1 : w3.frozen? ⟨w.heap.size + 1, 1, none⟩ = false := (hq.frozen (p := ⟨w.heap.size + 1, 1, none⟩) (by (try simp only [World.heap_size_alloc, World.heap_size_drew, World.heap_size_setCell]); omega)).trans (by simp)
      have k2 : w3.cell? ⟨w.heap.size + 1, 2, none⟩ = some (.int .i64 0) := (hq.cell (p := ⟨w.heap.size + 1, 2, none⟩) (by (try simp only [World.heap_size_alloc, World.heap_size_drew, World.heap_size_setCell]); omega)).trans (by simp)
      have g2 : w3.frozen? ⟨w.heap.size + 1, 2, none⟩ = false := (hq.frozen (p := ⟨w.heap.size + 1, 2, none⟩) (by (try simp only [World.heap_size_alloc, World.heap_size_drew, World.heap_size_setCell]); omega)).trans (by simp)
      have k3 : w3.cell? ⟨w.heap.size + 1, 3, none⟩ = some (.int .i64 0) := (hq.cell (p := ⟨w.heap.size + 1, 3, none⟩) (by (try simp only [World.heap_size_alloc, World.heap_size_drew, World.heap_size_setCell]); omega)).trans (by simp)
      have g3 : w3.frozen? ⟨w.heap.size + 1, 3, none⟩ = false := (hq.frozen (p := ⟨w.heap.size + 1, 3, none⟩) (by (try simp only [World.heap_size_alloc, World.heap_size_drew, World.heap_size_setCell]); omega)).trans (by simp)
      have k4 : w3.cell? ⟨w.heap.size + 1, 4, none⟩ = some (.int .i64 0) := (hq.cell (p := ⟨w.heap.size + 1, 4, none⟩) (by (try simp only [World.heap_size_alloc, World.heap_size_drew, World.heap_size_setCell]); omega)).trans (by simp)
      have g4 : w3.frozen? ⟨w.heap.size + 1, 4, none⟩ = false := (hq.frozen (p := ⟨w.heap.size + 1, 4, none⟩) (by (try simp only [World.heap_size_alloc, World.heap_size_drew, World.heap_size_setCell]); omega)).trans (by simp)
      have k5 : w3.cell? ⟨w.heap.size + 1, 5, none⟩ = some (.int .i64 0) := (hq.cell (p := ⟨w.heap.size + 1, 5, none⟩) (by (try simp only [World.heap_size_alloc, World.heap_size_drew, World.heap_size_setCell]); omega)).trans (by simp)
      have g5 : w3.frozen? ⟨w.heap.size + 1, 5, none⟩ = false := (hq.frozen (p := ⟨w.heap.size + 1, 5, none⟩) (by (try simp only [World.heap_size_alloc, World.heap_size_drew, World.heap_size_setCell]); omega)).trans (by simp)
      have k6 : w3.cell? ⟨w.heap.size + 1, 6, none⟩ = some (.int .i64 0) := (hq.cell (p := ⟨w.heap.size + 1, 6, none⟩) (by (try simp only [World.heap_size_alloc, World.heap_size_drew, World.heap_size_setCell]); omega)).trans (by simp)
      have g6 : w3.frozen? ⟨w.heap.size + 1, 6, none⟩ = false := (hq.frozen (p := ⟨w.heap.size + 1, 6, none⟩) (by (try simp only [World.heap_size_alloc, World.heap_size_drew, World.heap_size_setCell]); omega)).trans (by simp)
      have k7 : w3.cell? ⟨w.heap.size + 1, 7, none⟩ = some (.int .i64 0) := (hq.cell (p := ⟨w.heap.size + 1, 7, none⟩) (by (try simp only [World.heap_size_alloc, World.heap_size_drew, World.heap_size_setCell]); omega)).trans (by simp)
      have g7 : w3.frozen? ⟨w.heap.size + 1, 7, none⟩ = false := (hq.frozen (p := ⟨w.heap.size + 1, 7, none⟩) (by (try simp only [World.heap_size_alloc, World.heap_size_drew, World.heap_size_setCell]); omega)).trans (by simp)
      have k8 : w3.cell? ⟨w.heap.size + 1, 8, none⟩ = some (.int .i64 0) := (hq.cell (p := ⟨w.heap.size + 1, 8, none⟩) (by (try simp only [World.heap_size_alloc, World.heap_size_drew, World.heap_size_setCell]); omega)).trans (by simp)
      have g8 : w3.frozen? ⟨w.heap.size + 1, 8, none⟩ = false := (hq.frozen (p := ⟨w.heap.size + 1, 8, none⟩) (by (try simp only [World.heap_size_alloc, World.heap_size_drew, World.heap_size_setCell]); omega)).trans (by simp)
      clear v0 v1 v2 fv0 fv1 fv2
      clear hw9
      go_wp2
      refine bodyPost_ret (v := .tuple #[.agg #[.int .i64 0, .int .i64 0, .int .i64 0, .int .i64 0, .int .i64 0, .int .i64 0, .int .i64 0, .int .i64 0, .int .i64 0], .bool false]) (by simp [results, Try.results24, go_sem, k0, k1, k2, k3, k4, k5, k6, k7, k8]) rfl ⟨rfl, ?_⟩
      (repeat' (first | with_reducible exact Below.refl _ _ | with_reducible assumption | with_reducible refine Below.drew ?_ | with_reducible refine Below.alloc ?_ ?_ _ | with_reducible refine Below.setCell ?_ ?_ _ | with_reducible refine Below.trans ?_ (Below.mono (by assumption) ?_) | ((try simp only [World.heap_size_alloc, World.heap_size_drew, World.heap_size_setCell]); omega)))
    | true =>
      obtain ⟨xb0, xb1⟩ := btw_iff.1 hbt
      obtain ⟨j, hj⟩ := Int.eq_ofNat_of_zero_le (show 0 ≤ x - b - 1 by omega)
      have hjn : j < n := by omega
      obtain ⟨g, off, e, rfl, _, hg, he, p0, p1, p2, p3, p4, p5, p6, p7, p8⟩ := h.entry hjn
      have hgw : g < w.heap.size := by omega
      have e0 : entryAtM b t l x = (e, true) := by
        have : (x - b - 1).toNat = j := by omega
        simp [entryAtM, hok, HL.out, hbt, this, he]
      rw [e0]
      clear e0
      obtain ⟨q0, q1, q2, q3, q4, _⟩ := bookOk_facts hok
      rw [HL.out] at q4
      have HLA := Lib.hid (fun W => lastOf_any b t (some ⟨g, off, none⟩) n c W q0 q1 q4)
      have CO : ∀ W, Sl W lo hi 9 (some ⟨g, off, none⟩) n c (l.flatMap EntryD.ints) → Calls Try.prog 22 #[.agg #[.int .i64 b, .int .i64 t, .slice (some ⟨g, off, none⟩) n c]] W fun x w' => x = .returned (.bool true) ∧ Below W.heap.size W w' := fun W s => by
        have h7 := bookOk_any b t (some ⟨g, off, none⟩) n c lo hi l W s
        rw [hok] at h7
        exact h7
      have HO := Lib.hid CO
      clear CO
      have hw9 : IntKind.i64.wrap (b + 1) = b + 1 := IntWalk.i64_in _ (by omega)
      have CB : ∀ W, Calls Try.prog 59 #[.int .i64 x, .int .i64 (b + 1), .int .i64 (b + (n : Int))] W fun y w' => y = .returned (.bool true) ∧ Below W.heap.size W w' := fun W => (between_any x (b + 1) (b + (n : Int)) W).mono fun y w' ⟨h1, h2⟩ => ⟨by rw [h1, hbt], by rw [← h2]; exact Below.refl _ _⟩
      have HBT := Lib.hid CB
      clear CB
      clear hok hbt
      go_enter Try.func24, Try.ntmps24
      go_wp2_with fail
      have v0 : ((w.alloc (.cells #[.int .i64 b, .int .i64 t, .slice (some ⟨g, off, none⟩) n c] 29)).alloc (.cells #[.int .i64 0, .int .i64 0, .int .i64 0, .int .i64 0, .int .i64 0, .int .i64 0, .int .i64 0, .int .i64 0, .int .i64 0] 37)).cell? ⟨w.heap.size, 0, none⟩ = some (.int .i64 b) := by simp
      have fv0 := fun d os => cell_regrown v0 d os
      have v1 : ((w.alloc (.cells #[.int .i64 b, .int .i64 t, .slice (some ⟨g, off, none⟩) n c] 29)).alloc (.cells #[.int .i64 0, .int .i64 0, .int .i64 0, .int .i64 0, .int .i64 0, .int .i64 0, .int .i64 0, .int .i64 0, .int .i64 0] 37)).cell? ⟨w.heap.size, 1, none⟩ = some (.int .i64 t) := by simp
      have fv1 := fun d os => cell_regrown v1 d os
      have v2 : ((w.alloc (.cells #[.int .i64 b, .int .i64 t, .slice (some ⟨g, off, none⟩) n c] 29)).alloc (.cells #[.int .i64 0, .int .i64 0, .int .i64 0, .int .i64 0, .int .i64 0, .int .i64 0, .int .i64 0, .int .i64 0, .int .i64 0] 37)).cell? ⟨w.heap.size, 2, none⟩ = some (.slice (some ⟨g, off, none⟩) n c) := by simp
      have fv2 := fun d os => cell_regrown v2 d os
      have S0 := Lib.hid (h.below (B := w.heap.size) (w' := ((w.alloc (.cells #[.int .i64 b, .int .i64 t, .slice (some ⟨g, off, none⟩) n c] 29)).alloc (.cells #[.int .i64 0, .int .i64 0, .int .i64 0, .int .i64 0, .int .i64 0, .int .i64 0, .int .i64 0, .int .i64 0, .int .i64 0] 37))) (by (repeat' (first | with_reducible exact Below.refl _ _ | with_reducible assumption | with_reducible refine Below.drew ?_ | with_reducible refine Below.alloc ?_ ?_ _ | with_reducible refine Below.setCell ?_ ?_ _ | with_reducible refine Below.trans ?_ (Below.mono (by assumption) ?_) | ((try simp only [World.heap_size_alloc, World.heap_size_drew, World.heap_size_setCell]); omega)))) hhi)
      have hhi1 : hi ≤ ((w.alloc (.cells #[.int .i64 b, .int .i64 t, .slice (some ⟨g, off, none⟩) n c] 29)).alloc (.cells #[.int .i64 0, .int .i64 0, .int .i64 0, .int .i64 0, .int .i64 0, .int .i64 0, .int .i64 0, .int .i64 0, .int .i64 0] 37)).heap.size := by (try simp only [World.heap_size_alloc, World.heap_size_drew, World.heap_size_setCell]); omega
      refine wp_region_quiet_below (by kernel_rfl) (by kernel_rfl) ?_; (repeat (first | go_big_quiet_step ((first | (go_at_call 22; exact Calls.regrown_of (HO.out _ (S0.out.below (below_regrown _ _ _) hhi1))) | (go_at_call 63; exact Calls.regrown_of (HLA.out _)) | (go_at_call 59; exact Calls.regrown_of (HBT.out _)))) | quiet_step ((first | (go_at_call 22; exact Calls.regrown_of (HO.out _ (S0.out.below (below_regrown _ _ _) hhi1))) | (go_at_call 63; exact Calls.regrown_of (HLA.out _)) | (go_at_call 59; exact Calls.regrown_of (HBT.out _)))))); refine wpQuiet_nil ?_; intro _ hw'; obtain ⟨⟨nq, osq⟩, hw''⟩ := hw'; subst hw''; have hq := below_regrown ((w.alloc (.cells #[.int .i64 b, .int .i64 t, .slice (some ⟨g, off, none⟩) n c] 29)).alloc (.cells #[.int .i64 0, .int .i64 0, .int .i64 0, .int .i64 0, .int .i64 0, .int .i64 0, .int .i64 0, .int .i64 0, .int .i64 0] 37)) nq osq; generalize Sort.grow (redrawn ((w.alloc (.cells #[.int .i64 b, .int .i64 t, .slice (some ⟨g, off, none⟩) n c] 29)).alloc (.cells #[.int .i64 0, .int .i64 0, .int .i64 0, .int .i64 0, .int .i64 0, .int .i64 0, .int .i64 0, .int .i64 0, .int .i64 0] 37)) nq) osq = w3 at *
      have y3 := hq.size
      simp only [World.heap_size_alloc] at y3
      have hw3 : Below w.heap.size w w3 := by (repeat' (first | with_reducible exact Below.refl _ _ | with_reducible assumption | with_reducible refine Below.drew ?_ | with_reducible refine Below.alloc ?_ ?_ _ | with_reducible refine Below.setCell ?_ ?_ _ | with_reducible refine Below.trans ?_ (Below.mono (by assumption) ?_) | ((try simp only [World.heap_size_alloc, World.heap_size_drew, World.heap_size_setCell]); omega)))
      have u0 := (hq.cell (p := ⟨w.heap.size, 0, none⟩) (by (try simp only [World.heap_size_alloc, World.heap_size_drew, World.heap_size_setCell]); omega)).trans v0
      have u1 := (hq.cell (p := ⟨w.heap.size, 1, none⟩) (by (try simp only [World.heap_size_alloc, World.heap_size_drew, World.heap_size_setCell]); omega)).trans v1
      have u2 := (hq.cell (p := ⟨w.heap.size, 2, none⟩) (by (try simp only [World.heap_size_alloc, World.heap_size_drew, World.heap_size_setCell]); omega)).trans v2
      have k0 : w3.cell? ⟨w.heap.size + 1, 0, none⟩ = some (.int .i64 0) := (hq.cell (p := ⟨w.heap.size + 1, 0, none⟩) (by (try simp only [World.heap_size_alloc, World.heap_size_drew, World.heap_size_setCell]); omega)).trans (by simp)
      have g0 : w3.frozen? ⟨w.heap.size + 1, 0, none⟩ = false := (hq.frozen (p := ⟨w.heap.size + 1, 0, none⟩) (by (try simp only [World.heap_size_alloc, World.heap_size_drew, World.heap_size_setCell]); omega)).trans (by simp)
      have k1 : w3.cell? ⟨w.heap.size + 1, 1, none⟩ = some (.int .i64 0) := (hq.cell (p := ⟨w.heap.size + 1, 1, none⟩) (by (try simp only [World.heap_size_alloc, World.heap_size_drew, World.heap_size_setCell]); omega)).trans (by simp)
      have g1 : w3.frozen? ⟨w.heap.size + 1, 1, none⟩ = false := (hq.frozen (p := ⟨w.heap.size + 1, 1, none⟩) (by (try simp only [World.heap_size_alloc, World.heap_size_drew, World.heap_size_setCell]); omega)).trans (by simp)
      have k2 : w3.cell? ⟨w.heap.size + 1, 2, none⟩ = some (.int .i64 0) := (hq.cell (p := ⟨w.heap.size + 1, 2, none⟩) (by (try simp only [World.heap_size_alloc, World.heap_size_drew, World.heap_size_setCell]); omega)).trans (by simp)
      have g2 : w3.frozen? ⟨w.heap.size + 1, 2, none⟩ = false := (hq.frozen (p := ⟨w.heap.size + 1, 2, none⟩) (by (try simp only [World.heap_size_alloc, World.heap_size_drew, World.heap_size_setCell]); omega)).trans (by simp)
      have k3 : w3.cell? ⟨w.heap.size + 1, 3, none⟩ = some (.int .i64 0) := (hq.cell (p := ⟨w.heap.size + 1, 3, none⟩) (by (try simp only [World.heap_size_alloc, World.heap_size_drew, World.heap_size_setCell]); omega)).trans (by simp)
      have g3 : w3.frozen? ⟨w.heap.size + 1, 3, none⟩ = false := (hq.frozen (p := ⟨w.heap.size + 1, 3, none⟩) (by (try simp only [World.heap_size_alloc, World.heap_size_drew, World.heap_size_setCell]); omega)).trans (by simp)
      have k4 : w3.cell? ⟨w.heap.size + 1, 4, none⟩ = some (.int .i64 0) := (hq.cell (p := ⟨w.heap.size + 1, 4, none⟩) (by (try simp only [World.heap_size_alloc, World.heap_size_drew, World.heap_size_setCell]); omega)).trans (by simp)
      have g4 : w3.frozen? ⟨w.heap.size + 1, 4, none⟩ = false := (hq.frozen (p := ⟨w.heap.size + 1, 4, none⟩) (by (try simp only [World.heap_size_alloc, World.heap_size_drew, World.heap_size_setCell]); omega)).trans (by simp)
      have k5 : w3.cell? ⟨w.heap.size + 1, 5, none⟩ = some (.int .i64 0) := (hq.cell (p := ⟨w.heap.size + 1, 5, none⟩) (by (try simp only [World.heap_size_alloc, World.heap_size_drew, World.heap_size_setCell]); omega)).trans (by simp)
      have g5 : w3.frozen? ⟨w.heap.size + 1, 5, none⟩ = false := (hq.frozen (p := ⟨w.heap.size + 1, 5, none⟩) (by (try simp only [World.heap_size_alloc, World.heap_size_drew, World.heap_size_setCell]); omega)).trans (by simp)
      have k6 : w3.cell? ⟨w.heap.size + 1, 6, none⟩ = some (.int .i64 0) := (hq.cell (p := ⟨w.heap.size + 1, 6, none⟩) (by (try simp only [World.heap_size_alloc, World.heap_size_drew, World.heap_size_setCell]); omega)).trans (by simp)
      have g6 : w3.frozen? ⟨w.heap.size + 1, 6, none⟩ = false := (hq.frozen (p := ⟨w.heap.size + 1, 6, none⟩) (by (try simp only [World.heap_size_alloc, World.heap_size_drew, World.heap_size_setCell]); omega)).trans (by simp)
      have k7 : w3.cell? ⟨w.heap.size + 1, 7, none⟩ = some (.int .i64 0) := (hq.cell (p := ⟨w.heap.size + 1, 7, none⟩) (by (try simp only [World.heap_size_alloc, World.heap_size_drew, World.heap_size_setCell]); omega)).trans (by simp)
      have g7 : w3.frozen? ⟨w.heap.size + 1, 7, none⟩ = false := (hq.frozen (p := ⟨w.heap.size + 1, 7, none⟩) (by (try simp only [World.heap_size_alloc, World.heap_size_drew, World.heap_size_setCell]); omega)).trans (by simp)
      have k8 : w3.cell? ⟨w.heap.size + 1, 8, none⟩ = some (.int .i64 0) := (hq.cell (p := ⟨w.heap.size + 1, 8, none⟩) (by (try simp only [World.heap_size_alloc, World.heap_size_drew, World.heap_size_setCell]); omega)).trans (by simp)
      have g8 : w3.frozen? ⟨w.heap.size + 1, 8, none⟩ = false := (hq.frozen (p := ⟨w.heap.size + 1, 8, none⟩) (by (try simp only [World.heap_size_alloc, World.heap_size_drew, World.heap_size_setCell]); omega)).trans (by simp)
      clear v0 v1 v2 fv0 fv1 fv2
      clear hw9
      have r0 := (hw3.cell (p := ⟨g, off + j * 9, none⟩) hgw).trans p0
      have r1 := (hw3.cell (p := ⟨g, off + j * 9 + 1, none⟩) hgw).trans p1
      have r2 := (hw3.cell (p := ⟨g, off + j * 9 + 2, none⟩) hgw).trans p2
      have r3 := (hw3.cell (p := ⟨g, off + j * 9 + 3, none⟩) hgw).trans p3
      have r4 := (hw3.cell (p := ⟨g, off + j * 9 + 4, none⟩) hgw).trans p4
      have r5 := (hw3.cell (p := ⟨g, off + j * 9 + 5, none⟩) hgw).trans p5
      have r6 := (hw3.cell (p := ⟨g, off + j * 9 + 6, none⟩) hgw).trans p6
      have r7 := (hw3.cell (p := ⟨g, off + j * 9 + 7, none⟩) hgw).trans p7
      have r8 := (hw3.cell (p := ⟨g, off + j * 9 + 8, none⟩) hgw).trans p8
      have hx1 : x - b - 1 = (j : Int) := hj
      have hx2 : x = b + 1 + (j : Int) := by omega
      clear hj hx1 he p0 p1 p2 p3 p4 p5 p6 p7 p8
      subst hx2
      have hx3 : b + 1 + (j : Int) - b = (j : Int) + 1 := by omega
      have hx4 : b + 1 + (j : Int) - b - 1 = (j : Int) := by omega
      have hx5 : ((j : Nat) : Int) < (n : Int) := by omega
      go_wp2
      refine bodyPost_ret (v := .tuple #[.agg #[.int .i64 e.index, .int .i64 e.time, .int .i64 e.client, .int .i64 e.seq, .int .i64 e.op.kind, .int .i64 e.op.a, .int .i64 e.op.b, .int .i64 e.op.c, .int .i64 e.op.d], .bool true]) (by simp [results, Try.results24, go_sem, k0, k1, k2, k3, k4, k5, k6, k7, k8]) rfl ⟨rfl, ?_⟩
      (repeat' (first | with_reducible exact Below.refl _ _ | with_reducible assumption | with_reducible refine Below.drew ?_ | with_reducible refine Below.alloc ?_ ?_ _ | with_reducible refine Below.setCell ?_ ?_ _ | with_reducible refine Below.trans ?_ (Below.mono (by assumption) ?_) | ((try simp only [World.heap_size_alloc, World.heap_size_drew, World.heap_size_setCell]); omega)))

end Go.Proofs.Ytijefbmnhcecmaa
