/- Books: one entry appended, the program's function; grown, the reference's. No conditions. -/
import Derived.Test.YtijefbmnhcecmaaBk13
set_option linter.unusedSimpArgs false
set_option linter.unusedVariables false
namespace Go.Proofs.Ytijefbmnhcecmaa
open Go.RowKit

set_option maxRecDepth 100000 in
set_option maxHeartbeats 4000000 in
theorem appended_any (b t : Int) (A : Option Addr) (n c lo hi : Nat) (l : List EntryD) (e : EntryD) (w : World) (h : Sl w lo hi 9 A n c (l.flatMap EntryD.ints)) :
    Calls Try.prog 43 #[.agg #[.int .i64 b, .int .i64 t, .slice A n c], .agg #[.int .i64 e.index, .int .i64 e.time, .int .i64 e.client, .int .i64 e.seq, .int .i64 e.op.kind, .int .i64 e.op.a, .int .i64 e.op.b, .int .i64 e.op.c, .int .i64 e.op.d]] w (BookBRes w (appendedM b t l e).1 (appendedM b t l e).2.1 (appendedM b t l e).2.2.1.length ((appendedM b t l e).2.2.1.flatMap EntryD.ints) (appendedM b t l e).2.2.2) := by
  replace h := h.fit (by omega)
  have hhi : min hi w.heap.size ≤ w.heap.size := Nat.min_le_right _ _
  generalize min hi w.heap.size = hi at h hhi
  rw [← grownM_one]
  have CO := fun (D : Option Addr) (lo' hi' : Nat) W s s' => grown_any b t A n c lo hi l D 1 1 lo' hi' [e] W s s'
  have HO := Lib.hid CO
  generalize grownM b t l [e] = r at HO CO
  clear CO
  obtain ⟨rb0, rt0, rl, rb⟩ := r
  have hs : Below w.heap.size w ((((w.alloc (.cells #[.int .i64 b, .int .i64 t, .slice A n c] 29)).alloc (.cells #[.int .i64 e.index, .int .i64 e.time, .int .i64 e.client, .int .i64 e.seq, .int .i64 e.op.kind, .int .i64 e.op.a, .int .i64 e.op.b, .int .i64 e.op.c, .int .i64 e.op.d] 37)).alloc (.cells #[.int .i64 0, .int .i64 0, .slice none 0 0] 29)).alloc (.cells #[.int .i64 e.index, .int .i64 e.time, .int .i64 e.client, .int .i64 e.seq, .int .i64 e.op.kind, .int .i64 e.op.a, .int .i64 e.op.b, .int .i64 e.op.c, .int .i64 e.op.d] 37)) := by (repeat' (first | with_reducible exact Below.refl _ _ | with_reducible assumption | with_reducible refine Below.drew ?_ | with_reducible refine Below.alloc ?_ ?_ _ | with_reducible refine Below.setCell ?_ ?_ _ | with_reducible refine Below.trans ?_ (Below.mono (by assumption) ?_) | ((try simp only [World.heap_size_alloc, World.heap_size_drew, World.heap_size_setCell]); omega)))
  have HS := Lib.hid hs
  have H := Lib.hid (h.below hs hhi)
  have H2 : Hid (Sl ((((w.alloc (.cells #[.int .i64 b, .int .i64 t, .slice A n c] 29)).alloc (.cells #[.int .i64 e.index, .int .i64 e.time, .int .i64 e.client, .int .i64 e.seq, .int .i64 e.op.kind, .int .i64 e.op.a, .int .i64 e.op.b, .int .i64 e.op.c, .int .i64 e.op.d] 37)).alloc (.cells #[.int .i64 0, .int .i64 0, .slice none 0 0] 29)).alloc (.cells #[.int .i64 e.index, .int .i64 e.time, .int .i64 e.client, .int .i64 e.seq, .int .i64 e.op.kind, .int .i64 e.op.a, .int .i64 e.op.b, .int .i64 e.op.c, .int .i64 e.op.d] 37)) (((w.alloc (.cells #[.int .i64 b, .int .i64 t, .slice A n c] 29)).alloc (.cells #[.int .i64 e.index, .int .i64 e.time, .int .i64 e.client, .int .i64 e.seq, .int .i64 e.op.kind, .int .i64 e.op.a, .int .i64 e.op.b, .int .i64 e.op.c, .int .i64 e.op.d] 37)).alloc (.cells #[.int .i64 0, .int .i64 0, .slice none 0 0] 29)).heap.size ((((w.alloc (.cells #[.int .i64 b, .int .i64 t, .slice A n c] 29)).alloc (.cells #[.int .i64 e.index, .int .i64 e.time, .int .i64 e.client, .int .i64 e.seq, .int .i64 e.op.kind, .int .i64 e.op.a, .int .i64 e.op.b, .int .i64 e.op.c, .int .i64 e.op.d] 37)).alloc (.cells #[.int .i64 0, .int .i64 0, .slice none 0 0] 29)).alloc (.cells #[.int .i64 e.index, .int .i64 e.time, .int .i64 e.client, .int .i64 e.seq, .int .i64 e.op.kind, .int .i64 e.op.a, .int .i64 e.op.b, .int .i64 e.op.c, .int .i64 e.op.d] 37)).heap.size 9 (some ⟨w.heap.size + 1 + 1 + 1, 0, none⟩) 1 1 e.ints) := Lib.hid ⟨rfl, by omega, by omega, fun _ => ⟨_, 0, rfl, by (try simp only [World.heap_size_alloc, World.heap_size_drew, World.heap_size_setCell]); omega, by (try simp only [World.heap_size_alloc, World.heap_size_drew, World.heap_size_setCell]); omega, by have h9 := ints_new (((w.alloc (.cells #[.int .i64 b, .int .i64 t, .slice A n c] 29)).alloc (.cells #[.int .i64 e.index, .int .i64 e.time, .int .i64 e.client, .int .i64 e.seq, .int .i64 e.op.kind, .int .i64 e.op.a, .int .i64 e.op.b, .int .i64 e.op.c, .int .i64 e.op.d] 37)).alloc (.cells #[.int .i64 0, .int .i64 0, .slice none 0 0] 29)) 37 e.ints; (try simp only [World.heap_size_alloc] at h9); exact h9⟩⟩
  clear h hs
  go_enter Try.func43, Try.ntmps43
  go_wp2_with fail
  (with_reducible refine (HO.out _ _ _ _ H.out H2.out).mono ?_); rintro _ w2 ⟨A2, c2, rfl, s2, b2⟩
  have y2 := b2.size
  (try simp only [World.heap_size_alloc] at y2)
  have m0 : w2.cell? ⟨w.heap.size + 1 + 1, 0, none⟩ = some (.int .i64 0) := (b2.cell (p := ⟨w.heap.size + 1 + 1, 0, none⟩) (by (try simp only [World.heap_size_alloc, World.heap_size_drew, World.heap_size_setCell]); omega)).trans (by simp [go_sem])
  have f0 : w2.frozen? ⟨w.heap.size + 1 + 1, 0, none⟩ = false := (b2.frozen (p := ⟨w.heap.size + 1 + 1, 0, none⟩) (by (try simp only [World.heap_size_alloc, World.heap_size_drew, World.heap_size_setCell]); omega)).trans (by simp [go_sem])
  have m1 : w2.cell? ⟨w.heap.size + 1 + 1, 1, none⟩ = some (.int .i64 0) := (b2.cell (p := ⟨w.heap.size + 1 + 1, 1, none⟩) (by (try simp only [World.heap_size_alloc, World.heap_size_drew, World.heap_size_setCell]); omega)).trans (by simp [go_sem])
  have f1 : w2.frozen? ⟨w.heap.size + 1 + 1, 1, none⟩ = false := (b2.frozen (p := ⟨w.heap.size + 1 + 1, 1, none⟩) (by (try simp only [World.heap_size_alloc, World.heap_size_drew, World.heap_size_setCell]); omega)).trans (by simp [go_sem])
  have m2 : w2.cell? ⟨w.heap.size + 1 + 1, 2, none⟩ = some (.slice none 0 0) := (b2.cell (p := ⟨w.heap.size + 1 + 1, 2, none⟩) (by (try simp only [World.heap_size_alloc, World.heap_size_drew, World.heap_size_setCell]); omega)).trans (by simp [go_sem])
  have f2 : w2.frozen? ⟨w.heap.size + 1 + 1, 2, none⟩ = false := (b2.frozen (p := ⟨w.heap.size + 1 + 1, 2, none⟩) (by (try simp only [World.heap_size_alloc, World.heap_size_drew, World.heap_size_setCell]); omega)).trans (by simp [go_sem])
  go_wp2_with fail
  refine bodyPost_ret (v := .tuple #[.agg #[.int .i64 rb0, .int .i64 rt0, .slice A2 rl.length c2], .bool rb]) (by simp [results, Try.results43, go_sem, m0, m1, m2]) rfl ⟨A2, c2, rfl, ?_, ?_⟩
  · refine Sl.mono (Sl.upd (lo' := w.heap.size + 1 + 1) (hi' := w.heap.size + 1 + 1 + 1) s2 ?_ (.inr (by (try simp only [World.heap_size_alloc, World.heap_size_drew, World.heap_size_setCell]); omega))) (by (try simp only [World.heap_size_alloc, World.heap_size_drew, World.heap_size_setCell]); omega) (by (try simp only [World.heap_size_alloc, World.heap_size_drew, World.heap_size_setCell]); omega)
    (repeat' (first | with_reducible exact Upd.refl _ _ _ | with_reducible assumption | with_reducible refine Upd.drew ?_ | with_reducible refine Upd.alloc ?_ _ | with_reducible refine Upd.setCell ?_ ?_ ?_ _ | (simp only []; omega) | omega))
  · have c9 : Below w.heap.size w w2 := HS.out.trans (b2.mono (by (try simp only [World.heap_size_alloc, World.heap_size_drew, World.heap_size_setCell]); omega))
    (repeat' (first | with_reducible exact Below.refl _ _ | with_reducible assumption | with_reducible refine Below.drew ?_ | with_reducible refine Below.alloc ?_ ?_ _ | with_reducible refine Below.setCell ?_ ?_ _ | with_reducible refine Below.trans ?_ (Below.mono (by assumption) ?_) | ((try simp only [World.heap_size_alloc, World.heap_size_drew, World.heap_size_setCell]); omega)))

end Go.Proofs.Ytijefbmnhcecmaa
