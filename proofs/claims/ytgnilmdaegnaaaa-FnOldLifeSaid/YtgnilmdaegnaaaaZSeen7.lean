/- Marks: recording one entry, the program's way, and many, the reference's way. No conditions. -/
import Derived.Test.YtgnilmdaegnaaaaZSeen6
set_option linter.unusedSimpArgs false
set_option linter.unusedVariables false
namespace Go.Proofs.Ytgnilmdaegnaaaa
open Go.RowKit
set_option maxRecDepth 100000 in
set_option maxHeartbeats 2000000 in
theorem marked_any (A : Option Addr) (n c lo hi : Nat) (l : List MarkD) (e : EntryD) (w : World) (h : Sl w lo hi 3 A n c (l.flatMap MarkD.ints)) :
    Calls Try.prog 160 #[.slice A n c, .agg #[.int .i64 e.index, .int .i64 e.time, .int .i64 e.client, .int .i64 e.seq, .int .i64 e.op.kind, .int .i64 e.op.a, .int .i64 e.op.b, .int .i64 e.op.c, .int .i64 e.op.d]] w (SlBRes w 3 (marked l e).1.length ((marked l e).1.flatMap MarkD.ints, (marked l e).2)) := by
  replace h := h.fit (by omega)
  have hhi : min hi w.heap.size ≤ w.heap.size := Nat.min_le_right _ _
  generalize min hi w.heap.size = hi at h hhi
  rw [marked_over]
  have CO := fun (B : Option Addr) (lo' hi' : Nat) W s s' => seenOver_any A n c lo hi l B 1 1 lo' hi' [e] W s s'
  have HO := Lib.hid CO
  generalize seenOver l [e] = r at HO CO
  clear CO
  obtain ⟨rl, rb⟩ := r
  have hs : Below w.heap.size w ((w.alloc (.cells #[.int .i64 e.index, .int .i64 e.time, .int .i64 e.client, .int .i64 e.seq, .int .i64 e.op.kind, .int .i64 e.op.a, .int .i64 e.op.b, .int .i64 e.op.c, .int .i64 e.op.d] 32)).alloc (.cells #[.int .i64 e.index, .int .i64 e.time, .int .i64 e.client, .int .i64 e.seq, .int .i64 e.op.kind, .int .i64 e.op.a, .int .i64 e.op.b, .int .i64 e.op.c, .int .i64 e.op.d] 32)) := by (repeat' (first | with_reducible exact Below.refl _ _ | with_reducible assumption | with_reducible refine Below.drew ?_ | with_reducible refine Below.alloc ?_ ?_ _ | with_reducible refine Below.setCell ?_ ?_ _ | with_reducible refine Below.trans ?_ (Below.mono (by assumption) ?_) | ((try simp only [World.heap_size_alloc, World.heap_size_drew, World.heap_size_setCell]); omega)))
  have HS := Lib.hid hs
  have H := Lib.hid (h.below hs hhi)
  clear h hs
  go_enter Try.func160, Try.ntmps160
  go_wp2_with fail
  (with_reducible refine (HO.out _ _ _ _ H.out (src_new2 w _ 32 9 [e.index, e.time, e.client, e.seq, e.op.kind, e.op.a, e.op.b, e.op.c, e.op.d] rfl)).mono ?_); rintro _ w2 ⟨A2, c2, rfl, s2, b2⟩
  go_wp2_with fail
  go_ret2
  have y2 := b2.size
  simp only [World.heap_size_alloc] at y2
  exact ⟨A2, c2, rfl, s2.mono (by (try simp only [World.heap_size_alloc, World.heap_size_drew, World.heap_size_setCell]); omega) (Nat.le_refl _), HS.out.trans (b2.mono (by (try simp only [World.heap_size_alloc, World.heap_size_drew, World.heap_size_setCell]); omega))⟩
end Go.Proofs.Ytgnilmdaegnaaaa
