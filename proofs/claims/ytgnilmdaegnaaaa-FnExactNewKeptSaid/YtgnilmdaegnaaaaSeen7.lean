/- Marks: recording one entry, the program's way, and many, the reference's way. No conditions. -/
import Derived.Test.YtgnilmdaegnaaaaSeen6
set_option linter.unusedSimpArgs false
set_option linter.unusedVariables false
namespace Go.Proofs.Ytgnilmdaegnaaaa
open Go.RowKit

set_option maxRecDepth 100000 in
set_option maxHeartbeats 2000000 in
theorem marked_any (A : Option Addr) (n c lo hi : Nat) (l : List MarkD) (e : EntryD) (w : World) (h : Sl w lo hi 3 A n c (l.flatMap MarkD.ints)) :
    Calls Try.prog 160 #[.slice A n c, .agg #[.int .i64 e.index, .int .i64 e.time, .int .i64 e.client, .int .i64 e.seq, .int .i64 e.op.kind, .int .i64 e.op.a, .int .i64 e.op.b, .int .i64 e.op.c, .int .i64 e.op.d]] w (SlBRes w 3 (marked l e).1.length ((marked l e).1.flatMap MarkD.ints, (marked l e).2)) := by
  replace h := h.fit (by omega)
  have hhi : min hi w.heap.size ≤ w.heap.size := Nat.min_le_right _ _
  generalize min hi w.heap.size = hi at h hhi
  rw [marked_over]
  have CO := fun (B : Option Addr) (lo' hi' : Nat) W s s' => seenOver_any A n c lo hi l B 1 1 lo' hi' [e] W s s'
  have HO := Lib.hid CO
  generalize seenOver l [e] = r at HO CO
  clear CO
  obtain ⟨rl, rb⟩ := r
  have hs : Below w.heap.size w ((w.alloc (.cells #[.int .i64 e.index, .int .i64 e.time, .int .i64 e.client, .int .i64 e.seq, .int .i64 e.op.kind, .int .i64 e.op.a, .int .i64 e.op.b, .int .i64 e.op.c, .int .i64 e.op.d] 32)).alloc (.cells #[.int .i64 e.index, .int .i64 e.time, .int .i64 e.client, .int .i64 e.seq, .int .i64 e.op.kind, .int .i64 e.op.a, .int .i64 e.op.b, .int .i64 e.op.c, .int .i64 e.op.d] 32)) := by (repeat' (first | with_reducible exact Below.refl _ _ | with_reducible assumption | with_reducible refine Below.drew ?_ | with_reducible refine Below.alloc ?_ ?_ _ | with_reducible refine Below.setCell ?_ ?_ _ | with_reducible refine Below.trans ?_ (Below.mono (by assumption) ?_) | ((try simp only [World.heap_size_alloc, World.heap_size_drew, World.heap_size_setCell]); omega)))
  have HS := Lib.hid hs
  have H := Lib.hid (h.below hs hhi)
  clear h hs
  go_enter Try.func160, Try.ntmps160
  go_wp2_with fail
  (with_reducible refine (HO.out _ _ _ _ H.out (src_new2 w _ 32 9 [e.index, e.time, e.client, e.seq, e.op.kind, e.op.a, e.op.b, e.op.c, e.op.d] rfl)).mono ?_); rintro _ w2 ⟨A2, c2, rfl, s2, b2⟩
  go_wp2_with fail
  go_ret2
  have y2 := b2.size
  simp only [World.heap_size_alloc] at y2
  exact ⟨A2, c2, rfl, s2.mono (by (try simp only [World.heap_size_alloc, World.heap_size_drew, World.heap_size_setCell]); omega) (Nat.le_refl _), HS.out.trans (b2.mono (by (try simp only [World.heap_size_alloc, World.heap_size_drew, World.heap_size_setCell]); omega))⟩
set_option maxRecDepth 100000 in
set_option maxHeartbeats 4000000 in
theorem sSeenOver_any (A : Option Addr) (n c lo hi : Nat) (l : List MarkD) (B : Option Addr) (ne c' lo' hi' : Nat) (es : List EntryD) (w : World) (h : Sl w lo hi 3 A n c (l.flatMap MarkD.ints)) (h' : Sl w lo' hi' 9 B ne c' (es.flatMap EntryD.ints)) :
    Calls Try.prog 107 #[.slice A n c, .slice B ne c'] w (SlBRes w 3 (seenOver l es).1.length ((seenOver l es).1.flatMap MarkD.ints, (seenOver l es).2)) := by
  have hn : n ≤ 9223372036854775807 := Nat.le_trans h.cap h.big
  have hne : ne ≤ 9223372036854775807 := Nat.le_trans h'.cap h'.big
  have HL := Lib.hid (h.count MarkD.ints_len (by omega) : l.length = n)
  have HLE := Lib.hid (h'.count EntryD.ints_len (by omega) : es.length = ne)
  replace h := h.fit (by omega)
  replace h' := h'.fit (by omega)
  have hhi : min hi w.heap.size ≤ w.heap.size := Nat.min_le_right _ _
  have hhi' : min hi' w.heap.size ≤ w.heap.size := Nat.min_le_right _ _
  generalize min hi w.heap.size = hi at h hhi
  generalize min hi' w.heap.size = hi' at h' hhi'
  cases hok : seenOk l with
  | false =>
    have e0 : seenOver l es = ([], false) := by simp [seenOver, hok]
    rw [e0]
    clear e0
    have CO : ∀ W, Sl W lo hi 3 A n c (l.flatMap MarkD.ints) → Calls Try.prog 83 #[.slice A n c] W fun x w' => x = .returned (.bool false) ∧ Below W.heap.size W w' := fun W s => by
      have h7 := sSeenOk_any A n c lo hi l W s
      rw [hok] at h7
      exact h7
    have HO := Lib.hid CO
    clear CO
    clear hok h'
    go_enter Try.func107, Try.ntmps107
    go_wp2_with fail
    (with_reducible refine (HO.out _ (h.below (B := w.heap.size) (by (repeat' (first | with_reducible exact Below.refl _ _ | with_reducible assumption | with_reducible refine Below.drew ?_ | with_reducible refine Below.alloc ?_ ?_ _ | with_reducible refine Below.setCell ?_ ?_ _ | with_reducible refine Below.trans ?_ (Below.mono (by assumption) ?_) | ((try simp only [World.heap_size_alloc, World.heap_size_drew, World.heap_size_setCell]); omega)))) hhi)).mono ?_); rintro _ w1 ⟨rfl, b1⟩
    have y1 := b1.size
    go_wp2_with fail
    go_ret2
    exact SlBRes.none (by (repeat' (first | with_reducible exact Below.refl _ _ | with_reducible assumption | with_reducible refine Below.drew ?_ | with_reducible refine Below.alloc ?_ ?_ _ | with_reducible refine Below.setCell ?_ ?_ _ | with_reducible refine Below.trans ?_ (Below.mono (by assumption) ?_) | ((try simp only [World.heap_size_alloc, World.heap_size_drew, World.heap_size_setCell]); omega)))) _ _ _ (by omega)
  | true =>
    have hn4 : n ≤ 4 := by rw [← HL.out]; exact seenOk_len hok
    have HC := Lib.hid (fun W s => l9Copy_any A n c lo hi l W s (by omega))
    have CO : ∀ W, Sl W lo hi 3 A n c (l.flatMap MarkD.ints) → Calls Try.prog 83 #[.slice A n c] W fun x w' => x = .returned (.bool true) ∧ Below W.heap.size W w' := fun W s => by
      have h7 := sSeenOk_any A n c lo hi l W s
      rw [hok] at h7
      exact h7
    have HO := Lib.hid CO
    clear CO
    rcases Nat.lt_or_ge 2000 ne with hlong | hshort
    · have e0 : seenOver l es = (l, false) := by
        have : ¬ es.length ≤ 2000 := by rw [HLE.out]; omega
        simp [seenOver, hok, this]
      rw [e0]
      clear e0 hok h'
      go_enter Try.func107, Try.ntmps107
      go_wp2_with fail
      (with_reducible refine (HO.out _ (h.below (B := w.heap.size) (by (repeat' (first | with_reducible exact Below.refl _ _ | with_reducible assumption | with_reducible refine Below.drew ?_ | with_reducible refine Below.alloc ?_ ?_ _ | with_reducible refine Below.setCell ?_ ?_ _ | with_reducible refine Below.trans ?_ (Below.mono (by assumption) ?_) | ((try simp only [World.heap_size_alloc, World.heap_size_drew, World.heap_size_setCell]); omega)))) hhi)).mono ?_); rintro _ w1 ⟨rfl, b1⟩
      have y1 := b1.size
      go_wp2_with fail
      (with_reducible refine (HC.out _ (h.below b1 hhi)).mono ?_); rintro _ w3 ⟨A3, c3, rfl, s3, b3⟩
      go_wp2_with fail
      go_ret2
      rw [HL.out]
      exact ⟨A3, c3, rfl, s3.mono (by omega) (Nat.le_refl _), b1.trans (b3.mono (by omega))⟩
    · have HOK := Lib.hid hok
      have HSO : Hid (seenOver l es = match overGo l es with
        | some r => (r, true)
        | none => (l, false)) := Lib.hid (by
        have : es.length ≤ 2000 := by rw [HLE.out]; exact hshort
        simp only [seenOver, hok, this, if_true]
        cases overGo l es <;> rfl)
      have H := Lib.hid h
      have H' := Lib.hid h'
      clear hok
      go_enter Try.func107, Try.ntmps107
      go_wp2_with fail
      (with_reducible refine (HO.out _ (h.below (B := w.heap.size) (by (repeat' (first | with_reducible exact Below.refl _ _ | with_reducible assumption | with_reducible refine Below.drew ?_ | with_reducible refine Below.alloc ?_ ?_ _ | with_reducible refine Below.setCell ?_ ?_ _ | with_reducible refine Below.trans ?_ (Below.mono (by assumption) ?_) | ((try simp only [World.heap_size_alloc, World.heap_size_drew, World.heap_size_setCell]); omega)))) hhi)).mono ?_); rintro _ w1 ⟨rfl, b1⟩
      have y1 := b1.size
      go_wp2_with fail
      (with_reducible refine (HC.out _ (h.below b1 hhi)).mono ?_); rintro _ w3 ⟨A3, c3, rfl, s3, b3⟩
      have y3 := b3.size
      have S3 := Lib.hid s3
      have HW3 := Lib.hid (b1.trans (b3.mono y1))
      clear s3 b1 b3 h h'
      go_wp2_with fail
      go_loopw [6, 7, 8, 9] (fun v i _ _ wr => ∃ (j : Nat) (r : List MarkD) (A5 : Option Addr) (n5 c5 : Nat), j ≤ ne ∧ i = .int .i64 j ∧ v = .slice A5 n5 c5 ∧ Hid (n5 = r.length) ∧ Hid (seenOk r = true) ∧ Hid (overGo l es = overGo r (es.drop j)) ∧ Sl wr w.heap.size wr.heap.size 3 A5 n5 c5 (r.flatMap MarkD.ints) ∧ Below w.heap.size w wr) (fun _ i _ _ _ => ne - (intOf i).toNat)
      case atStart => exact ⟨0, l, A3, n, c3, Nat.zero_le _, rfl, rfl, HL.out.symm, HOK.out, rfl, S3.out.mono (by omega) (Nat.le_refl _), HW3.out⟩
      case round =>
        obtain ⟨j, r, A5, n5, c5, hj, rfl, rfl, hnr, hr, hgo, hs, hb⟩ := hrel
        have hbz := hb.size
        by_cases hlt : j < ne
        · obtain ⟨g, off, e, rfl, _, hg, he, p0, p1, p2, p3, p4, p5, p6, p7, p8⟩ := H'.out.entry hlt
          have hg1 : g < w.heap.size := by omega
          have HE := Lib.hid he
          have r0 := (hb.cell (p := ⟨g, off + j * 9, none⟩) hg1).trans p0
          have r1 := (hb.cell (p := ⟨g, off + j * 9 + 1, none⟩) hg1).trans p1
          have r2 := (hb.cell (p := ⟨g, off + j * 9 + 2, none⟩) hg1).trans p2
          have r3 := (hb.cell (p := ⟨g, off + j * 9 + 3, none⟩) hg1).trans p3
          have r4 := (hb.cell (p := ⟨g, off + j * 9 + 4, none⟩) hg1).trans p4
          have r5 := (hb.cell (p := ⟨g, off + j * 9 + 5, none⟩) hg1).trans p5
          have r6 := (hb.cell (p := ⟨g, off + j * 9 + 6, none⟩) hg1).trans p6
          have r7 := (hb.cell (p := ⟨g, off + j * 9 + 7, none⟩) hg1).trans p7
          have r8 := (hb.cell (p := ⟨g, off + j * 9 + 8, none⟩) hg1).trans p8
          clear he p0 p1 p2 p3 p4 p5 p6 p7 p8
          have CM := fun W s => sMarked_any A5 n5 c5 w.heap.size wr.heap.size r e W s
          have HCM := Lib.hid CM
          have HB := Lib.hid hb
          have S := Lib.hid hs
          clear CM hb hs
          cases hM : markable r e with
          | false =>
            have em : marked r e = (r, false) := by simp [marked, hr.out, hM]
            rw [em] at HCM
            have HM := Lib.hid hM
            clear hM em
            go_wp2_with fail
            (with_reducible refine (HCM.out _ S.out).mono ?_); rintro _ w4 ⟨A6, c6, rfl, s6, b6⟩
            have y6 := b6.size
            have HB4 := Lib.hid (HB.out.trans (b6.mono hbz))
            clear s6 b6
            go_wp2_with fail
            (with_reducible refine (HC.out _ (H.out.below HB4.out hhi)).mono ?_); rintro _ w7 ⟨A7, c7, rfl, s7, b7⟩
            go_wp2_with fail
            go_ret2
            rw [HSO.out, show overGo l es = none by rw [hgo.out, drop_cons HE.out]; simp [overGo, HM.out]]
            show SlBRes w 3 l.length (l.flatMap MarkD.ints, false) _ _
            rw [HL.out]
            exact ⟨A7, c7, rfl, s7.mono (by omega) (Nat.le_refl _), HB4.out.trans (b7.mono (by omega))⟩
          | true =>
            have em : marked r e = (ins e.mark false r, true) := by simp [marked, hr.out, hM]
            rw [em] at HCM
            have HM := Lib.hid hM
            clear hM em
            go_wp2_with fail
            (with_reducible refine (HCM.out _ S.out).mono ?_); rintro _ w4 ⟨A6, c6, rfl, s6, b6⟩
            have y6 := b6.size
            have S6 := Lib.hid s6
            have HB4 := Lib.hid (HB.out.trans (b6.mono hbz))
            clear s6 b6
            go_wp2_with fail
            go_roundw
            case rel => exact ⟨j + 1, ins e.mark false r, A6, _, c6, hlt, by go_num, rfl, rfl, seenOk_mark hr.out HM.out, by
              show overGo l es = _
              rw [hgo.out, drop_cons HE.out]
              simp [overGo, HM.out], S6.out.mono (by omega) (Nat.le_refl _), HB4.out⟩
            case measure => simp [intOf]; omega
        · have hjn : j = ne := by omega
          subst hjn
          have HGO : Hid (overGo l es = some r) := Lib.hid (by rw [hgo.out, List.drop_of_length_le (by rw [HLE.out]; omega)]; rfl)
          have S := Lib.hid hs
          have HB := Lib.hid hb
          clear hs hb
          go_wp2
          go_ret2
          rw [HSO.out, HGO.out]
          show SlBRes w 3 r.length (r.flatMap MarkD.ints, true) _ _
          rw [← hnr.out]
          exact ⟨A5, c5, rfl, S.out, HB.out⟩

end Go.Proofs.Ytgnilmdaegnaaaa
