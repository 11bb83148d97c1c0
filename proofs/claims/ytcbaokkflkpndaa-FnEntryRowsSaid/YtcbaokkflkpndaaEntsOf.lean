/- The entries of one client: what the program's and the reference's functions return. No conditions. -/
import Derived.Test.YtcbaokkflkpndaaEnts
set_option linter.unusedSimpArgs false
set_option linter.unusedVariables false
namespace Go.Proofs.Ytcbaokkflkpndaa
open Go.RowKit

def entriesOf (l : List EntryD) (q : Int) : List EntryD := if entriesOk l then l.filter (fun x => x.client == q) else []
theorem entriesOk_len {l : List EntryD} (h : entriesOk l = true) : l.length ≤ 2000 := by
  simp only [entriesOk, Bool.and_eq_true, decide_eq_true_eq] at h
  exact h.1
/-- What has been collected after m rounds. -/
def OfRel (w : World) (E n : Nat) (l : List EntryD) (q : Int) (v i : Value) (wr : World) : Prop :=
  ∃ (m : Nat) (u : Value), m ≤ n ∧ i = .int .i64 (m : Nat) ∧ v = u ∧ Own wr w.heap.size E 9 u ((l.take m).filter (fun x => x.client == q)).length (((l.take m).filter (fun x => x.client == q)).flatMap EntryD.ints) ∧ Below w.heap.size w wr
theorem OfRel.step {w w2 : World} {E n m : Nat} {l : List EntryD} {q : Int} {v i : Value} {e : EntryD} (hlt : m < n) (he : l[m]? = some e) (hq : (e.client == q) = true) (hi : i = .int .i64 ((m + 1 : Nat) : Int))
    (ho : Own w2 w.heap.size E 9 v (((l.take m).filter (fun x => x.client == q)).length + 1) (((l.take m).filter (fun x => x.client == q)).flatMap EntryD.ints ++ e.ints)) (hb : Below w.heap.size w w2) : OfRel w E n l q v i w2 := by
  have ht : l.take (m + 1) = l.take m ++ [e] := by
    obtain ⟨h1, rfl⟩ := List.getElem?_eq_some_iff.1 he
    exact List.take_succ_eq_append_getElem h1
  refine ⟨m + 1, v, hlt, hi, rfl, ?_, hb⟩
  rw [ht, List.filter_append]
  simpa [hq, List.filter_cons] using ho
theorem OfRel.skip {w w2 : World} {E n m : Nat} {l : List EntryD} {q : Int} {v i : Value} {e : EntryD} (hlt : m < n) (he : l[m]? = some e) (hq : (e.client == q) = false) (hi : i = .int .i64 ((m + 1 : Nat) : Int))
    (ho : Own w2 w.heap.size E 9 v ((l.take m).filter (fun x => x.client == q)).length (((l.take m).filter (fun x => x.client == q)).flatMap EntryD.ints)) (hb : Below w.heap.size w w2) : OfRel w E n l q v i w2 := by
  have ht : l.take (m + 1) = l.take m ++ [e] := by
    obtain ⟨h1, rfl⟩ := List.getElem?_eq_some_iff.1 he
    exact List.take_succ_eq_append_getElem h1
  refine ⟨m + 1, v, hlt, hi, rfl, ?_, hb⟩
  rw [ht, List.filter_append]
  simpa [hq, List.filter_cons] using ho
theorem OfRel.done {w w2 : World} {E n : Nat} {l : List EntryD} {q : Int} {v : Value} (hl : l.length = n)
    (ho : Own w2 w.heap.size E 9 v ((l.take n).filter (fun x => x.client == q)).length (((l.take n).filter (fun x => x.client == q)).flatMap EntryD.ints)) (hb : Below w.heap.size w w2) :
    SlRes w 9 (l.filter (fun x => x.client == q)).length ((l.filter (fun x => x.client == q)).flatMap EntryD.ints) (.returned v) w2 := by
  rw [List.take_of_length_le (by omega)] at ho
  obtain ⟨A, c, rfl, s⟩ := ho.sl
  exact ⟨A, c, rfl, s, hb⟩

set_option maxRecDepth 100000 in
set_option maxHeartbeats 800000 in
theorem sEntriesOf_any (A : Option Addr) (n c lo hi : Nat) (l : List EntryD) (q : Int) (w : World) (h : Sl w lo hi 9 A n c (l.flatMap EntryD.ints)) :
    Calls Try.prog 44 #[.slice A n c, .int .i64 q] w (SlRes w 9 (entriesOf l q).length ((entriesOf l q).flatMap EntryD.ints)) := by
  have hn : n ≤ 9223372036854775807 := Nat.le_trans h.cap h.big
  have HL := Lib.hid (h.count EntryD.ints_len (by omega) : l.length = n)
  replace h := h.fit (by omega)
  have hhi : min hi w.heap.size ≤ w.heap.size := Nat.min_le_right _ _
  generalize min hi w.heap.size = hi at h hhi
  by_cases hok : entriesOk l = true
  · have hshort : n ≤ 2000 := by rw [← HL.out]; exact entriesOk_len hok
    have e : entriesOf l q = l.filter (fun x => x.client == q) := if_pos hok
    rw [e]
    have CO : ∀ W, Sl W lo hi 9 A n c (l.flatMap EntryD.ints) → Calls Try.prog 40 #[.slice A n c] W fun x w' => x = .returned (.bool true) ∧ Below W.heap.size W w' := fun W s => by
      have h7 := sEntriesOk_any A n c lo hi l W s
      rw [hok] at h7
      exact h7
    have HO := Lib.hid CO
    clear CO e hok
    go_enter Try.func44, Try.ntmps44
    go_wp2_with fail
    (with_reducible refine (HO.out _ (h.below (B := w.heap.size) (by (repeat' (first | with_reducible exact Below.refl _ _ | with_reducible assumption | with_reducible refine Below.drew ?_ | with_reducible refine Below.alloc ?_ ?_ _ | with_reducible refine Below.setCell ?_ ?_ _ | with_reducible refine Below.trans ?_ (Below.mono (by assumption) ?_) | ((try simp only [World.heap_size_alloc, World.heap_size_drew, World.heap_size_setCell]); omega)))) hhi)).mono ?_); rintro _ w1 ⟨rfl, b1⟩
    have y1 := b1.size
    (try simp only [World.heap_size_alloc, World.heap_size_drew] at y1)
    have hw1 : Below w.heap.size w w1 := by (repeat' (first | with_reducible exact Below.refl _ _ | with_reducible assumption | with_reducible refine Below.drew ?_ | with_reducible refine Below.alloc ?_ ?_ _ | with_reducible refine Below.setCell ?_ ?_ _ | with_reducible refine Below.trans ?_ (Below.mono (by assumption) ?_) | ((try simp only [World.heap_size_alloc, World.heap_size_drew, World.heap_size_setCell]); omega)))
    have o1 : Own w1 w.heap.size 34 9 (.slice (some ⟨w.heap.size, 0, none⟩) 0 0) 0 [] := (Own.new w 34 9 [] rfl (Nat.le_refl _) (by omega)).kept b1
    have hw2 := hw1
    have O1 := Lib.hid o1
    have Hw2 := Lib.hid hw2
    have Hw1 := Lib.hid hw1
    have Hb1 := Lib.hid b1
    clear o1 hw2 hw1 b1
    go_wp2
    go_loopw [5, 6] (fun v i wr => OfRel w 34 n l q v i wr) (fun _ i _ => n - (intOf i).toNat)
    case atStart => exact ⟨0, _, Nat.zero_le _, rfl, rfl, O1.out, Hw2.out⟩
    case round =>
      obtain ⟨m, v, hm, rfl, rfl, ho, hb⟩ := hrel
      have hbz := hb.size
      by_cases hlt : m < n
      · obtain ⟨g, off, e, rfl, _, hg, he, p0, p1, p2, p3, p4, p5, p6, p7, p8⟩ := h.entry hlt
        have hg1 := Nat.lt_of_lt_of_le hg hhi
        have HE := Lib.hid he
        clear he
        have r0 := (hb.cell (p := ⟨g, off + m * 9, none⟩) hg1).trans p0
        have r1 := (hb.cell (p := ⟨g, off + m * 9 + 1, none⟩) hg1).trans p1
        have r2 := (hb.cell (p := ⟨g, off + m * 9 + 2, none⟩) hg1).trans p2
        have r3 := (hb.cell (p := ⟨g, off + m * 9 + 3, none⟩) hg1).trans p3
        have r4 := (hb.cell (p := ⟨g, off + m * 9 + 4, none⟩) hg1).trans p4
        have r5 := (hb.cell (p := ⟨g, off + m * 9 + 5, none⟩) hg1).trans p5
        have r6 := (hb.cell (p := ⟨g, off + m * 9 + 6, none⟩) hg1).trans p6
        have r7 := (hb.cell (p := ⟨g, off + m * 9 + 7, none⟩) hg1).trans p7
        have r8 := (hb.cell (p := ⟨g, off + m * 9 + 8, none⟩) hg1).trans p8
        clear p0 p1 p2 p3 p4 p5 p6 p7 p8
        have HO1 := Lib.hid ho
        clear ho
        have hlen : ((l.take m).filter (fun x => x.client == q)).length ≤ m := Nat.le_trans (List.length_filter_le _ _) (List.length_take_le _ _)
        by_cases hq : e.client = q
        · have hq1 : (e.client == q) = true := by simpa using hq
          have hsrc : Sl (wr.alloc (.cells #[.int .i64 e.index, .int .i64 e.time, .int .i64 e.client, .int .i64 e.seq, .int .i64 e.op.kind, .int .i64 e.op.a, .int .i64 e.op.b, .int .i64 e.op.c, .int .i64 e.op.d] 34)) wr.heap.size (wr.alloc (.cells #[.int .i64 e.index, .int .i64 e.time, .int .i64 e.client, .int .i64 e.seq, .int .i64 e.op.kind, .int .i64 e.op.a, .int .i64 e.op.b, .int .i64 e.op.c, .int .i64 e.op.d] 34)).heap.size 9 (some ⟨wr.heap.size, 0, none⟩) 1 1 e.ints := ⟨rfl, by omega, by omega, fun _ => ⟨_, 0, rfl, by (try simp only [World.heap_size_alloc, World.heap_size_drew, World.heap_size_setCell]); omega, by simp, by have h9 := ints_new wr 34 e.ints; (try rw [World.heap_size_alloc] at h9); exact h9⟩⟩
          have HS1 := Lib.hid hsrc
          have HB1 : Hid (Below wr.heap.size wr (wr.alloc (.cells #[.int .i64 e.index, .int .i64 e.time, .int .i64 e.client, .int .i64 e.seq, .int .i64 e.op.kind, .int .i64 e.op.a, .int .i64 e.op.b, .int .i64 e.op.c, .int .i64 e.op.d] 34))) := (by (repeat' (first | with_reducible exact Below.refl _ _ | with_reducible assumption | with_reducible refine Below.drew ?_ | with_reducible refine Below.alloc ?_ ?_ _ | with_reducible refine Below.setCell ?_ ?_ _ | with_reducible refine Below.trans ?_ (Below.mono (by assumption) ?_) | ((try simp only [World.heap_size_alloc, World.heap_size_drew, World.heap_size_setCell]); omega))) : Below wr.heap.size wr (wr.alloc (.cells #[.int .i64 e.index, .int .i64 e.time, .int .i64 e.client, .int .i64 e.seq, .int .i64 e.op.kind, .int .i64 e.op.a, .int .i64 e.op.b, .int .i64 e.op.c, .int .i64 e.op.d] 34)))
          have hge : w.heap.size ≤ (wr.alloc (.cells #[.int .i64 e.index, .int .i64 e.time, .int .i64 e.client, .int .i64 e.seq, .int .i64 e.op.kind, .int .i64 e.op.a, .int .i64 e.op.b, .int .i64 e.op.c, .int .i64 e.op.d] 34)).heap.size := by simp only [World.heap_size_alloc]; omega
          clear hsrc hq
          go_wp2_with (at_builtin; go_loud (refine wpList_append_sl _ rfl (.tmp 25) (.tmp 30) 53 rfl w.heap.size 34 Try.underlying53 infoEntry rfl (by omega) _ _ _ rfl (HO1.out.kept HB1.out) _ 1 1 _ _ e.ints rfl HS1.out (by omega) (by omega) hge ?_); intro v2 w2 o2 g2 a2)
          have hb2 : Below w.heap.size w w2 := (hb.trans (HB1.out.mono hb.size)).trans (grown_below g2 hge (fun g hg => (Own.lt HO1.out g hg).1))
          have HO2 := Lib.hid o2
          clear o2 a2 g2
          go_roundw
          case rel => exact OfRel.step hlt HE.out hq1 (by go_num) HO2.out hb2
          case measure => simp [intOf]; omega
        · have hq1 : (e.client == q) = false := by simpa using hq
          clear hq
          go_wp2
          go_roundw
          case rel => exact OfRel.skip hlt HE.out hq1 (by go_num) (HO1.out.kept (by (repeat' (first | with_reducible exact Below.refl _ _ | with_reducible assumption | with_reducible refine Below.drew ?_ | with_reducible refine Below.alloc ?_ ?_ _ | with_reducible refine Below.setCell ?_ ?_ _ | with_reducible refine Below.trans ?_ (Below.mono (by assumption) ?_) | ((try simp only [World.heap_size_alloc, World.heap_size_drew, World.heap_size_setCell]); omega))))) (by (repeat' (first | with_reducible exact Below.refl _ _ | with_reducible assumption | with_reducible refine Below.drew ?_ | with_reducible refine Below.alloc ?_ ?_ _ | with_reducible refine Below.setCell ?_ ?_ _ | with_reducible refine Below.trans ?_ (Below.mono (by assumption) ?_) | ((try simp only [World.heap_size_alloc, World.heap_size_drew, World.heap_size_setCell]); omega))))
          case measure => simp [intOf]; omega
      · have HO1 := Lib.hid ho
        clear ho
        go_wp2
        go_ret
        have hmn : m = n := by omega
        subst hmn
        exact OfRel.done HL.out HO1.out hb
  · have e : entriesOf l q = [] := if_neg hok
    rw [e]
    have hb : entriesOk l = false := by simpa using hok
    have CO : ∀ W, Sl W lo hi 9 A n c (l.flatMap EntryD.ints) → Calls Try.prog 40 #[.slice A n c] W fun x w' => x = .returned (.bool false) ∧ Below W.heap.size W w' := fun W s => by
      have h7 := sEntriesOk_any A n c lo hi l W s
      rw [hb] at h7
      exact h7
    have HO := Lib.hid CO
    clear CO e hok hb
    go_enter Try.func44, Try.ntmps44
    go_wp2_with fail
    (with_reducible refine (HO.out _ (h.below (B := w.heap.size) (by (repeat' (first | with_reducible exact Below.refl _ _ | with_reducible assumption | with_reducible refine Below.drew ?_ | with_reducible refine Below.alloc ?_ ?_ _ | with_reducible refine Below.setCell ?_ ?_ _ | with_reducible refine Below.trans ?_ (Below.mono (by assumption) ?_) | ((try simp only [World.heap_size_alloc, World.heap_size_drew, World.heap_size_setCell]); omega)))) hhi)).mono ?_); rintro _ w1 ⟨rfl, b1⟩
    go_wp2_with fail
    go_ret
    exact SlRes.none (by (repeat' (first | with_reducible exact Below.refl _ _ | with_reducible assumption | with_reducible refine Below.drew ?_ | with_reducible refine Below.alloc ?_ ?_ _ | with_reducible refine Below.setCell ?_ ?_ _ | with_reducible refine Below.trans ?_ (Below.mono (by assumption) ?_) | ((try simp only [World.heap_size_alloc, World.heap_size_drew, World.heap_size_setCell]); omega)))) _ _ _ (by omega)
set_option maxRecDepth 100000 in
set_option maxHeartbeats 800000 in
theorem entriesOf_any (A : Option Addr) (n c lo hi : Nat) (l : List EntryD) (q : Int) (w : World) (h : Sl w lo hi 9 A n c (l.flatMap EntryD.ints)) :
    Calls Try.prog 45 #[.slice A n c, .int .i64 q] w (SlRes w 9 (entriesOf l q).length ((entriesOf l q).flatMap EntryD.ints)) := by
  have hn : n ≤ 9223372036854775807 := Nat.le_trans h.cap h.big
  have HL := Lib.hid (h.count EntryD.ints_len (by omega) : l.length = n)
  replace h := h.fit (by omega)
  have hhi : min hi w.heap.size ≤ w.heap.size := Nat.min_le_right _ _
  generalize min hi w.heap.size = hi at h hhi
  by_cases hok : entriesOk l = true
  · have hshort : n ≤ 2000 := by rw [← HL.out]; exact entriesOk_len hok
    have e : entriesOf l q = l.filter (fun x => x.client == q) := if_pos hok
    rw [e]
    have CO : ∀ W, Sl W lo hi 9 A n c (l.flatMap EntryD.ints) → Calls Try.prog 42 #[.slice A n c] W fun x w' => x = .returned (.bool true) ∧ Below W.heap.size W w' := fun W s => by
      have h7 := entriesOk_any A n c lo hi l W s
      rw [hok] at h7
      exact h7
    have HO := Lib.hid CO
    clear CO e hok
    go_enter Try.func45, Try.ntmps45
    go_wp2_with fail
    (with_reducible refine (HO.out _ (h.below (B := w.heap.size) (by (repeat' (first | with_reducible exact Below.refl _ _ | with_reducible assumption | with_reducible refine Below.drew ?_ | with_reducible refine Below.alloc ?_ ?_ _ | with_reducible refine Below.setCell ?_ ?_ _ | with_reducible refine Below.trans ?_ (Below.mono (by assumption) ?_) | ((try simp only [World.heap_size_alloc, World.heap_size_drew, World.heap_size_setCell]); omega)))) hhi)).mono ?_); rintro _ w1 ⟨rfl, b1⟩
    have y1 := b1.size
    (try simp only [World.heap_size_alloc, World.heap_size_drew] at y1)
    have hw1 : Below w.heap.size w w1 := by (repeat' (first | with_reducible exact Below.refl _ _ | with_reducible assumption | with_reducible refine Below.drew ?_ | with_reducible refine Below.alloc ?_ ?_ _ | with_reducible refine Below.setCell ?_ ?_ _ | with_reducible refine Below.trans ?_ (Below.mono (by assumption) ?_) | ((try simp only [World.heap_size_alloc, World.heap_size_drew, World.heap_size_setCell]); omega)))
    have o1 : Own (w1.alloc (.cells #[] 34)) w.heap.size 34 9 (.slice (some ⟨w1.heap.size, 0, none⟩) 0 0) 0 [] := Own.new w1 34 9 [] rfl (by omega) (by omega)
    have hw2 : Below w.heap.size w (w1.alloc (.cells #[] 34)) := by (repeat' (first | with_reducible exact Below.refl _ _ | with_reducible assumption | with_reducible refine Below.drew ?_ | with_reducible refine Below.alloc ?_ ?_ _ | with_reducible refine Below.setCell ?_ ?_ _ | with_reducible refine Below.trans ?_ (Below.mono (by assumption) ?_) | ((try simp only [World.heap_size_alloc, World.heap_size_drew, World.heap_size_setCell]); omega)))
    have O1 := Lib.hid o1
    have Hw2 := Lib.hid hw2
    have Hw1 := Lib.hid hw1
    have Hb1 := Lib.hid b1
    clear o1 hw2 hw1 b1
    go_wp2
    go_loopw [5, 14] (fun v i wr => OfRel w 34 n l q v i wr) (fun _ i _ => n - (intOf i).toNat)
    case atStart => exact ⟨0, _, Nat.zero_le _, rfl, rfl, O1.out, Hw2.out⟩
    case round =>
      obtain ⟨m, v, hm, rfl, rfl, ho, hb⟩ := hrel
      have hbz := hb.size
      by_cases hlt : m < n
      · obtain ⟨g, off, e, rfl, _, hg, he, p0, p1, p2, p3, p4, p5, p6, p7, p8⟩ := h.entry hlt
        have hg1 := Nat.lt_of_lt_of_le hg hhi
        have HE := Lib.hid he
        clear he
        have r0 := (hb.cell (p := ⟨g, off + m * 9, none⟩) hg1).trans p0
        have r1 := (hb.cell (p := ⟨g, off + m * 9 + 1, none⟩) hg1).trans p1
        have r2 := (hb.cell (p := ⟨g, off + m * 9 + 2, none⟩) hg1).trans p2
        have r3 := (hb.cell (p := ⟨g, off + m * 9 + 3, none⟩) hg1).trans p3
        have r4 := (hb.cell (p := ⟨g, off + m * 9 + 4, none⟩) hg1).trans p4
        have r5 := (hb.cell (p := ⟨g, off + m * 9 + 5, none⟩) hg1).trans p5
        have r6 := (hb.cell (p := ⟨g, off + m * 9 + 6, none⟩) hg1).trans p6
        have r7 := (hb.cell (p := ⟨g, off + m * 9 + 7, none⟩) hg1).trans p7
        have r8 := (hb.cell (p := ⟨g, off + m * 9 + 8, none⟩) hg1).trans p8
        clear p0 p1 p2 p3 p4 p5 p6 p7 p8
        have HO1 := Lib.hid ho
        clear ho
        have hlen : ((l.take m).filter (fun x => x.client == q)).length ≤ m := Nat.le_trans (List.length_filter_le _ _) (List.length_take_le _ _)
        by_cases hq : e.client = q
        · have hq1 : (e.client == q) = true := by simpa using hq
          have hsrc : Sl ((wr.alloc (.cells #[.int .i64 e.index, .int .i64 e.time, .int .i64 e.client, .int .i64 e.seq, .int .i64 e.op.kind, .int .i64 e.op.a, .int .i64 e.op.b, .int .i64 e.op.c, .int .i64 e.op.d] 34)).alloc (.cells #[.int .i64 e.index, .int .i64 e.time, .int .i64 e.client, .int .i64 e.seq, .int .i64 e.op.kind, .int .i64 e.op.a, .int .i64 e.op.b, .int .i64 e.op.c, .int .i64 e.op.d] 34)) (wr.alloc (.cells #[.int .i64 e.index, .int .i64 e.time, .int .i64 e.client, .int .i64 e.seq, .int .i64 e.op.kind, .int .i64 e.op.a, .int .i64 e.op.b, .int .i64 e.op.c, .int .i64 e.op.d] 34)).heap.size ((wr.alloc (.cells #[.int .i64 e.index, .int .i64 e.time, .int .i64 e.client, .int .i64 e.seq, .int .i64 e.op.kind, .int .i64 e.op.a, .int .i64 e.op.b, .int .i64 e.op.c, .int .i64 e.op.d] 34)).alloc (.cells #[.int .i64 e.index, .int .i64 e.time, .int .i64 e.client, .int .i64 e.seq, .int .i64 e.op.kind, .int .i64 e.op.a, .int .i64 e.op.b, .int .i64 e.op.c, .int .i64 e.op.d] 34)).heap.size 9 (some ⟨wr.heap.size + 1, 0, none⟩) 1 1 e.ints := ⟨rfl, by omega, by omega, fun _ => ⟨_, 0, rfl, by (try simp only [World.heap_size_alloc, World.heap_size_drew, World.heap_size_setCell]); omega, by simp, by have h9 := ints_new (wr.alloc (.cells #[.int .i64 e.index, .int .i64 e.time, .int .i64 e.client, .int .i64 e.seq, .int .i64 e.op.kind, .int .i64 e.op.a, .int .i64 e.op.b, .int .i64 e.op.c, .int .i64 e.op.d] 34)) 34 e.ints; (try rw [World.heap_size_alloc] at h9); exact h9⟩⟩
          have HS1 := Lib.hid hsrc
          have HB1 : Hid (Below wr.heap.size wr ((wr.alloc (.cells #[.int .i64 e.index, .int .i64 e.time, .int .i64 e.client, .int .i64 e.seq, .int .i64 e.op.kind, .int .i64 e.op.a, .int .i64 e.op.b, .int .i64 e.op.c, .int .i64 e.op.d] 34)).alloc (.cells #[.int .i64 e.index, .int .i64 e.time, .int .i64 e.client, .int .i64 e.seq, .int .i64 e.op.kind, .int .i64 e.op.a, .int .i64 e.op.b, .int .i64 e.op.c, .int .i64 e.op.d] 34))) := (by (repeat' (first | with_reducible exact Below.refl _ _ | with_reducible assumption | with_reducible refine Below.drew ?_ | with_reducible refine Below.alloc ?_ ?_ _ | with_reducible refine Below.setCell ?_ ?_ _ | with_reducible refine Below.trans ?_ (Below.mono (by assumption) ?_) | ((try simp only [World.heap_size_alloc, World.heap_size_drew, World.heap_size_setCell]); omega))) : Below wr.heap.size wr ((wr.alloc (.cells #[.int .i64 e.index, .int .i64 e.time, .int .i64 e.client, .int .i64 e.seq, .int .i64 e.op.kind, .int .i64 e.op.a, .int .i64 e.op.b, .int .i64 e.op.c, .int .i64 e.op.d] 34)).alloc (.cells #[.int .i64 e.index, .int .i64 e.time, .int .i64 e.client, .int .i64 e.seq, .int .i64 e.op.kind, .int .i64 e.op.a, .int .i64 e.op.b, .int .i64 e.op.c, .int .i64 e.op.d] 34)))
          have hge : w.heap.size ≤ ((wr.alloc (.cells #[.int .i64 e.index, .int .i64 e.time, .int .i64 e.client, .int .i64 e.seq, .int .i64 e.op.kind, .int .i64 e.op.a, .int .i64 e.op.b, .int .i64 e.op.c, .int .i64 e.op.d] 34)).alloc (.cells #[.int .i64 e.index, .int .i64 e.time, .int .i64 e.client, .int .i64 e.seq, .int .i64 e.op.kind, .int .i64 e.op.a, .int .i64 e.op.b, .int .i64 e.op.c, .int .i64 e.op.d] 34)).heap.size := by simp only [World.heap_size_alloc]; omega
          clear hsrc hq
          go_wp2_with (at_builtin; go_loud (refine wpList_append_sl _ rfl (.tmp 22) (.tmp 24) 53 rfl w.heap.size 34 Try.underlying53 infoEntry rfl (by omega) _ _ _ rfl (HO1.out.kept HB1.out) _ 1 1 _ _ e.ints rfl HS1.out (by omega) (by omega) hge ?_); intro v2 w2 o2 g2 a2)
          have hb2 : Below w.heap.size w w2 := (hb.trans (HB1.out.mono hb.size)).trans (grown_below g2 hge (fun g hg => (Own.lt HO1.out g hg).1))
          have HO2 := Lib.hid o2
          clear o2 a2 g2
          go_roundw
          case rel => exact OfRel.step hlt HE.out hq1 (by go_num) HO2.out hb2
          case measure => simp [intOf]; omega
        · have hq1 : (e.client == q) = false := by simpa using hq
          clear hq
          go_wp2
          go_roundw
          case rel => exact OfRel.skip hlt HE.out hq1 (by go_num) (HO1.out.kept (by (repeat' (first | with_reducible exact Below.refl _ _ | with_reducible assumption | with_reducible refine Below.drew ?_ | with_reducible refine Below.alloc ?_ ?_ _ | with_reducible refine Below.setCell ?_ ?_ _ | with_reducible refine Below.trans ?_ (Below.mono (by assumption) ?_) | ((try simp only [World.heap_size_alloc, World.heap_size_drew, World.heap_size_setCell]); omega))))) (by (repeat' (first | with_reducible exact Below.refl _ _ | with_reducible assumption | with_reducible refine Below.drew ?_ | with_reducible refine Below.alloc ?_ ?_ _ | with_reducible refine Below.setCell ?_ ?_ _ | with_reducible refine Below.trans ?_ (Below.mono (by assumption) ?_) | ((try simp only [World.heap_size_alloc, World.heap_size_drew, World.heap_size_setCell]); omega))))
          case measure => simp [intOf]; omega
      · have HO1 := Lib.hid ho
        clear ho
        go_wp2
        go_ret
        have hmn : m = n := by omega
        subst hmn
        exact OfRel.done HL.out HO1.out hb
  · have e : entriesOf l q = [] := if_neg hok
    rw [e]
    have hb : entriesOk l = false := by simpa using hok
    have CO : ∀ W, Sl W lo hi 9 A n c (l.flatMap EntryD.ints) → Calls Try.prog 42 #[.slice A n c] W fun x w' => x = .returned (.bool false) ∧ Below W.heap.size W w' := fun W s => by
      have h7 := entriesOk_any A n c lo hi l W s
      rw [hb] at h7
      exact h7
    have HO := Lib.hid CO
    clear CO e hok hb
    go_enter Try.func45, Try.ntmps45
    go_wp2_with fail
    (with_reducible refine (HO.out _ (h.below (B := w.heap.size) (by (repeat' (first | with_reducible exact Below.refl _ _ | with_reducible assumption | with_reducible refine Below.drew ?_ | with_reducible refine Below.alloc ?_ ?_ _ | with_reducible refine Below.setCell ?_ ?_ _ | with_reducible refine Below.trans ?_ (Below.mono (by assumption) ?_) | ((try simp only [World.heap_size_alloc, World.heap_size_drew, World.heap_size_setCell]); omega)))) hhi)).mono ?_); rintro _ w1 ⟨rfl, b1⟩
    go_wp2_with fail
    go_ret
    exact SlRes.none (by (repeat' (first | with_reducible exact Below.refl _ _ | with_reducible assumption | with_reducible refine Below.drew ?_ | with_reducible refine Below.alloc ?_ ?_ _ | with_reducible refine Below.setCell ?_ ?_ _ | with_reducible refine Below.trans ?_ (Below.mono (by assumption) ?_) | ((try simp only [World.heap_size_alloc, World.heap_size_drew, World.heap_size_setCell]); omega)))) _ _ _ (by omega)

end Go.Proofs.Ytcbaokkflkpndaa
