/- Marks: recording many entries, the program's way. No conditions. -/
import Derived.Test.YtgnilmdaegnaaaaZSeen5
set_option linter.unusedSimpArgs false
set_option linter.unusedVariables false
namespace Go.Proofs.Ytgnilmdaegnaaaa
open Go.RowKit
def markV (m : MarkD) : Value := .agg #[.int .i64 m.client, .int .i64 m.seq, .int .i64 m.index]
/-- What the map of marks holds. -/
def markFn (r : List MarkD) : Int → Option Value := fun y => (atClient r y).map markV
def markMap (l : List MarkD) (m : Nat) : Int → Option Value := markFn (l.take m)
theorem markMap_zero (l : List MarkD) : markMap l 0 = fun _ => none := rfl
theorem markMap_all {l : List MarkD} {n : Nat} (h : l.length = n) : markMap l n = markFn l := by
  unfold markMap
  rw [List.take_of_length_le (by omega)]
theorem markMap_succ {l : List MarkD} {m : Nat} {e : MarkD} (h : seenOk l = true) (he : l[m]? = some e) : markMap l (m + 1) = fun y => if y = e.client then some (.agg #[.int .i64 e.client, .int .i64 e.seq, .int .i64 e.index]) else markMap l m y := by
  funext y
  unfold markMap markFn
  rw [atClient_take (seenOk_iff.1 h).2.1 he]
  split <;> rfl
theorem markFn_getD (r : List MarkD) (c : Int) : (markFn r c).getD (.agg #[.int .i64 0, .int .i64 0, .int .i64 0]) = .agg #[.int .i64 (markAt r c).client, .int .i64 (markAt r c).seq, .int .i64 (markAt r c).index] := by
  unfold markFn markAt
  cases atClient r c <;> rfl
theorem markFn_none {r : List MarkD} {c : Int} (h : atClient r c = none) : markFn r c = none := by simp [markFn, h]
theorem markFn_some {r : List MarkD} {c : Int} {p : MarkD} (h : atClient r c = some p) : markFn r c = some (.agg #[.int .i64 p.client, .int .i64 p.seq, .int .i64 p.index]) := by simp [markFn, h, markV]
theorem markFn_ins {r : List MarkD} {e : EntryD} (h : seenOk r = true) : markFn (ins e.mark false r) = fun y => if y = e.client then some (.agg #[.int .i64 e.client, .int .i64 e.seq, .int .i64 e.index]) else (fun y => if y = e.client then none else markFn r y) y := by
  funext y
  unfold markFn
  rw [atClient_ins (seenOk_iff.1 h).2.1]
  show Option.map markV (if y = e.client then some e.mark else atClient r y) = _
  by_cases hy : y = e.client
  · simp [hy, markV, EntryD.mark]
  · simp [hy]
theorem gcell {w w' : World} {B : Nat} (hg : w.grownBy w' (some B)) {b : Nat} (hb : b < w.heap.size) (hne : b ≠ B) : (∀ o, w'.cell? ⟨b, o, none⟩ = w.cell? ⟨b, o, none⟩) ∧ (∀ o, w'.frozen? ⟨b, o, none⟩ = w.frozen? ⟨b, o, none⟩) := by
  have h := hg.block b hb (fun e => hne (by injection e))
  exact ⟨fun o => World.cell?_of_block (w := w) (a := ⟨b, o, none⟩) h, fun o => World.frozen?_of_block (w := w) (a := ⟨b, o, none⟩) h⟩
theorem src_new2 (w : World) (o : Obj) (E k : Nat) (zs : List Int) (h : zs.length = k) : Sl ((w.alloc o).alloc (.cells (zs.map (Value.int .i64)).toArray E)) (w.heap.size + 1) (w.heap.size + 2) k (some ⟨w.heap.size + 1, 0, none⟩) 1 1 zs := by
  have h9 := src_new (w.alloc o) E k zs h
  rw [World.heap_size_alloc] at h9
  exact h9
theorem take_keys {q : Nat} (h : q < 4) : ([2, 3, 4, 5] : List Int).take (q + 1) = ([2, 3, 4, 5] : List Int).take q ++ [2 + (q : Int)] := by
  match q, h with
  | 0, _ | 1, _ | 2, _ | 3, _ => rfl
set_option maxRecDepth 100000 in
set_option maxHeartbeats 8000000 in
theorem seenOver_any (A : Option Addr) (n c lo hi : Nat) (l : List MarkD) (B : Option Addr) (ne c' lo' hi' : Nat) (es : List EntryD) (w : World) (h : Sl w lo hi 3 A n c (l.flatMap MarkD.ints)) (h' : Sl w lo' hi' 9 B ne c' (es.flatMap EntryD.ints)) :
    Calls Try.prog 180 #[.slice A n c, .slice B ne c'] w (SlBRes w 3 (seenOver l es).1.length ((seenOver l es).1.flatMap MarkD.ints, (seenOver l es).2)) := by
  have hn : n ≤ 9223372036854775807 := Nat.le_trans h.cap h.big
  have hne : ne ≤ 9223372036854775807 := Nat.le_trans h'.cap h'.big
  have HL := Lib.hid (h.count MarkD.ints_len (by omega) : l.length = n)
  have HLE := Lib.hid (h'.count EntryD.ints_len (by omega) : es.length = ne)
  replace h := h.fit (by omega)
  replace h' := h'.fit (by omega)
  have hhi : min hi w.heap.size ≤ w.heap.size := Nat.min_le_right _ _
  have hhi' : min hi' w.heap.size ≤ w.heap.size := Nat.min_le_right _ _
  generalize min hi w.heap.size = hi at h hhi
  generalize min hi' w.heap.size = hi' at h' hhi'
  have hmm := @run_makeMap Try.prog
  cases hok : seenOk l with
  | false =>
    have e0 : seenOver l es = ([], false) := by simp [seenOver, hok]
    rw [e0]
    clear e0
    have CO : ∀ W, Sl W lo hi 3 A n c (l.flatMap MarkD.ints) → Calls Try.prog 88 #[.slice A n c] W fun x w' => x = .returned (.bool false) ∧ Below W.heap.size W w' := fun W s => by
      have h7 := seenOk_any A n c lo hi l W s
      rw [hok] at h7
      exact h7
    have HO := Lib.hid CO
    clear CO
    clear hok h'
    go_enter Try.func180, Try.ntmps180
    go_wp2_with fail
    (with_reducible refine (HO.out _ (h.below (B := w.heap.size) (by (repeat' (first | with_reducible exact Below.refl _ _ | with_reducible assumption | with_reducible refine Below.drew ?_ | with_reducible refine Below.alloc ?_ ?_ _ | with_reducible refine Below.setCell ?_ ?_ _ | with_reducible refine Below.trans ?_ (Below.mono (by assumption) ?_) | ((try simp only [World.heap_size_alloc, World.heap_size_drew, World.heap_size_setCell]); omega)))) hhi)).mono ?_); rintro _ w1 ⟨rfl, b1⟩
    have y1 := b1.size
    go_wp2_with fail
    go_ret2
    exact SlBRes.none b1 _ _ _ (by omega)
  | true =>
    have hn4 : n ≤ 4 := by rw [← HL.out]; exact seenOk_len hok
    have HC := Lib.hid (fun W s => copySeen_any A n c lo hi l W s (by omega))
    have CO : ∀ W, Sl W lo hi 3 A n c (l.flatMap MarkD.ints) → Calls Try.prog 88 #[.slice A n c] W fun x w' => x = .returned (.bool true) ∧ Below W.heap.size W w' := fun W s => by
      have h7 := seenOk_any A n c lo hi l W s
      rw [hok] at h7
      exact h7
    have HO := Lib.hid CO
    clear CO
    rcases Nat.lt_or_ge 2000 ne with hlong | hshort
    · have e0 : seenOver l es = (l, false) := by
        have : ¬ es.length ≤ 2000 := by rw [HLE.out]; omega
        simp [seenOver, hok, this]
      rw [e0]
      clear e0 hok h'
      go_enter Try.func180, Try.ntmps180
      go_wp2_with fail
      (with_reducible refine (HO.out _ (h.below (B := w.heap.size) (by (repeat' (first | with_reducible exact Below.refl _ _ | with_reducible assumption | with_reducible refine Below.drew ?_ | with_reducible refine Below.alloc ?_ ?_ _ | with_reducible refine Below.setCell ?_ ?_ _ | with_reducible refine Below.trans ?_ (Below.mono (by assumption) ?_) | ((try simp only [World.heap_size_alloc, World.heap_size_drew, World.heap_size_setCell]); omega)))) hhi)).mono ?_); rintro _ w1 ⟨rfl, b1⟩
      have y1 := b1.size
      go_wp2_with fail
      (with_reducible refine (HC.out _ (h.below b1 hhi)).mono ?_); rintro _ w3 ⟨A3, c3, rfl, s3, b3⟩
      go_wp2_with fail
      go_ret2
      rw [HL.out]
      exact ⟨A3, c3, rfl, s3.mono (by omega) (Nat.le_refl _), b1.trans (b3.mono (by omega))⟩
    · have HOK := Lib.hid hok
      have HLI := Lib.hid (fun W s => lastIdx_any A n c lo hi l W s)
      have HSO : Hid (seenOver l es = match overGo l es with
        | some r => (r, true)
        | none => (l, false)) := Lib.hid (by
        have : es.length ≤ 2000 := by rw [HLE.out]; exact hshort
        simp only [seenOver, hok, this, if_true]
        cases overGo l es <;> rfl)
      have H := Lib.hid h
      have H' := Lib.hid h'
      have hzero : ∀ W : World, (zeroValue 117).run Try.prog W = .ok (.agg #[.int .i64 0, .int .i64 0, .int .i64 0]) W := fun _ => by kernel_rfl
      have HZ := Lib.hid hzero
      clear hok hzero
      go_enter Try.func180, Try.ntmps180
      go_wp2_with fail
      (with_reducible refine (HO.out _ (h.below (B := w.heap.size) (by (repeat' (first | with_reducible exact Below.refl _ _ | with_reducible assumption | with_reducible refine Below.drew ?_ | with_reducible refine Below.alloc ?_ ?_ _ | with_reducible refine Below.setCell ?_ ?_ _ | with_reducible refine Below.trans ?_ (Below.mono (by assumption) ?_) | ((try simp only [World.heap_size_alloc, World.heap_size_drew, World.heap_size_setCell]); omega)))) hhi)).mono ?_); rintro _ w1 ⟨rfl, b1⟩
      have y1 := b1.size
      have HB1 := Lib.hid b1
      clear b1 h h'
      go_wp2_with fail
      have M0 : Hid (IMap Try.prog (w1.alloc (.map #[] 0)) 2 w1.heap.size 0 (markMap l 0)) := Lib.hid (by
        have h9 := IMap.made w1 Try.prog 2
        rwa [show (fun _ => none) = markMap l 0 from (markMap_zero l).symm] at h9)
      go_loopw [8, 27] (fun _ i wr => ∃ m : Nat, m ≤ n ∧ i = .int .i64 m ∧ Below w1.heap.size w1 wr ∧ IMap Try.prog wr 2 w1.heap.size m (markMap l m)) (fun _ i _ => n - (intOf i).toNat)
      case atStart => exact ⟨0, Nat.zero_le _, rfl, by (repeat' (first | with_reducible exact Below.refl _ _ | with_reducible assumption | with_reducible refine Below.drew ?_ | with_reducible refine Below.alloc ?_ ?_ _ | with_reducible refine Below.setCell ?_ ?_ _ | with_reducible refine Below.trans ?_ (Below.mono (by assumption) ?_) | ((try simp only [World.heap_size_alloc, World.heap_size_drew, World.heap_size_setCell]); omega))), M0.out⟩
      case round =>
        clear hmm
        obtain ⟨m, hm, rfl, hb, hmap⟩ := hrel
        have hbz := hb.size
        have hw : Below w.heap.size w wr := HB1.out.trans (hb.mono y1)
        by_cases hlt : m < n
        · obtain ⟨g, off, e, rfl, _, hg, he, p0, p1, p2⟩ := H.out.mark hlt
          have hg1 : g < w.heap.size := by omega
          have HE := Lib.hid he
          have r0 := (hw.cell (p := ⟨g, off + m * 3, none⟩) hg1).trans p0
          have r1 := (hw.cell (p := ⟨g, off + m * 3 + 1, none⟩) hg1).trans p1
          have r2 := (hw.cell (p := ⟨g, off + m * 3 + 2, none⟩) hg1).trans p2
          have hgw : g < wr.heap.size := by omega
          have hcl := (seenOk_markOk HOK.out (List.mem_of_getElem? he)).1
          have HWF := Lib.hid (wf64 (x := e.client) (by omega) (by omega))
          have HMP := Lib.hid (hmap.kept (show Below wr.heap.size wr (wr.alloc (.cells #[.int .i64 e.client, .int .i64 e.seq, .int .i64 e.index] 117)) by (repeat' (first | with_reducible exact Below.refl _ _ | with_reducible assumption | with_reducible refine Below.drew ?_ | with_reducible refine Below.alloc ?_ ?_ _ | with_reducible refine Below.setCell ?_ ?_ _ | with_reducible refine Below.trans ?_ (Below.mono (by assumption) ?_) | ((try simp only [World.heap_size_alloc, World.heap_size_drew, World.heap_size_setCell]); omega)))))
          have HB := Lib.hid hb
          clear he p0 p1 p2 hcl hmap
          go_wp2_with (at_mapUpdate; refine wpList_put rfl _ _ _ rfl HMP.out Try.underlying2 Try.underlying177 (by omega) rfl rfl rfl HWF.out ?_; intro w5 hm5 hg5)
          have hb5 : Below w1.heap.size w1 w5 := (HB.out.alloc (by omega) _).trans (grownBy_below hg5 (Nat.le_refl _) (by (try simp only [World.heap_size_alloc, World.heap_size_drew, World.heap_size_setCell]); omega))
          have HM5 := Lib.hid hm5
          clear hm5 hg5 hb
          go_roundw
          case rel => exact ⟨m + 1, hlt, by go_num, hb5, by rw [markMap_succ HOK.out HE.out]; exact HM5.out⟩
          case measure => simp [intOf]; omega
        · have hmn : m = n := by omega
          subst hmn
          have HB := Lib.hid hb
          have HMP : Hid (IMap Try.prog wr 2 w1.heap.size m (markFn l)) := Lib.hid (by rw [← markMap_all HL.out]; exact hmap)
          have hwz := hw.size
          have HW := Lib.hid hw
          clear hmap hb hw
          go_wp2_with fail
          (with_reducible refine (HLI.out _ (H.out.below HW.out hhi)).mono ?_); rintro _ w2 ⟨rfl, b2⟩
          have y2 := b2.size
          have HB2 := Lib.hid (HB.out.trans (b2.mono hbz))
          have HM2 := Lib.hid (HMP.out.kept b2)
          clear b2
          go_wp2_with fail
          go_loopw [9, 11, 40] (fun la _ i wr => ∃ (j : Nat) (r : List MarkD) (x : Int) (cnt : Nat), j ≤ ne ∧ i = .int .i64 j ∧ la = .int .i64 x ∧ Hid (x = lastIdx r) ∧ Hid (seenOk r = true) ∧ Hid (overGo l es = overGo r (es.drop j)) ∧ cnt ≤ 4 + j ∧ IMap Try.prog wr 2 w1.heap.size cnt (markFn r) ∧ Below w1.heap.size w1 wr) (fun _ _ i _ => ne - (intOf i).toNat)
          case atStart => exact ⟨0, l, _, m, Nat.zero_le _, rfl, rfl, rfl, HOK.out, rfl, by omega, HM2.out, HB2.out⟩
          case round =>
            obtain ⟨j, r, x, cnt, hj, rfl, rfl, hx, hr, hgo, hcnt, hmap, hb⟩ := hrel
            have hbz2 := hb.size
            have hw : Below w.heap.size w wr := HB1.out.trans (hb.mono y1)
            have hww := hw.size
            by_cases hlt2 : j < ne
            · obtain ⟨g, off, e, rfl, _, hg, he, p0, p1, p2, p3, p4, p5, p6, p7, p8⟩ := H'.out.entry hlt2
              have hg1 : g < w.heap.size := by omega
              have hgw : g < wr.heap.size := by omega
              have HE := Lib.hid he
              have r0 := (hw.cell (p := ⟨g, off + j * 9, none⟩) hg1).trans p0
              have r1 := (hw.cell (p := ⟨g, off + j * 9 + 1, none⟩) hg1).trans p1
              have r2 := (hw.cell (p := ⟨g, off + j * 9 + 2, none⟩) hg1).trans p2
              have r3 := (hw.cell (p := ⟨g, off + j * 9 + 3, none⟩) hg1).trans p3
              have r4 := (hw.cell (p := ⟨g, off + j * 9 + 4, none⟩) hg1).trans p4
              have r5 := (hw.cell (p := ⟨g, off + j * 9 + 5, none⟩) hg1).trans p5
              have r6 := (hw.cell (p := ⟨g, off + j * 9 + 6, none⟩) hg1).trans p6
              have r7 := (hw.cell (p := ⟨g, off + j * 9 + 7, none⟩) hg1).trans p7
              have r8 := (hw.cell (p := ⟨g, off + j * 9 + 8, none⟩) hg1).trans p8
              clear he p0 p1 p2 p3 p4 p5 p6 p7 p8
              have HB := Lib.hid hb
              have HW := Lib.hid hw
              have HMP := Lib.hid hmap
              clear hb hw hmap
              cases hE : entryOk e with
              | false =>
                have HMK : Hid (markable r e = false) := Lib.hid (by simp [markable, hE])
                have CE : ∀ W, Calls Try.prog 75 #[.agg #[.int .i64 e.index, .int .i64 e.time, .int .i64 e.client, .int .i64 e.seq, .int .i64 e.op.kind, .int .i64 e.op.a, .int .i64 e.op.b, .int .i64 e.op.c, .int .i64 e.op.d]] W fun x w' => x = .returned (.bool false) ∧ Below W.heap.size W w' := fun W => by
                  have h7 := entryOk_any e.index e.time e.client e.seq e.op.kind e.op.a e.op.b e.op.c e.op.d W
                  rw [show entryOk ⟨e.index, e.time, e.client, e.seq, ⟨e.op.kind, e.op.a, e.op.b, e.op.c, e.op.d⟩⟩ = false from hE] at h7
                  exact h7
                have HCE := Lib.hid CE
                clear CE
                clear hE
                go_wp2_with fail
                (with_reducible refine (HCE.out _).mono ?_); rintro _ w4 ⟨rfl, b4⟩
                have y4 := b4.size
                simp only [World.heap_size_alloc] at y4
                have v0 : w4.cell? ⟨wr.heap.size, 0, none⟩ = some (.int .i64 e.index) := (b4.cell (p := ⟨wr.heap.size, 0, none⟩) (by (try simp only [World.heap_size_alloc, World.heap_size_drew, World.heap_size_setCell]); omega)).trans (by simp)
                have v2 : w4.cell? ⟨wr.heap.size, 2, none⟩ = some (.int .i64 e.client) := (b4.cell (p := ⟨wr.heap.size, 2, none⟩) (by (try simp only [World.heap_size_alloc, World.heap_size_drew, World.heap_size_setCell]); omega)).trans (by simp)
                have v3 : w4.cell? ⟨wr.heap.size, 3, none⟩ = some (.int .i64 e.seq) := (b4.cell (p := ⟨wr.heap.size, 3, none⟩) (by (try simp only [World.heap_size_alloc, World.heap_size_drew, World.heap_size_setCell]); omega)).trans (by simp)
                have hb4 : Below wr.heap.size wr w4 := by (repeat' (first | with_reducible exact Below.refl _ _ | with_reducible assumption | with_reducible refine Below.drew ?_ | with_reducible refine Below.alloc ?_ ?_ _ | with_reducible refine Below.setCell ?_ ?_ _ | with_reducible refine Below.trans ?_ (Below.mono (by assumption) ?_) | ((try simp only [World.heap_size_alloc, World.heap_size_drew, World.heap_size_setCell]); omega)))
                have HB4 := Lib.hid (HB.out.trans (hb4.mono hbz2))
                have HM4 := Lib.hid (HMP.out.kept hb4)
                clear b4 hb4
                go_wp2_with fail
                (with_reducible refine (HC.out _ (H.out.below (HB1.out.trans (HB4.out.mono y1)) hhi)).mono ?_); rintro _ w7 ⟨A3, c3, rfl, s3, b3⟩
                go_wp2_with fail
                go_ret2
                rw [HSO.out, show overGo l es = none by rw [hgo.out, drop_cons HE.out]; simp [overGo, HMK.out]]
                show SlBRes w 3 l.length (l.flatMap MarkD.ints, false) _ _
                rw [HL.out]
                have y9 := HB4.out.size
                exact ⟨A3, c3, rfl, s3.mono (by omega) (Nat.le_refl _), (HB1.out.trans (HB4.out.mono y1)).trans (b3.mono (by omega))⟩
              | true =>
                have hcl : 2 ≤ e.client ∧ e.client ≤ 5 := by
                  simp only [entryOk, Bool.and_eq_true, btw_iff] at hE
                  exact hE.1.1.2
                have HWF := Lib.hid (wf64 (x := e.client) (by omega) (by omega))
                have HMO := Lib.hid (entryOk_mark hE)
                by_cases hS : e.seq ≤ (markAt r e.client).seq
                · have hs1 : decide (e.seq ≤ (markAt r e.client).seq) = true := by simpa using hS
                  have HMK : Hid (markable r e = false) := Lib.hid (by
                    have : decide ((markAt r e.client).seq < e.seq) = false := by simp; omega
                    simp [markable, this])
                  have CE : ∀ W, Calls Try.prog 75 #[.agg #[.int .i64 e.index, .int .i64 e.time, .int .i64 e.client, .int .i64 e.seq, .int .i64 e.op.kind, .int .i64 e.op.a, .int .i64 e.op.b, .int .i64 e.op.c, .int .i64 e.op.d]] W fun x w' => x = .returned (.bool true) ∧ Below W.heap.size W w' := fun W => by
                    have h7 := entryOk_any e.index e.time e.client e.seq e.op.kind e.op.a e.op.b e.op.c e.op.d W
                    rw [show entryOk ⟨e.index, e.time, e.client, e.seq, ⟨e.op.kind, e.op.a, e.op.b, e.op.c, e.op.d⟩⟩ = true from hE] at h7
                    exact h7
                  have HCE := Lib.hid CE
                  clear CE
                  clear hE hS hcl
                  go_wp2_with fail
                  (with_reducible refine (HCE.out _).mono ?_); rintro _ w4 ⟨rfl, b4⟩
                  have y4 := b4.size
                  simp only [World.heap_size_alloc] at y4
                  have v0 : w4.cell? ⟨wr.heap.size, 0, none⟩ = some (.int .i64 e.index) := (b4.cell (p := ⟨wr.heap.size, 0, none⟩) (by (try simp only [World.heap_size_alloc, World.heap_size_drew, World.heap_size_setCell]); omega)).trans (by simp)
                  have v2 : w4.cell? ⟨wr.heap.size, 2, none⟩ = some (.int .i64 e.client) := (b4.cell (p := ⟨wr.heap.size, 2, none⟩) (by (try simp only [World.heap_size_alloc, World.heap_size_drew, World.heap_size_setCell]); omega)).trans (by simp)
                  have v3 : w4.cell? ⟨wr.heap.size, 3, none⟩ = some (.int .i64 e.seq) := (b4.cell (p := ⟨wr.heap.size, 3, none⟩) (by (try simp only [World.heap_size_alloc, World.heap_size_drew, World.heap_size_setCell]); omega)).trans (by simp)
                  have hb4 : Below wr.heap.size wr w4 := by (repeat' (first | with_reducible exact Below.refl _ _ | with_reducible assumption | with_reducible refine Below.drew ?_ | with_reducible refine Below.alloc ?_ ?_ _ | with_reducible refine Below.setCell ?_ ?_ _ | with_reducible refine Below.trans ?_ (Below.mono (by assumption) ?_) | ((try simp only [World.heap_size_alloc, World.heap_size_drew, World.heap_size_setCell]); omega)))
                  have HB4 := Lib.hid (HB.out.trans (hb4.mono hbz2))
                  have HM4 := Lib.hid (HMP.out.kept hb4)
                  have hlk := (HM4.out).look (T := 177) Try.underlying2 Try.underlying177 (HZ.out w4) HWF.out false
                  rw [markFn_getD] at hlk
                  have hfd : ∀ W : World, (Instr.field 117 (.agg #[.int .i64 (markAt r e.client).client, .int .i64 (markAt r e.client).seq, .int .i64 (markAt r e.client).index]) 1).run Try.prog W = .ok (.int .i64 (markAt r e.client).seq) W := fun _ => by kernel_rfl
                  simp only [Bool.false_eq_true, if_false] at hlk
                  clear b4 hb4
                  go_wp2_with fail
                  (with_reducible refine (HC.out _ (H.out.below (HB1.out.trans (HB4.out.mono y1)) hhi)).mono ?_); rintro _ w7 ⟨A3, c3, rfl, s3, b3⟩
                  go_wp2_with fail
                  go_ret2
                  rw [HSO.out, show overGo l es = none by rw [hgo.out, drop_cons HE.out]; simp [overGo, HMK.out]]
                  show SlBRes w 3 l.length (l.flatMap MarkD.ints, false) _ _
                  rw [HL.out]
                  have y9 := HB4.out.size
                  exact ⟨A3, c3, rfl, s3.mono (by omega) (Nat.le_refl _), (HB1.out.trans (HB4.out.mono y1)).trans (b3.mono (by omega))⟩
                · have hs1 : decide (e.seq ≤ (markAt r e.client).seq) = false := by simpa using hS
                  by_cases hI : e.index ≤ x
                  · have hi1 : decide (e.index ≤ x) = true := by simpa using hI
                    have HMK : Hid (markable r e = false) := Lib.hid (by
                      have : decide (lastIdx r < e.index) = false := by rw [← hx.out]; simp; omega
                      simp [markable, this])
                    have CE : ∀ W, Calls Try.prog 75 #[.agg #[.int .i64 e.index, .int .i64 e.time, .int .i64 e.client, .int .i64 e.seq, .int .i64 e.op.kind, .int .i64 e.op.a, .int .i64 e.op.b, .int .i64 e.op.c, .int .i64 e.op.d]] W fun x w' => x = .returned (.bool true) ∧ Below W.heap.size W w' := fun W => by
                      have h7 := entryOk_any e.index e.time e.client e.seq e.op.kind e.op.a e.op.b e.op.c e.op.d W
                      rw [show entryOk ⟨e.index, e.time, e.client, e.seq, ⟨e.op.kind, e.op.a, e.op.b, e.op.c, e.op.d⟩⟩ = true from hE] at h7
                      exact h7
                    have HCE := Lib.hid CE
                    clear CE
                    clear hE hS hcl hI
                    go_wp2_with fail
                    (with_reducible refine (HCE.out _).mono ?_); rintro _ w4 ⟨rfl, b4⟩
                    have y4 := b4.size
                    simp only [World.heap_size_alloc] at y4
                    have v0 : w4.cell? ⟨wr.heap.size, 0, none⟩ = some (.int .i64 e.index) := (b4.cell (p := ⟨wr.heap.size, 0, none⟩) (by (try simp only [World.heap_size_alloc, World.heap_size_drew, World.heap_size_setCell]); omega)).trans (by simp)
                    have v2 : w4.cell? ⟨wr.heap.size, 2, none⟩ = some (.int .i64 e.client) := (b4.cell (p := ⟨wr.heap.size, 2, none⟩) (by (try simp only [World.heap_size_alloc, World.heap_size_drew, World.heap_size_setCell]); omega)).trans (by simp)
                    have v3 : w4.cell? ⟨wr.heap.size, 3, none⟩ = some (.int .i64 e.seq) := (b4.cell (p := ⟨wr.heap.size, 3, none⟩) (by (try simp only [World.heap_size_alloc, World.heap_size_drew, World.heap_size_setCell]); omega)).trans (by simp)
                    have hb4 : Below wr.heap.size wr w4 := by (repeat' (first | with_reducible exact Below.refl _ _ | with_reducible assumption | with_reducible refine Below.drew ?_ | with_reducible refine Below.alloc ?_ ?_ _ | with_reducible refine Below.setCell ?_ ?_ _ | with_reducible refine Below.trans ?_ (Below.mono (by assumption) ?_) | ((try simp only [World.heap_size_alloc, World.heap_size_drew, World.heap_size_setCell]); omega)))
                    have HB4 := Lib.hid (HB.out.trans (hb4.mono hbz2))
                    have HM4 := Lib.hid (HMP.out.kept hb4)
                    have hlk := (HM4.out).look (T := 177) Try.underlying2 Try.underlying177 (HZ.out w4) HWF.out false
                    rw [markFn_getD] at hlk
                    have hfd : ∀ W : World, (Instr.field 117 (.agg #[.int .i64 (markAt r e.client).client, .int .i64 (markAt r e.client).seq, .int .i64 (markAt r e.client).index]) 1).run Try.prog W = .ok (.int .i64 (markAt r e.client).seq) W := fun _ => by kernel_rfl
                    simp only [Bool.false_eq_true, if_false] at hlk
                    clear b4 hb4
                    go_wp2_with fail
                    (with_reducible refine (HC.out _ (H.out.below (HB1.out.trans (HB4.out.mono y1)) hhi)).mono ?_); rintro _ w7 ⟨A3, c3, rfl, s3, b3⟩
                    go_wp2_with fail
                    go_ret2
                    rw [HSO.out, show overGo l es = none by rw [hgo.out, drop_cons HE.out]; simp [overGo, HMK.out]]
                    show SlBRes w 3 l.length (l.flatMap MarkD.ints, false) _ _
                    rw [HL.out]
                    have y9 := HB4.out.size
                    exact ⟨A3, c3, rfl, s3.mono (by omega) (Nat.le_refl _), (HB1.out.trans (HB4.out.mono y1)).trans (b3.mono (by omega))⟩
                  · have hi1 : decide (e.index ≤ x) = false := by simpa using hI
                    have HMK : Hid (markable r e = true) := Lib.hid (markable_iff.2 ⟨hE, by omega, by rw [← hx.out]; omega⟩)
                    have CE : ∀ W, Calls Try.prog 75 #[.agg #[.int .i64 e.index, .int .i64 e.time, .int .i64 e.client, .int .i64 e.seq, .int .i64 e.op.kind, .int .i64 e.op.a, .int .i64 e.op.b, .int .i64 e.op.c, .int .i64 e.op.d]] W fun x w' => x = .returned (.bool true) ∧ Below W.heap.size W w' := fun W => by
                      have h7 := entryOk_any e.index e.time e.client e.seq e.op.kind e.op.a e.op.b e.op.c e.op.d W
                      rw [show entryOk ⟨e.index, e.time, e.client, e.seq, ⟨e.op.kind, e.op.a, e.op.b, e.op.c, e.op.d⟩⟩ = true from hE] at h7
                      exact h7
                    have HCE := Lib.hid CE
                    clear CE
                    clear hE hS hcl hI
                    go_wp2_with fail
                    (with_reducible refine (HCE.out _).mono ?_); rintro _ w4 ⟨rfl, b4⟩
                    have y4 := b4.size
                    simp only [World.heap_size_alloc] at y4
                    have v0 : w4.cell? ⟨wr.heap.size, 0, none⟩ = some (.int .i64 e.index) := (b4.cell (p := ⟨wr.heap.size, 0, none⟩) (by (try simp only [World.heap_size_alloc, World.heap_size_drew, World.heap_size_setCell]); omega)).trans (by simp)
                    have v2 : w4.cell? ⟨wr.heap.size, 2, none⟩ = some (.int .i64 e.client) := (b4.cell (p := ⟨wr.heap.size, 2, none⟩) (by (try simp only [World.heap_size_alloc, World.heap_size_drew, World.heap_size_setCell]); omega)).trans (by simp)
                    have v3 : w4.cell? ⟨wr.heap.size, 3, none⟩ = some (.int .i64 e.seq) := (b4.cell (p := ⟨wr.heap.size, 3, none⟩) (by (try simp only [World.heap_size_alloc, World.heap_size_drew, World.heap_size_setCell]); omega)).trans (by simp)
                    have hb4 : Below wr.heap.size wr w4 := by (repeat' (first | with_reducible exact Below.refl _ _ | with_reducible assumption | with_reducible refine Below.drew ?_ | with_reducible refine Below.alloc ?_ ?_ _ | with_reducible refine Below.setCell ?_ ?_ _ | with_reducible refine Below.trans ?_ (Below.mono (by assumption) ?_) | ((try simp only [World.heap_size_alloc, World.heap_size_drew, World.heap_size_setCell]); omega)))
                    have HB4 := Lib.hid (HB.out.trans (hb4.mono hbz2))
                    have HM4 := Lib.hid (HMP.out.kept hb4)
                    have hlk := (HM4.out).look (T := 177) Try.underlying2 Try.underlying177 (HZ.out w4) HWF.out false
                    rw [markFn_getD] at hlk
                    have hfd : ∀ W : World, (Instr.field 117 (.agg #[.int .i64 (markAt r e.client).client, .int .i64 (markAt r e.client).seq, .int .i64 (markAt r e.client).index]) 1).run Try.prog W = .ok (.int .i64 (markAt r e.client).seq) W := fun _ => by kernel_rfl
                    simp only [Bool.false_eq_true, if_false] at hlk
                    clear b4 hb4
                    have hB4 : w1.heap.size < w4.heap.size := HM4.out.lt
                    have hne1 : wr.heap.size ≠ w1.heap.size := by have := HMP.out.lt; omega
                    go_wp2_with (first | (at_delete; refine wpList_del rfl _ _ rfl HM4.out Try.underlying2 Try.underlying177 rfl rfl HWF.out ?_; intro w5 hm5 hg5; obtain ⟨k5, f5⟩ := gcell hg5 (b := wr.heap.size) (by omega) hne1; have HM5 := Lib.hid hm5; have HB5 := Lib.hid (HB4.out.trans (grownBy_below hg5 (Nat.le_refl _) (by omega))); have x0 := (k5 0).trans v0; have x2 := (k5 2).trans v2; have x3 := (k5 3).trans v3; have hz5 := hg5.size; clear hm5 hg5 k5 f5 v0 v2 v3 hlk hfd) | (at_mapUpdate; refine wpList_put rfl _ _ _ rfl HM5.out Try.underlying2 Try.underlying177 (by omega) rfl rfl rfl HWF.out ?_; intro w6 hm6 hg6; obtain ⟨k6, f6⟩ := gcell hg6 (b := wr.heap.size) (by omega) hne1; have HM6 := Lib.hid hm6; have HB6 := Lib.hid (HB5.out.trans (grownBy_below hg6 (Nat.le_refl _) (by omega))); have z0 := (k6 0).trans x0; clear hm6 hg6 k6 f6 x0 x2 x3))
                    go_roundw
                    case rel => exact ⟨j + 1, ins e.mark false r, e.index, cnt + 1, hlt2, by go_num, rfl, (lastIdx_ins (x := e.mark) (markable_iff.1 HMK.out).2.2).symm, seenOk_mark hr.out HMK.out, by
                      show overGo l es = _
                      rw [hgo.out, drop_cons HE.out]
                      simp [overGo, HMK.out], by omega, by rw [markFn_ins hr.out]; exact HM6.out, HB6.out⟩
                    case measure => simp [intOf]; omega
            · have hjn : j = ne := by omega
              subst hjn
              have HB := Lib.hid hb
              have HMP := Lib.hid hmap
              have HGO : Hid (overGo l es = some r) := Lib.hid (by rw [hgo.out, List.drop_of_length_le (by rw [HLE.out]; omega)]; rfl)
              have O0 : Hid (Own (wr.alloc (.cells #[] 117)) wr.heap.size 117 3 (.slice (some ⟨wr.heap.size, 0, none⟩) 0 0) 0 []) := Lib.hid (Own.new wr 117 3 [] (n := 0) rfl (Nat.le_refl _) (by omega))
              clear hb hw hmap
              obtain ⟨W0, hW0⟩ : ∃ W0, W0 = wr := ⟨_, rfl⟩
              rw [← hW0] at O0 HB HMP hbz2
              have HW0 := Lib.hid hW0
              have hB0 := HMP.out.lt
              go_wp2_with fail
              rw [← HW0.out]
              clear hW0
              go_loopw [12, 13, 14, 15] (fun v k _ _ wr => ∃ (q : Nat) (u : Value) (ys : List MarkD), q ≤ 4 ∧ k = .int .i64 (2 + (q : Int)) ∧ v = u ∧ ys.length ≤ q ∧ Hid (ys = ([2, 3, 4, 5].take q).filterMap (atClient r)) ∧ Own wr W0.heap.size 117 3 u ys.length (ys.flatMap MarkD.ints) ∧ Below W0.heap.size W0 wr) (fun _ k _ _ _ => 10 - (intOf k).toNat)
              case atStart => exact ⟨0, _, [], by omega, rfl, rfl, by simp, by simp [Hid], O0.out, by (repeat' (first | with_reducible exact Below.refl _ _ | with_reducible assumption | with_reducible refine Below.drew ?_ | with_reducible refine Below.alloc ?_ ?_ _ | with_reducible refine Below.setCell ?_ ?_ _ | with_reducible refine Below.trans ?_ (Below.mono (by assumption) ?_) | ((try simp only [World.heap_size_alloc, World.heap_size_drew, World.heap_size_setCell]); omega)))⟩
              case round =>
                obtain ⟨q, u, ys, hq, rfl, rfl, hyl, hys, ho, hb⟩ := hrel
                have hbz3 := hb.size
                have HO := Lib.hid ho
                by_cases hlt3 : q < 4
                · have HWF := Lib.hid (wf64 (x := 2 + (q : Int)) (by omega) (by omega))
                  have hlk := (HMP.out.below hb hB0).look (T := 177) Try.underlying2 Try.underlying177 (HZ.out wr) HWF.out true
                  simp only [if_true] at hlk
                  have HB3 := Lib.hid hb
                  cases hat : atClient r (2 + (q : Int)) with
                  | none =>
                    rw [markFn_none hat] at hlk
                    simp only [Option.getD_none, Option.isSome_none] at hlk
                    have HAT := Lib.hid hat
                    clear hat ho hb
                    go_wp2
                    go_roundw
                    case rel => exact ⟨q + 1, _, ys, hlt3, by go_num, rfl, by omega, by
                      show ys = _
                      rw [take_keys hlt3, List.filterMap_append, ← hys.out]
                      simp [HAT.out], HO.out.kept (by (repeat' (first | with_reducible exact Below.refl _ _ | with_reducible assumption | with_reducible refine Below.drew ?_ | with_reducible refine Below.alloc ?_ ?_ _ | with_reducible refine Below.setCell ?_ ?_ _ | with_reducible refine Below.trans ?_ (Below.mono (by assumption) ?_) | ((try simp only [World.heap_size_alloc, World.heap_size_drew, World.heap_size_setCell]); omega)))), HB3.out.alloc (by omega) _⟩
                    case measure => simp [intOf]; omega
                  | some p =>
                    rw [markFn_some hat] at hlk
                    simp only [Option.getD_some, Option.isSome_some] at hlk
                    have HAT := Lib.hid hat
                    clear hat ho hb
                    go_wp2_with (at_builtin; go_loud (refine wpList_append_sl _ rfl (.tmp 93) (.tmp 95) 47 rfl W0.heap.size 117 Try.underlying47 infoMark rfl (by omega) _ _ _ rfl ((HO.out.kept ((Below.refl _ _).alloc (Nat.le_refl _) _)).kept ((Below.refl _ _).alloc (Nat.le_refl _) _)) _ 1 1 _ _ [p.client, p.seq, p.index] rfl (src_new2 wr (.cells #[.int .i64 p.client, .int .i64 p.seq, .int .i64 p.index] 117) 117 3 [p.client, p.seq, p.index] rfl) (by omega) (by omega) (by (try simp only [World.heap_size_alloc, World.heap_size_drew, World.heap_size_setCell]); omega) ?_); intro v7 w7 o7 g7 a7)
                    have hb7 : Below W0.heap.size W0 w7 := ((HB3.out.alloc (by omega) _).alloc (by (try simp only [World.heap_size_alloc, World.heap_size_drew, World.heap_size_setCell]); omega) _).trans (grown_below g7 (by (try simp only [World.heap_size_alloc, World.heap_size_drew, World.heap_size_setCell]); omega) (fun b hb => (Own.lt HO.out b hb).1))
                    have HO7 := Lib.hid o7
                    clear o7 g7 a7
                    go_roundw
                    case rel => exact ⟨q + 1, _, ys ++ [p], hlt3, by go_num, rfl, by rw [List.length_append]; simp only [List.length_singleton]; omega, by
                      show ys ++ [p] = _
                      rw [take_keys hlt3, List.filterMap_append, ← hys.out]
                      simp [HAT.out], by rw [List.length_append, List.flatMap_append]; exact HO7.out, hb7⟩
                    case measure => simp [intOf]; omega
                · have hq4 : q = 4 := by omega
                  subst hq4
                  have HB3 := Lib.hid hb
                  clear hb ho
                  go_wp2
                  go_ret2
                  obtain ⟨A9, c9, rfl, s9⟩ := HO.out.sl
                  have e9 : ys = r := by
                    have h8 := gather_at hr.out
                    unfold gather at h8
                    rw [hys.out]
                    exact h8
                  rw [e9] at s9
                  rw [e9, HSO.out, HGO.out]
                  have y9 := HB.out.size
                  exact ⟨A9, c9, rfl, s9.mono (by omega) (Nat.le_refl _), (HB1.out.trans (HB.out.mono y1)).trans (HB3.out.mono (by omega))⟩
end Go.Proofs.Ytgnilmdaegnaaaa
