/- A part of a book's entries: the model, and what the reference's function returns. No conditions. -/
import Derived.Test.YtijefbmnhcecmaaBk6
import Derived.Test.YtijefbmnhcecmaaApp
set_option linter.unusedSimpArgs false
set_option linter.unusedVariables false
namespace Go.Proofs.Ytijefbmnhcecmaa
open Go.RowKit

def fromP (f : Int) (e : EntryD) : Bool := decide (f ≤ e.index)
def partOfM (b t : Int) (l : List EntryD) (f many : Int) : List EntryD := if bookOk b t l then (l.filter (fromP f)).take many.toNat else []
theorem partOfM_len (b t : Int) (l : List EntryD) (f many : Int) : (partOfM b t l f many).length ≤ 20 := by
  unfold partOfM
  split
  · have h1 := (bookOk_facts ‹_›).2.2.2.2.1
    have h2 := List.length_filter_le (fromP f) l
    rw [List.length_take]
    omega
  · simp
theorem partOf_all {b t : Int} {l : List EntryD} {f many : Int} (hok : bookOk b t l = true) (h : (l.filter (fromP f)).length ≤ many.toNat) : partOfM b t l f many = l.filter (fromP f) := by
  unfold partOfM
  rw [if_pos hok, List.take_of_length_le h]
theorem partOf_stop {b t : Int} {l : List EntryD} {f many : Int} {m : Nat} (hok : bookOk b t l = true) (h : ((l.take m).filter (fromP f)).length = many.toNat) : partOfM b t l f many = (l.take m).filter (fromP f) := by
  unfold partOfM
  rw [if_pos hok]
  have e : l.filter (fromP f) = (l.take m).filter (fromP f) ++ (l.drop m).filter (fromP f) := by rw [← List.filter_append, List.take_append_drop]
  rw [e, ← h, List.take_append_of_le_length (Nat.le_refl _), List.take_length]
theorem take_filter_step {l : List EntryD} {f : Int} {m : Nat} {e : EntryD} (he : l[m]? = some e) : (l.take (m + 1)).filter (fromP f) = (l.take m).filter (fromP f) ++ if f ≤ e.index then [e] else [] := by
  obtain ⟨h1, rfl⟩ := List.getElem?_eq_some_iff.1 he
  rw [List.take_succ_eq_append_getElem h1, List.filter_append]
  by_cases hf : f ≤ l[m].index <;> simp [fromP, hf]

set_option maxRecDepth 100000 in
set_option maxHeartbeats 4000000 in
theorem sPartOf_any (b t : Int) (A : Option Addr) (n c lo hi : Nat) (l : List EntryD) (f many : Int) (w : World) (h : Sl w lo hi 9 A n c (l.flatMap EntryD.ints)) :
    Calls Try.prog 30 #[.agg #[.int .i64 b, .int .i64 t, .slice A n c], .int .i64 f, .int .i64 many] w (SlRes w 9 (partOfM b t l f many).length ((partOfM b t l f many).flatMap EntryD.ints)) := by
  have hn : n ≤ 9223372036854775807 := Nat.le_trans h.cap h.big
  have HL := Lib.hid (h.count EntryD.ints_len (by omega) : l.length = n)
  replace h := h.fit (by omega)
  have hhi : min hi w.heap.size ≤ w.heap.size := Nat.min_le_right _ _
  generalize min hi w.heap.size = hi at h hhi
  cases hok : bookOk b t l with
  | false =>
    have e0 : partOfM b t l f many = [] := by simp [partOfM, hok]
    rw [e0]
    clear e0
    have CO : ∀ W, Sl W lo hi 9 A n c (l.flatMap EntryD.ints) → Calls Try.prog 21 #[.agg #[.int .i64 b, .int .i64 t, .slice A n c]] W fun x w' => x = .returned (.bool false) ∧ Below W.heap.size W w' := fun W s => by
      have h7 := sBookOk_any b t A n c lo hi l W s
      rw [hok] at h7
      exact h7
    have HO := Lib.hid CO
    clear CO
    clear hok
    go_enter Try.func30, Try.ntmps30
    go_wp2_with fail
    (with_reducible refine (HO.out _ (h.below (B := w.heap.size) (by (repeat' (first | with_reducible exact Below.refl _ _ | with_reducible assumption | with_reducible refine Below.drew ?_ | with_reducible refine Below.alloc ?_ ?_ _ | with_reducible refine Below.setCell ?_ ?_ _ | with_reducible refine Below.trans ?_ (Below.mono (by assumption) ?_) | ((try simp only [World.heap_size_alloc, World.heap_size_drew, World.heap_size_setCell]); omega)))) hhi)).mono ?_); rintro _ w1 ⟨rfl, b1⟩
    have y1 := b1.size
    (try simp only [World.heap_size_alloc] at y1)
    have hw1 : Below w.heap.size w w1 := by (repeat' (first | with_reducible exact Below.refl _ _ | with_reducible assumption | with_reducible refine Below.drew ?_ | with_reducible refine Below.alloc ?_ ?_ _ | with_reducible refine Below.setCell ?_ ?_ _ | with_reducible refine Below.trans ?_ (Below.mono (by assumption) ?_) | ((try simp only [World.heap_size_alloc, World.heap_size_drew, World.heap_size_setCell]); omega)))
    go_wp2_with fail
    go_ret
    exact SlRes.none (by (repeat' (first | with_reducible exact Below.refl _ _ | with_reducible assumption | with_reducible refine Below.drew ?_ | with_reducible refine Below.alloc ?_ ?_ _ | with_reducible refine Below.setCell ?_ ?_ _ | with_reducible refine Below.trans ?_ (Below.mono (by assumption) ?_) | ((try simp only [World.heap_size_alloc, World.heap_size_drew, World.heap_size_setCell]); omega)))) _ _ _ (by omega)
  | true =>
    obtain ⟨q0, q1, q2, q3, q4, _⟩ := bookOk_facts hok
    rw [HL.out] at q4
    obtain ⟨pl, hpl⟩ : ∃ pl, partOfM b t l f many = pl := ⟨_, rfl⟩
    rw [hpl]
    have HALL : Hid ((l.filter (fromP f)).length ≤ many.toNat → pl = l.filter (fromP f)) := Lib.hid (fun h9 => hpl.symm.trans (partOf_all hok h9))
    have HSTOP : Hid (∀ m, ((l.take m).filter (fromP f)).length = many.toNat → pl = (l.take m).filter (fromP f)) := Lib.hid (fun m h9 => hpl.symm.trans (partOf_stop hok h9))
    clear hpl
    have CO : ∀ W, Sl W lo hi 9 A n c (l.flatMap EntryD.ints) → Calls Try.prog 21 #[.agg #[.int .i64 b, .int .i64 t, .slice A n c]] W fun x w' => x = .returned (.bool true) ∧ Below W.heap.size W w' := fun W s => by
      have h7 := sBookOk_any b t A n c lo hi l W s
      rw [hok] at h7
      exact h7
    have HO := Lib.hid CO
    clear CO
    clear hok
    go_enter Try.func30, Try.ntmps30
    go_wp2_with fail
    (with_reducible refine (HO.out _ (h.below (B := w.heap.size) (by (repeat' (first | with_reducible exact Below.refl _ _ | with_reducible assumption | with_reducible refine Below.drew ?_ | with_reducible refine Below.alloc ?_ ?_ _ | with_reducible refine Below.setCell ?_ ?_ _ | with_reducible refine Below.trans ?_ (Below.mono (by assumption) ?_) | ((try simp only [World.heap_size_alloc, World.heap_size_drew, World.heap_size_setCell]); omega)))) hhi)).mono ?_); rintro _ w1 ⟨rfl, b1⟩
    have y1 := b1.size
    (try simp only [World.heap_size_alloc] at y1)
    have hw1 : Below w.heap.size w w1 := by (repeat' (first | with_reducible exact Below.refl _ _ | with_reducible assumption | with_reducible refine Below.drew ?_ | with_reducible refine Below.alloc ?_ ?_ _ | with_reducible refine Below.setCell ?_ ?_ _ | with_reducible refine Below.trans ?_ (Below.mono (by assumption) ?_) | ((try simp only [World.heap_size_alloc, World.heap_size_drew, World.heap_size_setCell]); omega)))
    have v0 : w1.cell? ⟨w.heap.size, 0, none⟩ = some (.int .i64 b) := (b1.cell (p := ⟨w.heap.size, 0, none⟩) (by (try simp only [World.heap_size_alloc, World.heap_size_drew, World.heap_size_setCell]); omega)).trans (by simp)
    have v1 : w1.cell? ⟨w.heap.size, 1, none⟩ = some (.int .i64 t) := (b1.cell (p := ⟨w.heap.size, 1, none⟩) (by (try simp only [World.heap_size_alloc, World.heap_size_drew, World.heap_size_setCell]); omega)).trans (by simp)
    have v2 : w1.cell? ⟨w.heap.size, 2, none⟩ = some (.slice A n c) := (b1.cell (p := ⟨w.heap.size, 2, none⟩) (by (try simp only [World.heap_size_alloc, World.heap_size_drew, World.heap_size_setCell]); omega)).trans (by simp)
    have ho0 : Own w1 (w.heap.size + 1) 37 9 (.slice (some ⟨w.heap.size + 1, 0, none⟩) 0 0) 0 [] := by
      have h9 := (Own.new (w.alloc (.cells #[.int .i64 b, .int .i64 t, .slice A n c] 29)) (base := w.heap.size + 1) 37 9 [] (n := 0) rfl (by (try simp only [World.heap_size_alloc, World.heap_size_drew, World.heap_size_setCell]); omega) (by omega)).kept b1
      rw [World.heap_size_alloc] at h9
      exact h9
    have H := Lib.hid h
    have HO0 := Lib.hid ho0
    have HW1 := Lib.hid hw1
    clear h ho0 b1 hw1
    go_wp2_with fail
    go_loopw [7, 8] (fun u i wr => ∃ (m rk : Nat) (v : Value) (r : List EntryD), m ≤ n ∧ i = .int .i64 (m : Nat) ∧ u = v ∧ Hid (r = (l.take m).filter (fromP f) ∧ r.length = rk) ∧ rk ≤ many.toNat ∧ rk ≤ m ∧ Own wr (w.heap.size + 1) 37 9 v rk (r.flatMap EntryD.ints) ∧ Below (w.heap.size + 1) w1 wr) (fun _ i _ => n - (intOf i).toNat)
    case atStart => exact ⟨0, 0, _, [], Nat.zero_le _, rfl, rfl, ⟨by simp, rfl⟩, Nat.zero_le _, Nat.le_refl _, HO0.out, Below.refl _ _⟩
    case round =>
      obtain ⟨m, rk, v, r, hm, rfl, rfl, hr, hk, hkm, ho, hb⟩ := hrel
      have HO := Lib.hid ho
      have yb := hb.size
      have v2r := (hb.cell (p := ⟨w.heap.size, 2, none⟩) (show w.heap.size < w.heap.size + 1 by omega)).trans v2
      have hbw : Below w.heap.size w wr := HW1.out.trans (hb.mono (by omega))
      have HBW := Lib.hid hbw
      clear hbw
      by_cases hlt : m < n
      · by_cases hg : (rk : Int) < many
        · obtain ⟨g, off, e, rfl, _, hge, he, p0, p1, p2, p3, p4, p5, p6, p7, p8⟩ := H.out.entry hlt
          obtain ⟨Ao, co, rfl, so⟩ := ho.sl
          have hgw : g < w.heap.size := by omega
          have r0 := (HBW.out.cell (p := ⟨g, off + m * 9, none⟩) hgw).trans p0
          have r1 := (HBW.out.cell (p := ⟨g, off + m * 9 + 1, none⟩) hgw).trans p1
          have r2 := (HBW.out.cell (p := ⟨g, off + m * 9 + 2, none⟩) hgw).trans p2
          have r3 := (HBW.out.cell (p := ⟨g, off + m * 9 + 3, none⟩) hgw).trans p3
          have r4 := (HBW.out.cell (p := ⟨g, off + m * 9 + 4, none⟩) hgw).trans p4
          have r5 := (HBW.out.cell (p := ⟨g, off + m * 9 + 5, none⟩) hgw).trans p5
          have r6 := (HBW.out.cell (p := ⟨g, off + m * 9 + 6, none⟩) hgw).trans p6
          have r7 := (HBW.out.cell (p := ⟨g, off + m * 9 + 7, none⟩) hgw).trans p7
          have r8 := (HBW.out.cell (p := ⟨g, off + m * 9 + 8, none⟩) hgw).trans p8
          have hstep := take_filter_step (f := f) he
          clear he p0 p1 p2 p3 p4 p5 p6 p7 p8 so ho
          by_cases hf : f ≤ e.index
          · rw [if_pos hf] at hstep
            have HST := Lib.hid hstep
            clear hstep
            have hse : Sl (wr.alloc (.cells #[.int .i64 e.index, .int .i64 e.time, .int .i64 e.client, .int .i64 e.seq, .int .i64 e.op.kind, .int .i64 e.op.a, .int .i64 e.op.b, .int .i64 e.op.c, .int .i64 e.op.d] 37)) wr.heap.size (wr.alloc (.cells #[.int .i64 e.index, .int .i64 e.time, .int .i64 e.client, .int .i64 e.seq, .int .i64 e.op.kind, .int .i64 e.op.a, .int .i64 e.op.b, .int .i64 e.op.c, .int .i64 e.op.d] 37)).heap.size 9 (some ⟨wr.heap.size, 0, none⟩) 1 1 e.ints := ⟨rfl, by omega, by omega, fun _ => ⟨_, 0, rfl, Nat.le_refl _, by simp, ints_new wr 37 e.ints⟩⟩
            have hoe := HO.out.kept (w' := (wr.alloc (.cells #[.int .i64 e.index, .int .i64 e.time, .int .i64 e.client, .int .i64 e.seq, .int .i64 e.op.kind, .int .i64 e.op.a, .int .i64 e.op.b, .int .i64 e.op.c, .int .i64 e.op.d] 37))) ((Below.refl _ _).alloc (Nat.le_refl _) _)
            have HSE := Lib.hid hse
            have HOE := Lib.hid hoe
            clear hse hoe
            go_wp2_with (at_builtin; go_loud (refine wpList_append_sl _ rfl (.tmp 35) (.tmp 41) 27 rfl (w.heap.size + 1) 37 Try.underlying27 infoEntry rfl (by omega) _ _ _ rfl HOE.out _ 1 1 _ _ e.ints rfl HSE.out (by omega) (by omega) (by (try simp only [World.heap_size_alloc, World.heap_size_drew, World.heap_size_setCell]); omega) ?_); intro v3 w3 o3 g3 a3; have b3 : Below (w.heap.size + 1) w1 w3 := (hb.alloc (by omega) _).trans (grown_below g3 (by (try simp only [World.heap_size_alloc, World.heap_size_drew, World.heap_size_setCell]); omega) (fun g hg => (Own.lt HOE.out g hg).1)); obtain ⟨A3, c3, rfl, s3⟩ := o3.sl; have O3 := Lib.hid o3; clear o3 g3 a3 s3)
            go_roundw
            case rel => exact ⟨m + 1, rk + 1, _, r ++ [e], hlt, by go_num, rfl, Lib.hid ⟨by rw [HST.out, ← hr.out.1], by rw [List.length_append, hr.out.2]; rfl⟩, by omega, by omega, by rw [List.flatMap_append]; simpa using O3.out, b3⟩
            case measure => simp [intOf]; omega
          · rw [if_neg hf, List.append_nil] at hstep
            have HST := Lib.hid hstep
            clear hstep
            go_wp2_with fail
            go_roundw
            case rel => exact ⟨m + 1, rk, _, r, hlt, by go_num, rfl, Lib.hid ⟨by rw [HST.out]; exact hr.out.1, hr.out.2⟩, hk, by omega, HO.out, hb⟩
            case measure => simp [intOf]; omega
        · have hpl : pl = r := (HSTOP.out m (by rw [← hr.out.1, hr.out.2]; omega)).trans hr.out.1.symm
          obtain ⟨Ao, co, rfl, so⟩ := ho.sl
          have SO := Lib.hid so
          have HPL := Lib.hid hpl
          clear so ho hpl
          go_wp2_with fail
          go_ret
          rw [HPL.out, hr.out.2]
          exact ⟨Ao, co, rfl, SO.out.mono (by omega) (Nat.le_refl _), HBW.out⟩
      · have hpl : pl = r := by
          have h5 : r = l.filter (fromP f) := by rw [hr.out.1, List.take_of_length_le (by rw [HL.out]; omega)]
          exact (HALL.out (by rw [← h5, hr.out.2]; exact hk)).trans h5.symm
        obtain ⟨Ao, co, rfl, so⟩ := ho.sl
        have SO := Lib.hid so
        have HPL := Lib.hid hpl
        clear so ho hpl
        go_wp2_with fail
        go_ret
        rw [HPL.out, hr.out.2]
        exact ⟨Ao, co, rfl, SO.out.mono (by omega) (Nat.le_refl _), HBW.out⟩

end Go.Proofs.Ytijefbmnhcecmaa
