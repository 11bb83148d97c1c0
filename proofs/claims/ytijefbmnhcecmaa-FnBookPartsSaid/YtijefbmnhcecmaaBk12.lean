/- Books: grown, the program's function. No conditions. -/
import Derived.Test.YtijefbmnhcecmaaBk10
import Derived.Test.YtijefbmnhcecmaaGrow0
set_option linter.unusedSimpArgs false
set_option linter.unusedVariables false
namespace Go.Proofs.Ytijefbmnhcecmaa
open Go.RowKit

theorem gcellO {w w' : World} {o : Option Nat} (hg : w.grownBy w' o) {b : Nat} (hb : b < w.heap.size) (hne : ∀ g, o = some g → g ≠ b) : (∀ q, w'.cell? ⟨b, q, none⟩ = w.cell? ⟨b, q, none⟩) ∧ (∀ q, w'.frozen? ⟨b, q, none⟩ = w.frozen? ⟨b, q, none⟩) := by
  have h := hg.block b hb (fun e => hne b e.symm rfl)
  exact ⟨fun q => World.cell?_of_block (w := w) (a := ⟨b, q, none⟩) h, fun q => World.frozen?_of_block (w := w) (a := ⟨b, q, none⟩) h⟩
theorem Own.setC {w : World} {base e k : Nat} {v : Value} {n : Nat} {zs : List Int} (h : Own w base e k v n zs) {B : Nat} (hne : ∀ g, v.ownBlock = some g → g ≠ B) (q : Nat) (x : Value) : Own (w.setCell ⟨B, q, none⟩ x) base e k v n zs := by
  refine ⟨h.1, ?_⟩
  rcases h.2 with hn | ⟨g, cap, cur, hv, hg, hh, r⟩
  · exact .inl hn
  · refine .inr ⟨g, cap, cur, hv, hg, ?_, r⟩
    have hu : Upd B (B + 1) w (w.setCell ⟨B, q, none⟩ x) := (Upd.refl B (B + 1) w).setCell (p := ⟨B, q, none⟩) (Nat.le_refl _) (Nat.lt_succ_self _) _
    have hgb := hne g (by rw [hv]; rfl)
    rw [hu.block g (Array.getElem?_eq_some_iff.1 hh).1 (by omega)]
    exact hh
def GrRel (w1 : World) (OB E m : Nat) (b t : Int) (l es : List EntryD) (i : Value) (wr : World) : Prop :=
  ∃ (j : Nat) (k : List EntryD) (v : Value), j ≤ m ∧ i = .int .i64 (j : Nat) ∧ Hid (growM b t l (es.take j) = some k) ∧ Own wr w1.heap.size E 9 v k.length (k.flatMap EntryD.ints) ∧ (∀ g, v.ownBlock = some g → g ≠ OB) ∧
    wr.cell? ⟨OB, 0, none⟩ = some (.int .i64 b) ∧ wr.cell? ⟨OB, 1, none⟩ = some (.int .i64 t) ∧ wr.cell? ⟨OB, 2, none⟩ = some v ∧ wr.frozen? ⟨OB, 2, none⟩ = false ∧ OB < wr.heap.size ∧ Below w1.heap.size w1 wr
theorem GrRel.step {w1 w4 : World} {OB E m j : Nat} {b t : Int} {l es k : List EntryD} {e : EntryD} {v x : Value} {i : Value} (hlt : j < m) (hg : growM b t l (es.take j) = some k) (he : es[j]? = some e) (hf : fitsM b t k e = true)
    (ho : Own w4 w1.heap.size E 9 v (k.length + 1) (k.flatMap EntryD.ints ++ e.ints)) (hne : ∀ g, v.ownBlock = some g → g ≠ OB) (c0 : w4.cell? ⟨OB, 0, none⟩ = some (.int .i64 b)) (c1 : w4.cell? ⟨OB, 1, none⟩ = some (.int .i64 t)) (c2 : w4.cell? ⟨OB, 2, none⟩ = some x) (f2 : w4.frozen? ⟨OB, 2, none⟩ = false)
    (hz : OB < w4.heap.size) (hle : w1.heap.size ≤ OB) (hb : Below w1.heap.size w1 w4) (hi : i = .int .i64 ((j + 1 : Nat) : Int)) : GrRel w1 OB E m b t l es i (w4.setCell ⟨OB, 2, none⟩ v) :=
  ⟨j + 1, k ++ [e], v, hlt, hi, growM_take_succ hg he hf, by
    have := Own.setC ho hne 2 v
    rw [List.length_append, List.flatMap_append]
    simpa using this, hne, (World.cell?_setCell_other _ _ _ _ (by simp)).trans c0, (World.cell?_setCell_other _ _ _ _ (by simp)).trans c1, World.cell?_setCell_same _ _ _ c2, (World.frozen?_setCell _ _ _ _).trans f2, by rw [World.heap_size_setCell]; exact hz, hb.setCell (p := ⟨OB, 2, none⟩) hle _⟩
set_option maxRecDepth 100000 in
set_option maxHeartbeats 4000000 in
theorem grown_any (b t : Int) (A : Option Addr) (n c lo hi : Nat) (l : List EntryD) (B : Option Addr) (m d lo' hi' : Nat) (es : List EntryD) (w : World) (h : Sl w lo hi 9 A n c (l.flatMap EntryD.ints)) (h' : Sl w lo' hi' 9 B m d (es.flatMap EntryD.ints)) :
    Calls Try.prog 47 #[.agg #[.int .i64 b, .int .i64 t, .slice A n c], .slice B m d] w (BookBRes w (grownM b t l es).1 (grownM b t l es).2.1 (grownM b t l es).2.2.1.length ((grownM b t l es).2.2.1.flatMap EntryD.ints) (grownM b t l es).2.2.2) := by
  have HL := Lib.hid (h.count EntryD.ints_len (by omega) : l.length = n)
  have HM := Lib.hid (h'.count EntryD.ints_len (by omega) : es.length = m)
  have hmb : m ≤ 9223372036854775807 := Nat.le_trans h'.cap h'.big
  replace h := h.fit (by omega)
  have hhi : min hi w.heap.size ≤ w.heap.size := Nat.min_le_right _ _
  generalize min hi w.heap.size = hi at h hhi
  replace h' := h'.fit (by omega)
  have hhi' : min hi' w.heap.size ≤ w.heap.size := Nat.min_le_right _ _
  generalize min hi' w.heap.size = hi' at h' hhi'
  cases hok : bookOk b t l with
  | false =>
    have e0 : grownM b t l es = (0, 0, [], false) := by simp [grownM, hok]
    rw [e0]
    clear e0
    have CO : ∀ W, Sl W lo hi 9 A n c (l.flatMap EntryD.ints) → Calls Try.prog 22 #[.agg #[.int .i64 b, .int .i64 t, .slice A n c]] W fun x w' => x = .returned (.bool false) ∧ Below W.heap.size W w' := fun W s => by
      have h7 := bookOk_any b t A n c lo hi l W s
      rw [hok] at h7
      exact h7
    have HO := Lib.hid CO
    clear CO
    clear hok
    go_enter Try.func47, Try.ntmps47
    go_wp2_with fail
    (with_reducible refine (HO.out _ (h.below (B := w.heap.size) (by (repeat' (first | with_reducible exact Below.refl _ _ | with_reducible assumption | with_reducible refine Below.drew ?_ | with_reducible refine Below.alloc ?_ ?_ _ | with_reducible refine Below.setCell ?_ ?_ _ | with_reducible refine Below.trans ?_ (Below.mono (by assumption) ?_) | ((try simp only [World.heap_size_alloc, World.heap_size_drew, World.heap_size_setCell]); omega)))) hhi)).mono ?_); rintro _ w1 ⟨rfl, b1⟩
    have y1 := b1.size
    (try simp only [World.heap_size_alloc] at y1)
    have hw1 : Below w.heap.size w w1 := by (repeat' (first | with_reducible exact Below.refl _ _ | with_reducible assumption | with_reducible refine Below.drew ?_ | with_reducible refine Below.alloc ?_ ?_ _ | with_reducible refine Below.setCell ?_ ?_ _ | with_reducible refine Below.trans ?_ (Below.mono (by assumption) ?_) | ((try simp only [World.heap_size_alloc, World.heap_size_drew, World.heap_size_setCell]); omega)))
    have m0 : w1.cell? ⟨w.heap.size + 1, 0, none⟩ = some (.int .i64 0) := (b1.cell (p := ⟨w.heap.size + 1, 0, none⟩) (by (try simp only [World.heap_size_alloc, World.heap_size_drew, World.heap_size_setCell]); omega)).trans (by simp)
    have f0 : w1.frozen? ⟨w.heap.size + 1, 0, none⟩ = false := (b1.frozen (p := ⟨w.heap.size + 1, 0, none⟩) (by (try simp only [World.heap_size_alloc, World.heap_size_drew, World.heap_size_setCell]); omega)).trans (by simp)
    have m1 : w1.cell? ⟨w.heap.size + 1, 1, none⟩ = some (.int .i64 0) := (b1.cell (p := ⟨w.heap.size + 1, 1, none⟩) (by (try simp only [World.heap_size_alloc, World.heap_size_drew, World.heap_size_setCell]); omega)).trans (by simp)
    have f1 : w1.frozen? ⟨w.heap.size + 1, 1, none⟩ = false := (b1.frozen (p := ⟨w.heap.size + 1, 1, none⟩) (by (try simp only [World.heap_size_alloc, World.heap_size_drew, World.heap_size_setCell]); omega)).trans (by simp)
    have m2 : w1.cell? ⟨w.heap.size + 1, 2, none⟩ = some (.slice none 0 0) := (b1.cell (p := ⟨w.heap.size + 1, 2, none⟩) (by (try simp only [World.heap_size_alloc, World.heap_size_drew, World.heap_size_setCell]); omega)).trans (by simp)
    have f2 : w1.frozen? ⟨w.heap.size + 1, 2, none⟩ = false := (b1.frozen (p := ⟨w.heap.size + 1, 2, none⟩) (by (try simp only [World.heap_size_alloc, World.heap_size_drew, World.heap_size_setCell]); omega)).trans (by simp)
    go_wp2_with fail
    refine bodyPost_ret (v := .tuple #[.agg #[.int .i64 0, .int .i64 0, .slice none 0 0], .bool false]) (by simp [results, Try.results47, go_sem, m0, m1, m2]) rfl ⟨none, 0, rfl, Sl.nil _ _ _ _ _ _ (by omega), ?_⟩
    exact hw1.trans (by (repeat' (first | with_reducible exact Below.refl _ _ | with_reducible assumption | with_reducible refine Below.drew ?_ | with_reducible refine Below.alloc ?_ ?_ _ | with_reducible refine Below.setCell ?_ ?_ _ | with_reducible refine Below.trans ?_ (Below.mono (by assumption) ?_) | ((try simp only [World.heap_size_alloc, World.heap_size_drew, World.heap_size_setCell]); omega))))
  | true =>
    obtain ⟨q0, q1, q2, q3, q4, _⟩ := bookOk_facts hok
    rw [HL.out] at q4
    have CO : ∀ W, Sl W lo hi 9 A n c (l.flatMap EntryD.ints) → Calls Try.prog 22 #[.agg #[.int .i64 b, .int .i64 t, .slice A n c]] W fun x w' => x = .returned (.bool true) ∧ Below W.heap.size W w' := fun W s => by
      have h7 := bookOk_any b t A n c lo hi l W s
      rw [hok] at h7
      exact h7
    have HO := Lib.hid CO
    clear CO
    have HOK := Lib.hid hok
    generalize hr : grownM b t l es = r
    obtain ⟨rb, rt, rl, rok⟩ := r
    simp only
    have HR := Lib.hid hr
    clear hr
    have HCP := Lib.hid (fun W s => copyBookO_any b t A n c lo hi l W s (by omega))
    clear hok
    go_enter Try.func47, Try.ntmps47
    go_wp2_with fail
    (with_reducible refine (HO.out _ (h.below (B := w.heap.size) (by (repeat' (first | with_reducible exact Below.refl _ _ | with_reducible assumption | with_reducible refine Below.drew ?_ | with_reducible refine Below.alloc ?_ ?_ _ | with_reducible refine Below.setCell ?_ ?_ _ | with_reducible refine Below.trans ?_ (Below.mono (by assumption) ?_) | ((try simp only [World.heap_size_alloc, World.heap_size_drew, World.heap_size_setCell]); omega)))) hhi)).mono ?_); rintro _ w1 ⟨rfl, b1⟩
    have y1 := b1.size
    (try simp only [World.heap_size_alloc] at y1)
    have hw1 : Below w.heap.size w w1 := by (repeat' (first | with_reducible exact Below.refl _ _ | with_reducible assumption | with_reducible refine Below.drew ?_ | with_reducible refine Below.alloc ?_ ?_ _ | with_reducible refine Below.setCell ?_ ?_ _ | with_reducible refine Below.trans ?_ (Below.mono (by assumption) ?_) | ((try simp only [World.heap_size_alloc, World.heap_size_drew, World.heap_size_setCell]); omega)))
    have ab0 : w1.cell? ⟨w.heap.size, 0, none⟩ = some (.int .i64 b) := (b1.cell (p := ⟨w.heap.size, 0, none⟩) (by (try simp only [World.heap_size_alloc, World.heap_size_drew, World.heap_size_setCell]); omega)).trans (by simp)
    have ab1 : w1.cell? ⟨w.heap.size, 1, none⟩ = some (.int .i64 t) := (b1.cell (p := ⟨w.heap.size, 1, none⟩) (by (try simp only [World.heap_size_alloc, World.heap_size_drew, World.heap_size_setCell]); omega)).trans (by simp)
    have ab2 : w1.cell? ⟨w.heap.size, 2, none⟩ = some (.slice A n c) := (b1.cell (p := ⟨w.heap.size, 2, none⟩) (by (try simp only [World.heap_size_alloc, World.heap_size_drew, World.heap_size_setCell]); omega)).trans (by simp)
    have am0 : w1.cell? ⟨w.heap.size + 1, 0, none⟩ = some (.int .i64 0) := (b1.cell (p := ⟨w.heap.size + 1, 0, none⟩) (by (try simp only [World.heap_size_alloc, World.heap_size_drew, World.heap_size_setCell]); omega)).trans (by simp)
    have am1 : w1.cell? ⟨w.heap.size + 1, 1, none⟩ = some (.int .i64 0) := (b1.cell (p := ⟨w.heap.size + 1, 1, none⟩) (by (try simp only [World.heap_size_alloc, World.heap_size_drew, World.heap_size_setCell]); omega)).trans (by simp)
    have am2 : w1.cell? ⟨w.heap.size + 1, 2, none⟩ = some (.slice none 0 0) := (b1.cell (p := ⟨w.heap.size + 1, 2, none⟩) (by (try simp only [World.heap_size_alloc, World.heap_size_drew, World.heap_size_setCell]); omega)).trans (by simp)
    have az0 : w1.frozen? ⟨w.heap.size + 1, 0, none⟩ = false := (b1.frozen (p := ⟨w.heap.size + 1, 0, none⟩) (by (try simp only [World.heap_size_alloc, World.heap_size_drew, World.heap_size_setCell]); omega)).trans (by simp)
    have az1 : w1.frozen? ⟨w.heap.size + 1, 1, none⟩ = false := (b1.frozen (p := ⟨w.heap.size + 1, 1, none⟩) (by (try simp only [World.heap_size_alloc, World.heap_size_drew, World.heap_size_setCell]); omega)).trans (by simp)
    have az2 : w1.frozen? ⟨w.heap.size + 1, 2, none⟩ = false := (b1.frozen (p := ⟨w.heap.size + 1, 2, none⟩) (by (try simp only [World.heap_size_alloc, World.heap_size_drew, World.heap_size_setCell]); omega)).trans (by simp)
    have BK : ∀ W, Below w1.heap.size w1 W → (W.cell? ⟨w.heap.size, 0, none⟩ = some (.int .i64 b) ∧ W.cell? ⟨w.heap.size, 1, none⟩ = some (.int .i64 t) ∧ W.cell? ⟨w.heap.size, 2, none⟩ = some (.slice A n c) ∧ W.cell? ⟨w.heap.size + 1, 0, none⟩ = some (.int .i64 0) ∧ W.cell? ⟨w.heap.size + 1, 1, none⟩ = some (.int .i64 0) ∧ W.cell? ⟨w.heap.size + 1, 2, none⟩ = some (.slice none 0 0) ∧ W.frozen? ⟨w.heap.size + 1, 0, none⟩ = false ∧ W.frozen? ⟨w.heap.size + 1, 1, none⟩ = false ∧ W.frozen? ⟨w.heap.size + 1, 2, none⟩ = false) := fun W hb => ⟨(hb.cell (p := ⟨w.heap.size, 0, none⟩) (show w.heap.size < w1.heap.size by omega)).trans ab0, (hb.cell (p := ⟨w.heap.size, 1, none⟩) (show w.heap.size < w1.heap.size by omega)).trans ab1, (hb.cell (p := ⟨w.heap.size, 2, none⟩) (show w.heap.size < w1.heap.size by omega)).trans ab2, (hb.cell (p := ⟨w.heap.size + 1, 0, none⟩) (show w.heap.size + 1 < w1.heap.size by omega)).trans am0, (hb.cell (p := ⟨w.heap.size + 1, 1, none⟩) (show w.heap.size + 1 < w1.heap.size by omega)).trans am1, (hb.cell (p := ⟨w.heap.size + 1, 2, none⟩) (show w.heap.size + 1 < w1.heap.size by omega)).trans am2, (hb.frozen (p := ⟨w.heap.size + 1, 0, none⟩) (show w.heap.size + 1 < w1.heap.size by omega)).trans az0, (hb.frozen (p := ⟨w.heap.size + 1, 1, none⟩) (show w.heap.size + 1 < w1.heap.size by omega)).trans az1, (hb.frozen (p := ⟨w.heap.size + 1, 2, none⟩) (show w.heap.size + 1 < w1.heap.size by omega)).trans az2⟩
    have HBK := Lib.hid BK
    obtain ⟨aa0, aa1, aa2, -⟩ := BK w1 (Below.refl _ _)
    clear BK
    go_wp2_with fail
    (with_reducible refine (HCP.out _ (h.below hw1 hhi)).mono ?_); rintro _ w2 ⟨A2, c2, rfl, o2, b2⟩
    have y2 := b2.size
    have hz1 : w.heap.size + 1 < w1.heap.size := by omega
    have HO2 := Lib.hid o2
    have HB2 := Lib.hid b2
    have HW1 := Lib.hid hw1
    clear o2 b2 hw1 b1 aa0 aa1 aa2 ab0 ab1 ab2 am0 am1 am2 az0 az1 az2
    go_wp2_with fail
    go_loopw [8, 17] (fun _ i wr => GrRel w1 w2.heap.size 37 m b t l es i wr) (fun _ i _ => m - (intOf i).toNat)
    case atStart => exact ⟨0, l, _, Nat.zero_le _, rfl, rfl, by rw [HL.out]; exact HO2.out.kept (by (repeat' (first | with_reducible exact Below.refl _ _ | with_reducible assumption | with_reducible refine Below.drew ?_ | with_reducible refine Below.alloc ?_ ?_ _ | with_reducible refine Below.setCell ?_ ?_ _ | with_reducible refine Below.trans ?_ (Below.mono (by assumption) ?_) | ((try simp only [World.heap_size_alloc, World.heap_size_drew, World.heap_size_setCell]); omega)))), fun g hg => by have := (Own.lt HO2.out g hg).2; omega, by simp, by simp, by simp, by simp, by (try simp only [World.heap_size_alloc, World.heap_size_drew, World.heap_size_setCell]); omega, HB2.out.alloc (by omega) _⟩
    case round =>
      obtain ⟨j, k, v, hj, rfl, hg, ho, hne, c0, c1, c2', f2, hz, hb⟩ := hrel
      have hbz := hb.size
      have hkb := growM_ok HOK.out hg.out
      have hkl := (bookOk_iff.1 hkb).2.2.2.1
      have HKB := Lib.hid hkb
      obtain ⟨Ak, ck, rfl, sk⟩ := ho.sl
      have SK := Lib.hid sk
      have HO := Lib.hid ho
      have HB := Lib.hid hb
      have HNE := Lib.hid hne
      have HW : Hid (Below w.heap.size w wr) := Lib.hid (HW1.out.trans (hb.mono (by omega)))
      clear hkb sk
      by_cases hlt : j < m
      · obtain ⟨g, off, e, rfl, _, hg1, he, p0, p1, p2, p3, p4, p5, p6, p7, p8⟩ := h'.entry hlt
        have hgw := Nat.lt_of_lt_of_le hg1 hhi'
        have r0 := (HW.out.cell (p := ⟨g, off + j * 9, none⟩) hgw).trans p0
        have r1 := (HW.out.cell (p := ⟨g, off + j * 9 + 1, none⟩) hgw).trans p1
        have r2 := (HW.out.cell (p := ⟨g, off + j * 9 + 2, none⟩) hgw).trans p2
        have r3 := (HW.out.cell (p := ⟨g, off + j * 9 + 3, none⟩) hgw).trans p3
        have r4 := (HW.out.cell (p := ⟨g, off + j * 9 + 4, none⟩) hgw).trans p4
        have r5 := (HW.out.cell (p := ⟨g, off + j * 9 + 5, none⟩) hgw).trans p5
        have r6 := (HW.out.cell (p := ⟨g, off + j * 9 + 6, none⟩) hgw).trans p6
        have r7 := (HW.out.cell (p := ⟨g, off + j * 9 + 7, none⟩) hgw).trans p7
        have r8 := (HW.out.cell (p := ⟨g, off + j * 9 + 8, none⟩) hgw).trans p8
        clear p0 p1 p2 p3 p4 p5 p6 p7 p8
        have HE := Lib.hid he
        clear he ho hb hne
        have CF : ∀ W, Sl W w1.heap.size wr.heap.size 9 Ak k.length ck (k.flatMap EntryD.ints) → Calls Try.prog 73 #[.agg #[.int .i64 b, .int .i64 t, .slice Ak k.length ck], .agg #[.int .i64 e.index, .int .i64 e.time, .int .i64 e.client, .int .i64 e.seq, .int .i64 e.op.kind, .int .i64 e.op.a, .int .i64 e.op.b, .int .i64 e.op.c, .int .i64 e.op.d]] W fun x w' => x = .returned (.bool (fitsM b t k e)) ∧ Below W.heap.size W w' := fun W s => fits_any b t Ak k.length ck _ _ k e W s q0 q1 hkl
        have HCF := Lib.hid CF
        clear CF
        have S2 : Hid (Sl (wr.alloc (.cells #[.int .i64 e.index, .int .i64 e.time, .int .i64 e.client, .int .i64 e.seq, .int .i64 e.op.kind, .int .i64 e.op.a, .int .i64 e.op.b, .int .i64 e.op.c, .int .i64 e.op.d] 37)) w1.heap.size wr.heap.size 9 Ak k.length ck (k.flatMap EntryD.ints)) := Lib.hid (SK.out.below (B := wr.heap.size) (by (repeat' (first | with_reducible exact Below.refl _ _ | with_reducible assumption | with_reducible refine Below.drew ?_ | with_reducible refine Below.alloc ?_ ?_ _ | with_reducible refine Below.setCell ?_ ?_ _ | with_reducible refine Below.trans ?_ (Below.mono (by assumption) ?_) | ((try simp only [World.heap_size_alloc, World.heap_size_drew, World.heap_size_setCell]); omega)))) (Nat.le_refl _))
        cases hf : fitsM b t k e with
        | false =>
          rw [hf] at HCF
          have hgf : growM b t l es = none := growM_fail hg.out HE.out hf
          have e0 : grownM b t l es = (b, t, l, false) := by unfold grownM; rw [if_pos HOK.out, hgf]
          have h9 := e0.symm.trans HR.out
          simp only [Prod.mk.injEq] at h9
          obtain ⟨rfl, rfl, rfl, rfl⟩ := h9
          clear e0 hgf hf hg HR
          go_wp2_with fail
          (with_reducible refine (HCF.out _ S2.out).mono ?_); rintro _ w3 ⟨rfl, b3⟩
          have y3 := b3.size
          (try simp only [World.heap_size_alloc] at y3)
          have hb3 : Below w1.heap.size w1 w3 := HB.out.trans (((Below.refl _ _).alloc (by omega) _).trans (b3.mono (by (try simp only [World.heap_size_alloc, World.heap_size_drew, World.heap_size_setCell]); omega)))
          obtain ⟨cc0, cc1, cc2, m0, m1, m2, z0, z1, z2⟩ := HBK.out w3 hb3
          have hw3 := HW1.out.trans (hb3.mono (by omega))
          clear z0 z1 z2 m0 m1 m2
          go_wp2_with fail
          (with_reducible refine (HCP.out _ (h.below hw3 hhi)).mono ?_); rintro _ w5 ⟨A5, c5, rfl, o5, b5⟩
          have y5 := b5.size
          have hb5 : Below w1.heap.size w1 w5 := hb3.trans (b5.mono (by omega))
          clear cc0 cc1 cc2
          obtain ⟨cc0, cc1, cc2, m0, m1, m2, z0, z1, z2⟩ := HBK.out w5 hb5
          have hw5 := HW1.out.trans (hb5.mono (by omega))
          obtain ⟨_, _, e9, s5⟩ := o5.sl
          injection e9 with e9 _ e10
          subst e9 e10
          go_wp2_with fail
          refine bodyPost_ret (v := .tuple #[.agg #[.int .i64 b, .int .i64 t, .slice A5 n c5], .bool false]) (by simp [results, Try.results47, go_sem, m0, m1, m2]) rfl ⟨A5, c5, by rw [HL.out], ?_, ?_⟩
          · rw [HL.out]
            refine Sl.mono (Sl.upd (lo' := w.heap.size + 1) (hi' := w.heap.size + 2) s5 ?_ (.inr (by omega))) (by omega) (by (try simp only [World.heap_size_alloc, World.heap_size_drew, World.heap_size_setCell]); omega)
            (repeat' (first | with_reducible exact Upd.refl _ _ _ | with_reducible assumption | with_reducible refine Upd.drew ?_ | with_reducible refine Upd.alloc ?_ _ | with_reducible refine Upd.setCell ?_ ?_ ?_ _ | (simp only []; omega) | omega))
          · have c9 := hw5
            (repeat' (first | with_reducible exact Below.refl _ _ | with_reducible assumption | with_reducible refine Below.drew ?_ | with_reducible refine Below.alloc ?_ ?_ _ | with_reducible refine Below.setCell ?_ ?_ _ | with_reducible refine Below.trans ?_ (Below.mono (by assumption) ?_) | ((try simp only [World.heap_size_alloc, World.heap_size_drew, World.heap_size_setCell]); omega)))
        | true =>
          rw [hf] at HCF
          have HF := Lib.hid hf
          clear hf
          go_wp2_with fail
          (with_reducible refine (HCF.out _ S2.out).mono ?_); rintro _ w3 ⟨rfl, b3⟩
          have y3 := b3.size
          (try simp only [World.heap_size_alloc] at y3)
          have hb3 : Below w1.heap.size w1 w3 := HB.out.trans (((Below.refl _ _).alloc (by omega) _).trans (b3.mono (by (try simp only [World.heap_size_alloc, World.heap_size_drew, World.heap_size_setCell]); omega)))
          have e0 : w3.cell? ⟨w2.heap.size, 0, none⟩ = some (.int .i64 b) := (b3.cell (p := ⟨w2.heap.size, 0, none⟩) (by (try simp only [World.heap_size_alloc, World.heap_size_drew, World.heap_size_setCell]); omega)).trans ((World.cell?_alloc_lt _ _ _ hz).trans c0)
          have e1 : w3.cell? ⟨w2.heap.size, 1, none⟩ = some (.int .i64 t) := (b3.cell (p := ⟨w2.heap.size, 1, none⟩) (by (try simp only [World.heap_size_alloc, World.heap_size_drew, World.heap_size_setCell]); omega)).trans ((World.cell?_alloc_lt _ _ _ hz).trans c1)
          have e2 : w3.cell? ⟨w2.heap.size, 2, none⟩ = some (.slice Ak k.length ck) := (b3.cell (p := ⟨w2.heap.size, 2, none⟩) (by (try simp only [World.heap_size_alloc, World.heap_size_drew, World.heap_size_setCell]); omega)).trans ((World.cell?_alloc_lt _ _ _ hz).trans c2')
          have ez2 : w3.frozen? ⟨w2.heap.size, 2, none⟩ = false := (b3.frozen (p := ⟨w2.heap.size, 2, none⟩) (by (try simp only [World.heap_size_alloc, World.heap_size_drew, World.heap_size_setCell]); omega)).trans ((frozen_alloc_lt _ _ (p := ⟨w2.heap.size, 2, none⟩) hz).trans f2)
          have d0 : w3.cell? ⟨wr.heap.size, 0, none⟩ = some (.int .i64 e.index) := (b3.cell (p := ⟨wr.heap.size, 0, none⟩) (by (try simp only [World.heap_size_alloc, World.heap_size_drew, World.heap_size_setCell]); omega)).trans (by simp)
          have d1 : w3.cell? ⟨wr.heap.size, 1, none⟩ = some (.int .i64 e.time) := (b3.cell (p := ⟨wr.heap.size, 1, none⟩) (by (try simp only [World.heap_size_alloc, World.heap_size_drew, World.heap_size_setCell]); omega)).trans (by simp)
          have d2 : w3.cell? ⟨wr.heap.size, 2, none⟩ = some (.int .i64 e.client) := (b3.cell (p := ⟨wr.heap.size, 2, none⟩) (by (try simp only [World.heap_size_alloc, World.heap_size_drew, World.heap_size_setCell]); omega)).trans (by simp)
          have d3 : w3.cell? ⟨wr.heap.size, 3, none⟩ = some (.int .i64 e.seq) := (b3.cell (p := ⟨wr.heap.size, 3, none⟩) (by (try simp only [World.heap_size_alloc, World.heap_size_drew, World.heap_size_setCell]); omega)).trans (by simp)
          have d4 : w3.cell? ⟨wr.heap.size, 4, none⟩ = some (.int .i64 e.op.kind) := (b3.cell (p := ⟨wr.heap.size, 4, none⟩) (by (try simp only [World.heap_size_alloc, World.heap_size_drew, World.heap_size_setCell]); omega)).trans (by simp)
          have d5 : w3.cell? ⟨wr.heap.size, 5, none⟩ = some (.int .i64 e.op.a) := (b3.cell (p := ⟨wr.heap.size, 5, none⟩) (by (try simp only [World.heap_size_alloc, World.heap_size_drew, World.heap_size_setCell]); omega)).trans (by simp)
          have d6 : w3.cell? ⟨wr.heap.size, 6, none⟩ = some (.int .i64 e.op.b) := (b3.cell (p := ⟨wr.heap.size, 6, none⟩) (by (try simp only [World.heap_size_alloc, World.heap_size_drew, World.heap_size_setCell]); omega)).trans (by simp)
          have d7 : w3.cell? ⟨wr.heap.size, 7, none⟩ = some (.int .i64 e.op.c) := (b3.cell (p := ⟨wr.heap.size, 7, none⟩) (by (try simp only [World.heap_size_alloc, World.heap_size_drew, World.heap_size_setCell]); omega)).trans (by simp)
          have d8 : w3.cell? ⟨wr.heap.size, 8, none⟩ = some (.int .i64 e.op.d) := (b3.cell (p := ⟨wr.heap.size, 8, none⟩) (by (try simp only [World.heap_size_alloc, World.heap_size_drew, World.heap_size_setCell]); omega)).trans (by simp)
          have hz3 : w2.heap.size < w3.heap.size := by omega
          have HO3 : Hid (Own (w3.alloc (.cells #[.int .i64 e.index, .int .i64 e.time, .int .i64 e.client, .int .i64 e.seq, .int .i64 e.op.kind, .int .i64 e.op.a, .int .i64 e.op.b, .int .i64 e.op.c, .int .i64 e.op.d] 37)) w1.heap.size 37 9 (.slice Ak k.length ck) k.length (k.flatMap EntryD.ints)) := Lib.hid (HO.out.kept ((((Below.refl _ _).alloc (Nat.le_refl _) _).trans (b3.mono (by (try simp only [World.heap_size_alloc, World.heap_size_drew, World.heap_size_setCell]); omega))).alloc (by (try simp only [World.heap_size_alloc, World.heap_size_drew, World.heap_size_setCell]); omega) _))
          have HS1 : Hid (Sl (w3.alloc (.cells #[.int .i64 e.index, .int .i64 e.time, .int .i64 e.client, .int .i64 e.seq, .int .i64 e.op.kind, .int .i64 e.op.a, .int .i64 e.op.b, .int .i64 e.op.c, .int .i64 e.op.d] 37)) w3.heap.size (w3.alloc (.cells #[.int .i64 e.index, .int .i64 e.time, .int .i64 e.client, .int .i64 e.seq, .int .i64 e.op.kind, .int .i64 e.op.a, .int .i64 e.op.b, .int .i64 e.op.c, .int .i64 e.op.d] 37)).heap.size 9 (some ⟨w3.heap.size, 0, none⟩) 1 1 e.ints) := Lib.hid ⟨rfl, by omega, by omega, fun _ => ⟨_, 0, rfl, by (try simp only [World.heap_size_alloc, World.heap_size_drew, World.heap_size_setCell]); omega, by simp, ints_new w3 37 e.ints⟩⟩
          have hb4 : Hid (Below w1.heap.size w1 (w3.alloc (.cells #[.int .i64 e.index, .int .i64 e.time, .int .i64 e.client, .int .i64 e.seq, .int .i64 e.op.kind, .int .i64 e.op.a, .int .i64 e.op.b, .int .i64 e.op.c, .int .i64 e.op.d] 37))) := Lib.hid (hb3.alloc (by omega) _)
          have t0 : (w3.alloc (.cells #[.int .i64 e.index, .int .i64 e.time, .int .i64 e.client, .int .i64 e.seq, .int .i64 e.op.kind, .int .i64 e.op.a, .int .i64 e.op.b, .int .i64 e.op.c, .int .i64 e.op.d] 37)).cell? ⟨w2.heap.size, 0, none⟩ = some (.int .i64 b) := (World.cell?_alloc_lt _ _ _ hz3).trans e0
          have t1 : (w3.alloc (.cells #[.int .i64 e.index, .int .i64 e.time, .int .i64 e.client, .int .i64 e.seq, .int .i64 e.op.kind, .int .i64 e.op.a, .int .i64 e.op.b, .int .i64 e.op.c, .int .i64 e.op.d] 37)).cell? ⟨w2.heap.size, 1, none⟩ = some (.int .i64 t) := (World.cell?_alloc_lt _ _ _ hz3).trans e1
          have t2 : (w3.alloc (.cells #[.int .i64 e.index, .int .i64 e.time, .int .i64 e.client, .int .i64 e.seq, .int .i64 e.op.kind, .int .i64 e.op.a, .int .i64 e.op.b, .int .i64 e.op.c, .int .i64 e.op.d] 37)).cell? ⟨w2.heap.size, 2, none⟩ = some (.slice Ak k.length ck) := (World.cell?_alloc_lt _ _ _ hz3).trans e2
          have tz : (w3.alloc (.cells #[.int .i64 e.index, .int .i64 e.time, .int .i64 e.client, .int .i64 e.seq, .int .i64 e.op.kind, .int .i64 e.op.a, .int .i64 e.op.b, .int .i64 e.op.c, .int .i64 e.op.d] 37)).frozen? ⟨w2.heap.size, 2, none⟩ = false := (frozen_alloc_lt _ _ (p := ⟨w2.heap.size, 2, none⟩) hz3).trans ez2
          have T := Lib.hid (And.intro t0 (And.intro t1 (And.intro t2 tz)))
          clear t0 t1 t2 tz hb3 b3
          go_wp2_with (at_builtin; go_loud (refine wpList_append_sl _ rfl (.tmp 28) (.tmp 30) 27 rfl w1.heap.size 37 Try.underlying27 infoEntry rfl (by omega) _ _ _ rfl HO3.out _ 1 1 _ _ e.ints rfl HS1.out (by omega) (by omega) (by (try simp only [World.heap_size_alloc, World.heap_size_drew, World.heap_size_setCell]); omega) ?_); intro v4 w4 o4 g4 a4; obtain ⟨k4c, k4f⟩ := gcellO g4 (b := w2.heap.size) (by (try simp only [World.heap_size_alloc, World.heap_size_drew, World.heap_size_setCell]); omega) (fun g hg => HNE.out g hg); have u0 := (k4c 0).trans T.out.1; have u1 := (k4c 1).trans T.out.2.1; have u2 := (k4c 2).trans T.out.2.2.1; have uz := (k4f 2).trans T.out.2.2.2; have y4 := g4.size; have hb5 := hb4.out.trans (grown_below g4 (by (try simp only [World.heap_size_alloc, World.heap_size_drew, World.heap_size_setCell]); omega) (fun g hg => (Own.lt HO3.out g hg).1)); have hn4 : ∀ g, v4.ownBlock = some g → g ≠ w2.heap.size := (fun g hg => by rcases a4 with a4 | a4 <;> rw [a4] at hg; exact HNE.out g hg; (injection hg with hg; simp only [World.heap_size_alloc] at hg; omega)); obtain ⟨A4, c4, rfl, s4⟩ := o4.sl; have HO4 := Lib.hid o4; have HN4 := Lib.hid hn4; have HB5 := Lib.hid hb5; clear o4 g4 a4 s4 k4c k4f hn4 hb5)
          (try simp only [World.heap_size_alloc] at y4)
          go_roundw
          case rel => exact GrRel.step hlt hg.out HE.out HF.out HO4.out HN4.out u0 u1 u2 uz (by omega) (by omega) HB5.out (by go_num)
          case measure => simp [intOf]; omega
      · have hjm : j = m := by omega
        subst hjm
        have hgf : growM b t l es = some k := by
          have := hg.out
          rwa [List.take_of_length_le (by rw [HM.out]; omega)] at this
        have e0 : grownM b t l es = (b, t, k, true) := by unfold grownM; rw [if_pos HOK.out, hgf]
        have h9 := e0.symm.trans HR.out
        simp only [Prod.mk.injEq] at h9
        obtain ⟨rfl, rfl, rfl, rfl⟩ := h9
        obtain ⟨cc0, cc1, cc2, m0, m1, m2, z0, z1, z2⟩ := HBK.out wr HB.out
        clear e0 hgf hg HR cc0 cc1 cc2 ho hb hne
        go_wp2_with fail
        refine bodyPost_ret (v := .tuple #[.agg #[.int .i64 b, .int .i64 t, .slice Ak k.length ck], .bool true]) (by simp [results, Try.results47, go_sem, m0, m1, m2]) rfl ⟨Ak, ck, rfl, ?_, ?_⟩
        · refine Sl.mono (Sl.upd (lo' := w.heap.size + 1) (hi' := w.heap.size + 2) SK.out ?_ (.inr (by omega))) (by omega) (by (try simp only [World.heap_size_alloc, World.heap_size_drew, World.heap_size_setCell]); omega)
          (repeat' (first | with_reducible exact Upd.refl _ _ _ | with_reducible assumption | with_reducible refine Upd.drew ?_ | with_reducible refine Upd.alloc ?_ _ | with_reducible refine Upd.setCell ?_ ?_ ?_ _ | (simp only []; omega) | omega))
        · have c9 := HW.out
          (repeat' (first | with_reducible exact Below.refl _ _ | with_reducible assumption | with_reducible refine Below.drew ?_ | with_reducible refine Below.alloc ?_ ?_ _ | with_reducible refine Below.setCell ?_ ?_ _ | with_reducible refine Below.trans ?_ (Below.mono (by assumption) ?_) | ((try simp only [World.heap_size_alloc, World.heap_size_drew, World.heap_size_setCell]); omega)))

end Go.Proofs.Ytijefbmnhcecmaa
